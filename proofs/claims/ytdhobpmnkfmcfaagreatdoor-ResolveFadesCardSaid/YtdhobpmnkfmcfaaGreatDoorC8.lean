/- Which boards are valid: what the program says. -/
import Derived.Test.YtdhobpmnkfmcfaaGreatDoorC1
import Derived.Test.YtdhobpmnkfmcfaaGreatDoorFw2
import Derived.Test.YtdhobpmnkfmcfaaGreatDoorFw2
import Derived.Test.YtdhobpmnkfmcfaaGreatDoorFw2
import Derived.Lib.Overlaps
import Derived.Lib.AppendZerosOnto
namespace Go.Proofs.YtdhobpmnkfmcfaaGreatDoor
open Go Go.Sx
set_option maxRecDepth 100000
set_option maxHeartbeats 1000000
theorem ER {α : Type} [DecidableEq α] : ∀ {l r : List α}, l.Nodup → (∀ x ∈ l, x ∈ r) → l.length ≤ r.length
 | [], _, _, _ => Nat.zero_le _
 | a :: l, r, hn, hs => by
  rw [List.nodup_cons] at hn
  have har : a ∈ r := hs a (by simp)
  have h1 := ER (r := r.erase a) hn.2 fun x hx => by
   have : x ≠ a := fun e => hn.1 (e ▸ hx)
   exact (List.mem_erase_of_ne this).2 (hs x (by simp [hx]))
  rw [List.length_erase_of_mem har] at h1
  have := List.length_pos_of_mem har
  simp only [List.length_cons]; omega
theorem FT {α : Type} [DecidableEq α] {l r : List α} (hn : l.Nodup) (hs : ∀ x ∈ l, x ∈ r) (hl : r.length ≤ l.length) : ∀ x ∈ r, x ∈ l := by
 intro x hx
 rcases Classical.em (x ∈ l) with h | h
 ·exact h
 ·have := ER (l := x :: l) (r := r) (List.nodup_cons.2 ⟨h, hn⟩) (fun y hy => by
   rcases List.mem_cons.1 hy with rfl | hy
   ·exact hx
   ·exact hs y hy)
  simp only [List.length_cons] at this; omega
theorem Bm {val : Ob → Bool} {ps cs : List (Int × Int)} : ∀ {l : List Ob} {prev : Option Int}, lD val ps cs prev l = true →
  (∀ o ∈ l, val o = true ∧ (bX ps o.id).isSome = true ∧ ∀ p, prev = some p → p < o.id) ∧ (l.map (·.id)).Nodup
 | [], _, _ => ⟨by simp, by simp⟩
 | o :: r, prev, h => by
  simp only [lD, yK, Bool.and_eq_true, Bool.not_eq_true', Bool.or_eq_false_iff, Bool.not_eq_false'] at h
  obtain ⟨⟨⟨⟨⟨h1, h2⟩, h3⟩, _⟩, _⟩, h6⟩ := h
  obtain ⟨k1, k2⟩ := Bm h6
  have hp : ∀ p, prev = some p → p < o.id := by
   rintro p rfl
   simp only [nT, decide_eq_false_iff_not] at h2
   omega
  refine ⟨?_, ?_⟩
  ·intro x hx
   rcases List.mem_cons.1 hx with rfl | hx
   ·refine ⟨h1, ?_, hp⟩
    cases hl : bX ps x.id with
    | none => rw [hl] at h3; cases h3
    | some v => rfl
   ·obtain ⟨a1, a2, a3⟩ := k1 x hx
    exact ⟨a1, a2, fun p e => by have := a3 _ rfl; have := hp p e; omega⟩
  ·rw [List.map_cons, List.nodup_cons]
   refine ⟨?_, k2⟩
   intro hm
   obtain ⟨x, hx, e⟩ := List.mem_map.1 hm
   have := (k1 x hx).2.2 _ rfl
   omega
theorem yF {val : Ob → Bool} {b : Bd} (h : bu val b = true) : ∀ x ∈ (aI b).map (·.1), ∃ o ∈ b.objs, o.id = x ∧ val o = true := by
 simp only [bu, Bool.and_eq_true, decide_eq_true_eq] at h
 obtain ⟨_, h2, h3⟩ := h
 obtain ⟨k1, k2⟩ := Bm h2
 intro x hx
 have := FT (l := b.objs.map (·.id)) (r := (aI b).map (·.1)) k2 (fun y hy => by
  obtain ⟨o, ho, rfl⟩ := List.mem_map.1 hy
  have := (k1 o ho).2.1
  rcases Classical.em (o.id ∈ (aI b).map (·.1)) with h | h
  ·exact h
  ·rw [eL.2 h] at this; cases this) (by simp [h3]) x hx
 obtain ⟨o, ho, rfl⟩ := List.mem_map.1 this
 exact ⟨o, ho, rfl, (k1 o ho).1⟩
theorem rh {o : Ob} (h : aP o = true) : 1 ≤ o.id ∧ o.id ≤ 500 := by
 simp only [aP, Bool.and_eq_true, decide_eq_true_eq] at h
 exact ⟨h.1.2.1.1.1.2, h.1.2.1.1.2⟩
theorem FM {b : Bd} (h : bu aP b = true) : ∀ x, x ∈ b.s0.field ∨ x ∈ b.s1.field → 0 < x ∧ x ≤ 500 := by
 intro x hx
 obtain ⟨o, _, rfl, ho⟩ := yF h x (by
  simp only [aI, cj, List.map_append, List.map_map, List.mem_append, List.mem_map, Function.comp]
  rcases hx with hx | hx
  ·left; right; right; left; exact ⟨x, hx, rfl⟩
  ·right; left; right; right; left; exact ⟨x, hx, rfl⟩)
 have := rh ho
 omega
def dO (b : Bd) : Bool := if b.active = 0 then iL b.s0.field b.s1.field b.att b.blocks else iL b.s1.field b.s0.field b.att b.blocks
theorem KU {H : Heap} {O : Own} {v : dr} {b : Bd} (h : BdR H O v b) (ha : b.active = 0 ∨ b.active = 1) (hp : ∀ x, x ∈ b.s0.field ∨ x ∈ b.s1.field → 0 < x ∧ x ≤ 500) :
  RetO PP qE [.agg (am v b).toArray] H O (.bool (dO b)) := by
 refine vj (vs := am v b) (by kernel_rfl) (an h) ?_
 simp only [qo]
 refine ae fun r0 => aa ?_
 have e34 : g (am v b) 34 = iV b.active := rfl
 rw [e34]
 have hs : ∀ n : Int, n = 0 ∨ n = 1 → aj (.bin .sub .int) [iV 1, iV n] = some (iV (1 - n)) := by
  rintro n (rfl | rfl) <;> rfl
 rcases ha with ha | ha
 ·rw [ha]
  refine ⟨.i64, 0, rfl, fun _ => aa (aa (ab _ (hs 0 (.inl rfl)) ⟨.i64, 1, rfl, fun e => absurd e (by omega), fun _ => ⟨.i64, 1, rfl, fun _ => ?_, fun e => absurd rfl e⟩⟩)), fun e => absurd rfl e⟩
  refine aa ?_
  refine y0 h.s0.field h.s1.field h.att h.blocks (fun x hx => (hp x (.inl hx)).1) (fun x hx => hp x (.inr hx)) ?_ ?_ ?_
  ·intros; simp [Eqs]
  ·intros; simp [Eqs]
  ·exact fun H' _ => ⟨by simp [dO, ha], rfl⟩
 ·rw [ha]
  refine ⟨.i64, 1, rfl, fun e => absurd e (by omega), fun _ => ⟨.i64, 1, rfl, fun _ => aa (aa (ab _ (hs 1 (.inr rfl)) ⟨.i64, 0, rfl, fun _ => ?_, fun e => absurd rfl e⟩)), fun e => absurd rfl e⟩⟩
  refine aa ?_
  refine y0 h.s1.field h.s0.field h.att h.blocks (fun x hx => (hp x (.inr hx)).1) (fun x hx => hp x (.inl hx)) ?_ ?_ ?_
  ·intros; simp [Eqs]
  ·intros; simp [Eqs]
  ·exact fun H' _ => ⟨by simp [dO, ha], rfl⟩
theorem rG {b : Bool} (h : (!b) = true) : b = false := by simpa using h
theorem sO {b : Bool} (h : (!b) = false) : b = true := by simpa using h
def be (s : St) : Bool := ap s.life 0 9999 && (([s.p0, s.p1, s.p2, s.p3].all fun n => ap n 0 99) && (ap s.mull 0 7 && ap s.acts 0 255))
def nZ (b : Bd) : Bool := ((!ap b.passes 0 2 || decide ((b.objs.length : Int) > 500)) || decide ((b.stack.length : Int) > 200)) || decide ((b.queue.length : Int) > 200)
def al (b : Bd) : Bool := ap b.active 0 1 && (ap b.turn 0 1000 && (ap b.phase 0 10 && (ap b.holder (-1) 1 && (!nZ b && (be b.s0 && (be b.s1 &&
 (!(b.stack.any fun x => !jr x false) && (!(b.queue.any fun x => !jr x true) && (bu aP b && dO b)))))))))
theorem cz {H : Heap} {O : Own} {v : dr} {b : Bd} (h : BdR H O v b) : RetO PP sM [.agg (am v b).toArray] H O (.bool (al b)) := by
 refine wi (vs := am v b) (by kernel_rfl) (an h) ?_
 simp only [sq]
 refine ae fun r0 => ?_
 refine aa (ai (cw b.active 0 1 H O) rfl ⟨rfl, trivial⟩ fun H1 l1 => ab _ (aB _) (ak (fun hb => ah ⟨?_, rfl⟩) (fun hb => ?_)))
 ·have kf : ap b.active 0 1 = false := rG hb
  simp only [al, kf, Bool.true_and, Bool.false_and, Bool.and_false]
 have k1 : ap b.active 0 1 = true := sO hb
 replace h := h.le l1
 clear hb
 refine aa (ai (cw b.turn 0 1000 H1 O) rfl ⟨rfl, trivial⟩ fun H2 l2 => ab _ (aB _) (ak (fun hb => ah ⟨?_, rfl⟩) (fun hb => ?_)))
 ·have kf : ap b.turn 0 1000 = false := rG hb
  simp only [al, k1, kf, Bool.true_and, Bool.false_and, Bool.and_false]
 have k2 : ap b.turn 0 1000 = true := sO hb
 replace h := h.le l2
 clear hb
 refine aa (ai (cw b.phase 0 10 H2 O) rfl ⟨rfl, trivial⟩ fun H3 l3 => ab _ (aB _) (ak (fun hb => ah ⟨?_, rfl⟩) (fun hb => ?_)))
 ·have kf : ap b.phase 0 10 = false := rG hb
  simp only [al, k1, k2, kf, Bool.true_and, Bool.false_and, Bool.and_false]
 have k3 : ap b.phase 0 10 = true := sO hb
 replace h := h.le l3
 clear hb
 refine aa (ai (cw b.holder (-1) 1 H3 O) rfl ⟨rfl, trivial⟩ fun H4 l4 => ab _ (aB _) (ak (fun hb => ah ⟨?_, rfl⟩) (fun hb => ?_)))
 ·have kf : ap b.holder (-1) 1 = false := rG hb
  simp only [al, k1, k2, k3, kf, Bool.true_and, Bool.false_and, Bool.and_false]
 have k4 : ap b.holder (-1) 1 = true := sO hb
 replace h := h.le l4
 clear hb
 refine aa (ai (cw b.passes 0 2 H4 O) rfl ⟨rfl, trivial⟩ fun H5 l5 => ab _ (aB _) ?_)
 replace h := h.le l5
 have lo := h.objs.len
 rw [List.length_map] at lo
 refine aa (af (af ?_))
 refine ab _ (lo) (af (ab _ (eJ _ _) (af (ab _ (aM _ _) ?_))))
 refine aa (af (af ?_))
 refine ab _ (ItsR.len h.stack) (af (ab _ (eJ _ _) (af (ab _ (aM _ _) ?_))))
 refine aa (af (af ?_))
 refine ab _ (ItsR.len h.queue) (af (ab _ (eJ _ _) (af (ab _ (aM _ _) ?_))))
 refine ak (fun hb => ah ⟨?_, rfl⟩) (fun hb => ?_)
 ·have kf : nZ b = true := hb
  simp only [al, k1, k2, k3, k4, kf, Bool.true_and, Bool.not_true, Bool.false_and]
 have kmid : nZ b = false := hb
 clear hb
 refine aa (ae fun r1 => aa ?_)
 refine aa (ai (cw b.s0.life 0 9999 H5 O) rfl ⟨rfl, trivial⟩ fun H6 l6 => ab _ (aB _) (ak (fun hb => ah ⟨?_, rfl⟩) (fun hb => ?_)))
 ·have kf : ap b.s0.life 0 9999 = false := rG hb
  simp only [al, be, k1, k2, k3, k4, kmid, kf, Bool.true_and, Bool.false_and, Bool.and_false, Bool.not_false]
 have k6 : ap b.s0.life 0 9999 = true := sO hb
 replace h := h.le l6
 clear hb
 refine aa (ai (uD b.s0.p0 b.s0.p1 b.s0.p2 b.s0.p3 H6 O) rfl ⟨rfl, trivial⟩ fun H7 l7 => ab _ (aB _) (ak (fun hb => ah ⟨?_, rfl⟩) (fun hb => ?_)))
 ·have kf : ([b.s0.p0, b.s0.p1, b.s0.p2, b.s0.p3].all fun n => ap n 0 99) = false := rG hb
  simp only [al, be, k1, k2, k3, k4, kmid, k6, kf, Bool.true_and, Bool.false_and, Bool.and_false, Bool.not_false]
 have k7 : ([b.s0.p0, b.s0.p1, b.s0.p2, b.s0.p3].all fun n => ap n 0 99) = true := sO hb
 replace h := h.le l7
 clear hb
 refine aa (ai (cw b.s0.mull 0 7 H7 O) rfl ⟨rfl, trivial⟩ fun H8 l8 => ab _ (aB _) (ak (fun hb => ah ⟨?_, rfl⟩) (fun hb => ?_)))
 ·have kf : ap b.s0.mull 0 7 = false := rG hb
  simp only [al, be, k1, k2, k3, k4, kmid, k6, k7, kf, Bool.true_and, Bool.false_and, Bool.and_false, Bool.not_false]
 have k8 : ap b.s0.mull 0 7 = true := sO hb
 replace h := h.le l8
 clear hb
 refine aa (ai (cw b.s0.acts 0 255 H8 O) rfl ⟨rfl, trivial⟩ fun H9 l9 => ab _ (aB _) (ak (fun hb => ah ⟨?_, rfl⟩) (fun hb => ?_)))
 ·have kf : ap b.s0.acts 0 255 = false := rG hb
  simp only [al, be, k1, k2, k3, k4, kmid, k6, k7, k8, kf, Bool.true_and, Bool.false_and, Bool.and_false, Bool.not_false]
 have k9 : ap b.s0.acts 0 255 = true := sO hb
 replace h := h.le l9
 clear hb
 refine ae fun r2 => aa ?_
 refine aa (ai (cw b.s1.life 0 9999 H9 O) rfl ⟨rfl, trivial⟩ fun H10 l10 => ab _ (aB _) (ak (fun hb => ah ⟨?_, rfl⟩) (fun hb => ?_)))
 ·have kf : ap b.s1.life 0 9999 = false := rG hb
  simp only [al, be, k1, k2, k3, k4, kmid, k6, k7, k8, k9, kf, Bool.true_and, Bool.false_and, Bool.and_false, Bool.not_false]
 have k10 : ap b.s1.life 0 9999 = true := sO hb
 replace h := h.le l10
 clear hb
 refine aa (ai (uD b.s1.p0 b.s1.p1 b.s1.p2 b.s1.p3 H10 O) rfl ⟨rfl, trivial⟩ fun H11 l11 => ab _ (aB _) (ak (fun hb => ah ⟨?_, rfl⟩) (fun hb => ?_)))
 ·have kf : ([b.s1.p0, b.s1.p1, b.s1.p2, b.s1.p3].all fun n => ap n 0 99) = false := rG hb
  simp only [al, be, k1, k2, k3, k4, kmid, k6, k7, k8, k9, k10, kf, Bool.true_and, Bool.false_and, Bool.and_false, Bool.not_false]
 have k11 : ([b.s1.p0, b.s1.p1, b.s1.p2, b.s1.p3].all fun n => ap n 0 99) = true := sO hb
 replace h := h.le l11
 clear hb
 refine aa (ai (cw b.s1.mull 0 7 H11 O) rfl ⟨rfl, trivial⟩ fun H12 l12 => ab _ (aB _) (ak (fun hb => ah ⟨?_, rfl⟩) (fun hb => ?_)))
 ·have kf : ap b.s1.mull 0 7 = false := rG hb
  simp only [al, be, k1, k2, k3, k4, kmid, k6, k7, k8, k9, k10, k11, kf, Bool.true_and, Bool.false_and, Bool.and_false, Bool.not_false]
 have k12 : ap b.s1.mull 0 7 = true := sO hb
 replace h := h.le l12
 clear hb
 refine aa (ai (cw b.s1.acts 0 255 H12 O) rfl ⟨rfl, trivial⟩ fun H13 l13 => ab _ (aB _) (ak (fun hb => ah ⟨?_, rfl⟩) (fun hb => ?_)))
 ·have kf : ap b.s1.acts 0 255 = false := rG hb
  simp only [al, be, k1, k2, k3, k4, kmid, k6, k7, k8, k9, k10, k11, k12, kf, Bool.true_and, Bool.false_and, Bool.and_false, Bool.not_false]
 have k13 : ap b.s1.acts 0 255 = true := sO hb
 replace h := h.le l13
 clear hb
 refine aa (ai (jV (p := fun x => !jr x false) h.stack rfl (gm iP (by decide)) fun H' _ row x hx => Jl hx) rfl ⟨rfl, trivial⟩ fun H20 l20 => ak (fun hb => ah ⟨?_, rfl⟩) (fun hb => ?_))
 ·simp only [al, be, k1, k2, k3, k4, kmid, k6, k7, k8, k9, k10, k11, k12, k13, hb, Bool.true_and, Bool.not_true, Bool.not_false, Bool.false_and]
 replace h := h.le l20
 refine aa (ai (jV (p := fun x => !jr x true) h.queue rfl (gm iP (by decide)) fun H' _ row x hx => Jk hx) rfl ⟨rfl, trivial⟩ fun H21 l21 => ab _ (aB _) (ak (fun hq => ?_) (fun hq => ah ⟨?_, rfl⟩)))
 ·replace h := h.le l21
  simp only [Bool.not_eq_true'] at hq
  have hfin : al b = (bu aP b && dO b) := by simp only [al, be, k1, k2, k3, k4, kmid, k6, k7, k8, k9, k10, k11, k12, k13, hb, hq, Bool.true_and, Bool.not_false]
  refine aa (ai (KP h) rfl ⟨rfl, trivial⟩ fun H22 l22 => ak (fun hp => ?_) (fun hp => ah ⟨?_, rfl⟩))
  ·replace h := h.le l22
   have ha : b.active = 0 ∨ b.active = 1 := by have := k1; simp only [ap, decide_eq_true_eq] at this; omega
   refine aa (ai (KU h ha (FM hp)) rfl ⟨rfl, trivial⟩ fun H23 l23 => ah ⟨?_, rfl⟩)
   rw [hfin, hp, Bool.true_and]; rfl
  ·rw [hfin, hp]; rfl
 ·simp only [Bool.not_eq_false'] at hq
  simp only [al, be, k1, k2, k3, k4, kmid, k6, k7, k8, k9, k10, k11, k12, k13, hb, hq, Bool.true_and, Bool.not_false, Bool.not_true, Bool.false_and]
theorem yA (o : Ob) : aP o = true ↔ ((0 ≤ o.power ∧ o.power ≤ 99) ∧ (0 ≤ o.tough ∧ o.tough ≤ 99) ∧ (0 ≤ o.dmg ∧ o.dmg ≤ 99) ∧ (0 ≤ o.cnt ∧ o.cnt ≤ 99) ∧ (0 ≤ o.pp ∧ o.pp ≤ 99) ∧ (0 ≤ o.pt ∧ o.pt ≤ 99)) ∧
  (o.card = -1 ∨ (o.power = 0 ∧ o.tough = 0)) ∧ 1 ≤ o.id ∧ o.id ≤ 500 ∧ -1 ≤ o.card ∧ o.card < 400 ∧ (o.owner = 0 ∨ o.owner = 1) := by
 simp only [aP, ap, List.all_cons, List.all_nil, Bool.and_true, Bool.and_eq_true, Bool.or_eq_true, decide_eq_true_eq, beq_iff_eq, ge_iff_le]
 omega
abbrev IY (n : Nat) (R : Nat → Value → Heap → Own → Prop) : List Value → Heap → Own → Prop := fun vs H O => ∃ (i : Nat) (x : Value), vs = [x, iV i] ∧ i ≤ n ∧ R i x H O
abbrev MY (n : Nat) : List Value → Heap → Own → Nat := fun vs _ _ => match g vs 1 with | .int _ k => n - k.toNat | _ => 0
theorem iq {P : Program} {lab key : Nat} {x0 : Value} {body : (List Value → Heap → Own → Prop) → List Value → Tree} {H : Heap} {O : Own} {Q : Value → Heap → Own → Prop} (n : Nat) (R : Nat → Value → Heap → Own → Prop)
  (h0 : R 0 x0 H O) (step : ∀ i x H' O', i ≤ n → Heap.le H H' → R i x H' O' → (body (Jz (IY n R) (MY n) (n - i)) [x, iV i]).den P Q H' O') :
  (Tree.loop lab key [x0, .int .i64 0] body).den P Q H O := by
 refine gI (IY n R) (MY n) ⟨0, x0, rfl, Nat.zero_le _, h0⟩ ?_
 rintro vs H' O' _ _ hle ⟨i, x, rfl, hi, hr⟩
 exact step i x H' O' hi hle hr
theorem bf {P : Program} {lab n i : Nat} {R : Nat → Value → Heap → Own → Prop} {x : Value} {eqs : List (List Value × List Value)} {H : Heap} {O : Own} {Q : Value → Heap → Own → Prop} (he : Eqs eqs) (hi : i < n) (hr : R (i + 1) x H O) :
  (Tree.cont lab (Jz (IY n R) (MY n) (n - i)) [x, iV ((i + 1 : Nat) : Int)] eqs).den P Q H O := by
 refine cY he ⟨i + 1, x, rfl, hi, hr⟩ ?_
 show n - ((i + 1 : Nat) : Int).toNat < n - i
 simp; omega
def oh (b : Bd) (id : Int) : Int := gw (fun o => o.id == id) b.objs 0
theorem HE {H : Heap} {O : Own} {v : dr} {b : Bd} (h : BdR H O v b) (id : Int) : RetO PP jh [.agg (am v b).toArray, iV id] H O (iV (oh b id)) := by
 refine nk (vs := am v b ++ [iV id]) (by kernel_rfl) (ar (an h) ⟨rfl, trivial⟩) ?_
 simp only [iU]
 have lo := h.objs.len
 have hB := h.objs.lenB
 rw [List.length_map] at lo hB
 refine ae fun r0 => bh b.objs.length (fun i H' O' => O' = O ∧ Heap.le H H' ∧ oh b id = gw (fun o => o.id == id) (b.objs.drop i) i) ⟨rfl, Heap.le_refl H, by simp [oh]⟩ ?_
 rintro i H' O' hi - ⟨rfl, hle, hor⟩
 refine aa (ab _ lo (ab _ (aN _ _) (ak (fun hb => ?_) (fun hb => ?_))))
 ·have hlt : i < b.objs.length := by simpa using hb
  obtain ⟨a, h1, h2, h5, h3, h4⟩ := (h.objs.le hle).idx .i64 i (Ob.row b.objs[i]) (by simp [hlt])
  have hr : Reads H' O' (.pointer (some a)) 1 [iV b.objs[i].id] := by
   have := h5 0 1 (by omega)
   have e : bz (.pointer (some a)) 0 = .pointer (some a) := by simp [bz, Addr.add]
   rwa [e] at this
  refine aa (ab _ h1 (aH rfl (ax hr rfl ⟨rfl, trivial⟩ (ab _ (aA _ _) (ak (fun hb => ?_) (fun hb => ?_))))))
  ·refine ah ⟨?_, rfl⟩
   rw [hor, List.drop_eq_getElem_cons hlt, gw, if_pos hb]; rfl
  ·refine ab _ (aD (by omega)) (aS (by simp [Eqs]) hlt ⟨rfl, hle, ?_⟩)
   rw [hor, List.drop_eq_getElem_cons hlt, gw, if_neg (by rw [hb]; simp)]; rfl
 ·have hge : b.objs.length ≤ i := by simpa using hb
  refine ah ⟨?_, rfl⟩
  rw [hor, List.drop_of_length_le hge]; rfl
def Ol (s : St) : Prop := s.lib.length ≤ 100000 ∧ s.hand.length ≤ 100000 ∧ s.field.length ≤ 100000 ∧ s.grave.length ≤ 100000
def Qh (b : Bd) : Prop := Ol b.s0 ∧ Ol b.s1 ∧ b.stack.length ≤ 100000
theorem rL {α : Type} (p : α → Bool) : ∀ (l : List α) (i : Int), 0 ≤ i → (gw p l i = -1 ∧ ∀ x ∈ l, p x = false) ∨ ∃ (k : Nat) (x : α), l[k]? = some x ∧ p x = true ∧ gw p l i = i + k
 | [], i, _ => .inl ⟨rfl, by simp⟩
 | a :: l, i, h => by
  simp only [gw]
  by_cases hp : p a = true
  ·right; exact ⟨0, a, rfl, hp, by rw [if_pos hp]; simp⟩
  ·rw [if_neg hp]
   rcases rL p l (i + 1) (by omega) with ⟨h1, h2⟩ | ⟨k, x, h1, h2, h3⟩
   ·left
    refine ⟨h1, fun x hx => ?_⟩
    rcases List.mem_cons.1 hx with rfl | hx
    ·simpa using hp
    ·exact h2 x hx
   ·right; exact ⟨k + 1, x, by simpa using h1, h2, by rw [h3]; omega⟩
theorem AC {o : Ob} (h : aP o = true) : o.owner = 0 ∨ o.owner = 1 := ((yA o).1 h).2.2.2.2.2.2
def Au : Option Int → List Ob → Bool
 | _, [] => true
 | prev, o :: r => !nT prev o.id && Au (some o.id) r
def ok1 (ps cs : List (Int × Int)) (o : Ob) : Bool := aP o && ((bX ps o.id).isSome && (((bX ps o.id).getD 0 == o.owner) && !((bX cs o.id).isSome && ((bX cs o.id).getD 0 != o.card))))
theorem lC {ps cs : List (Int × Int)} : ∀ (l : List Ob) (prev : Option Int), lD aP ps cs prev l = (Au prev l && l.all (ok1 ps cs))
 | [], _ => rfl
 | o :: r, prev => by
  simp only [lD, yK, Au, List.all_cons, ok1, lC r (some o.id), bne]
  cases aP o <;> cases nT prev o.id <;> cases bX ps o.id <;> cases bX cs o.id <;> simp [Bool.and_assoc, Bool.and_comm, Bool.and_left_comm]
theorem nW : ∀ {l : List Ob} {prev : Option Int}, Au prev l = true → (∀ o ∈ l, ∀ p, prev = some p → p < o.id) ∧ (l.map (·.id)).Nodup
 | [], _, _ => ⟨by simp, by simp⟩
 | o :: r, prev, h => by
  simp only [Au, Bool.and_eq_true, Bool.not_eq_true'] at h
  obtain ⟨k1, k2⟩ := nW h.2
  have hp : ∀ p, prev = some p → p < o.id := by
   rintro p rfl
   have := h.1
   simp only [nT, decide_eq_false_iff_not] at this
   omega
  refine ⟨fun x hx p e => ?_, ?_⟩
  ·rcases List.mem_cons.1 hx with rfl | hx
   ·exact hp p e
   ·have := k1 x hx _ rfl; have := hp p e; omega
  ·rw [List.map_cons, List.nodup_cons]
   refine ⟨fun hm => ?_, k2⟩
   obtain ⟨x, hx, e⟩ := List.mem_map.1 hm
   have := k1 x hx _ rfl
   omega
theorem IS {x : It} {q : Bool} (h : jr x q = true) : x.trig < 0 → x.trig = -1 := by
 simp only [jr, ap, Bool.and_eq_true, decide_eq_true_eq] at h
 omega
def zp (s : St) : Bool := !decide ((s.lib.length : Int) > 40) && (!decide ((s.hand.length : Int) > 40) && (!decide ((s.field.length : Int) > 40) && !decide ((s.grave.length : Int) > 40)))
def vB (l : List It) : Bool := !decide ((l.length : Int) > 20) && l.all fun x => !decide ((x.tgs.length : Int) > 6)
def zr (b : Bd) : Bool := zp b.s0 && (zp b.s1 && (vB b.stack && (vB b.queue && ((decide ((b.objs.length : Int) ≤ 30) && decide ((b.att.length : Int) ≤ 30)) && decide ((b.blocks.length : Int) ≤ 30)))))
def tys : Tys := ⟨aG, aE, ba, bc, az⟩
theorem rU {H : Heap} {v : Value} {l : List (List Value)} (h : Sl H 12 v l) (hb : l.length ≤ 2 ^ 40) : Triple PP dp [v] H [] fun v' H' O' => OSl aE 12 v' l O' := by
 refine fJ (vs := [v]) (by kernel_rfl) ⟨h.one, trivial⟩ ?_
 simp only [di]
 obtain ⟨a, cap, rfl, h1, h2, h3⟩ := h
 have hev : aj (.bin .eql .slice) [.slice a l.length cap, .slice none 0 0] = some (.bool a.isNone) := by cases a <;> rfl
 refine ab _ hev (ak (fun hn => ah ?_) (fun hn => fun r0 => ?_))
 ·have hl : l = [] := by
   by_cases hl : l = []
   ·exact hl
   ·obtain ⟨ad, rfl, _⟩ := h3 hl; cases hn
  subst hl
  exact OSl.nil aE 12
 ·refine ay (rows := []) (news := l) (O1 := []) (O2 := []) (e := aE) (size := 12) (bytes := 80) (by kernel_rfl) (List.Perm.refl _) (.inl ⟨⟨_, rfl⟩, rfl, rfl⟩) (fun Hf hl _ => Sl.le hl ⟨a, cap, rfl, h1, h2, h3⟩) (by simp; omega) (by simp; omega) ?_
  intro v' O1' H' _ ho
  refine ah ?_
  rw [List.append_nil]
  exact ho
theorem tL {H : Heap} {v : Value} {l : List (List Value)} (h : Sl H 2 v l) (hb : l.length ≤ 2 ^ 40) : Triple PP dI [v] H [] fun v' H' O' => OSl ba 2 v' l O' := by
 refine fX (vs := [v]) (by kernel_rfl) ⟨h.one, trivial⟩ ?_
 simp only [dH]
 obtain ⟨a, cap, rfl, h1, h2, h3⟩ := h
 have hev : aj (.bin .eql .slice) [.slice a l.length cap, .slice none 0 0] = some (.bool a.isNone) := by cases a <;> rfl
 refine ab _ hev (ak (fun hn => ah ?_) (fun hn => fun r0 => ?_))
 ·have hl : l = [] := by
   by_cases hl : l = []
   ·exact hl
   ·obtain ⟨ad, rfl, _⟩ := h3 hl; cases hn
  subst hl
  exact OSl.nil ba 2
 ·refine ay (rows := []) (news := l) (O1 := []) (O2 := []) (e := ba) (size := 2) (bytes := 16) (by kernel_rfl) (List.Perm.refl _) (.inl ⟨⟨_, rfl⟩, rfl, rfl⟩) (fun Hf hl _ => Sl.le hl ⟨a, cap, rfl, h1, h2, h3⟩) (by simp; omega) (by simp; omega) ?_
  intro v' O1' H' _ ho
  refine ah ?_
  rw [List.append_nil]
  exact ho
theorem vq {H : Heap} {v : Value} {l : List (List Value)} (h : Sl H 5 v l) (hb : l.length ≤ 2 ^ 40) : Triple PP dW [v] H [] fun v' H' O' => OSl bc 5 v' l O' := by
 refine gy (vs := [v]) (by kernel_rfl) ⟨h.one, trivial⟩ ?_
 simp only [dV]
 obtain ⟨a, cap, rfl, h1, h2, h3⟩ := h
 have hev : aj (.bin .eql .slice) [.slice a l.length cap, .slice none 0 0] = some (.bool a.isNone) := by cases a <;> rfl
 refine ab _ hev (ak (fun hn => ah ?_) (fun hn => fun r0 => ?_))
 ·have hl : l = [] := by
   by_cases hl : l = []
   ·exact hl
   ·obtain ⟨ad, rfl, _⟩ := h3 hl; cases hn
  subst hl
  exact OSl.nil bc 5
 ·refine ay (rows := []) (news := l) (O1 := []) (O2 := []) (e := bc) (size := 5) (bytes := 56) (by kernel_rfl) (List.Perm.refl _) (.inl ⟨⟨_, rfl⟩, rfl, rfl⟩) (fun Hf hl _ => Sl.le hl ⟨a, cap, rfl, h1, h2, h3⟩) (by simp; omega) (by simp; omega) ?_
  intro v' O1' H' _ ho
  refine ah ?_
  rw [List.append_nil]
  exact ho
theorem rT {H : Heap} {v : Value} {l : List (List Value)} (h : Sl H 2 v l) (hb : l.length ≤ 2 ^ 40) : Triple PP dn [v] H [] fun v' H' O' => OSl az 2 v' l O' := by
 refine fH (vs := [v]) (by kernel_rfl) ⟨h.one, trivial⟩ ?_
 simp only [dh]
 obtain ⟨a, cap, rfl, h1, h2, h3⟩ := h
 have hev : aj (.bin .eql .slice) [.slice a l.length cap, .slice none 0 0] = some (.bool a.isNone) := by cases a <;> rfl
 refine ab _ hev (ak (fun hn => ah ?_) (fun hn => fun r0 => ?_))
 ·have hl : l = [] := by
   by_cases hl : l = []
   ·exact hl
   ·obtain ⟨ad, rfl, _⟩ := h3 hl; cases hn
  subst hl
  exact OSl.nil az 2
 ·refine ay (rows := []) (news := l) (O1 := []) (O2 := []) (e := az) (size := 2) (bytes := 16) (by kernel_rfl) (List.Perm.refl _) (.inl ⟨⟨_, rfl⟩, rfl, rfl⟩) (fun Hf hl _ => Sl.le hl ⟨a, cap, rfl, h1, h2, h3⟩) (by simp; omega) (by simp; omega) ?_
  intro v' O1' H' _ ho
  refine ah ?_
  rw [List.append_nil]
  exact ho
theorem Jg {H : Heap} {v : Value} {l : List It} (h : ItsS H v l) (hB : PC l) : Triple PP sH [v] H [] fun v' H' O' => OItsS az bc v' l O' := by
 obtain ⟨rows, hs, hrl, hit⟩ := h
 refine wc (vs := [v]) (by kernel_rfl) ⟨hs.one, trivial⟩ ?_
 simp only [sj]
 refine ao (vq hs (by have := hB.1; omega)) fun v' H1 O1 ho l1 => ⟨[v'], rfl, ⟨ho.one, trivial⟩, ?_⟩
 have hlen := ho.len
 rw [hrl] at hlen
 refine ab _ hlen ?_
 refine bh l.length (fun i H' O' => Heap.le H1 H' ∧ ∃ rows' A Ts, O'.Perm (A ++ List.flatten Ts) ∧ OSl bc 5 v' rows' A ∧ rows'.length = l.length ∧ Ts.length = i ∧
  (∀ (j : Nat) (r : List Value) (x : It) (T : Own), rows'[j]? = some r → l[j]? = some x → Ts[j]? = some T → ∃ s, r = [iV x.player, iV x.id, iV x.card, iV x.trig, s] ∧ OSl az 2 s (x.tgs.map Tg.row) T) ∧ ∀ j, i ≤ j → rows'[j]? = rows[j]?)
  ⟨Heap.le_refl _, rows, O1, [], by simp, ho, hrl, rfl, fun j r x T _ _ h => by simp at h, fun _ _ => rfl⟩ ?_
 rintro i H' O' hi - ⟨hle, rows', A, Ts, hp, hA, hrl', htl, hspec, hrest⟩
 refine ab _ (aN _ _) (ak (fun hb => ?_) (fun hb => ?_))
 ·have hlt : i < l.length := by simpa using hb
  have hri : rows'[i]? = some rows[i] := by rw [hrest i (Nat.le_refl _)]; exact List.getElem?_eq_getElem (by omega)
  obtain ⟨s, hrow, hst⟩ := hit i rows[i] l[i] (List.getElem?_eq_getElem (by omega)) (List.getElem?_eq_getElem hlt)
  obtain ⟨a, k1, _, _, k3⟩ := hA.idx (fun p hp' => hp.mem_iff.2 (List.mem_append_left _ hp')) H' (k := .i64) hri
  have hr := k3 4 1 (by omega)
  rw [hrow] at hr
  refine ab _ k1 (aH rfl (ax hr rfl ⟨hst.one, trivial⟩ ?_))
  refine ao (rT (hst.le (Heap.le_trans l1 hle)) (by have := hB.2 _ (List.getElem_mem hlt); simp; omega)) fun s' H2 T hT l2 => ⟨[s'], rfl, ⟨hT.one, trivial⟩, ?_⟩
  have hp2 : (T ++ O').Perm (A ++ (T ++ List.flatten Ts)) := (hp.append_left T).trans (List.perm_append_comm_assoc _ _ _)
  obtain ⟨a2, j1, j2⟩ := hA.store hp2 (k := .i64) hri
  obtain ⟨A', hst2, hA'⟩ := j2 4 [s'] (by simp) ⟨hT.one, trivial⟩
  refine ab _ j1 (aH rfl (aH rfl ⟨_, hst2, ?_⟩))
  have hsp : dc rows[i] 4 [s'] = [iV l[i].player, iV l[i].id, iV l[i].card, iV l[i].trig, s'] := by rw [hrow]; rfl
  rw [hsp] at hA'
  refine ab _ (aD (by have := hB.1; omega)) (aS (by simp [Eqs]) hlt ⟨Heap.le_trans hle l2, _, A', Ts ++ [T], ?_, hA', by simp [hrl'], by simp [htl], ?_, ?_⟩)
  ·refine List.Perm.append_left A' ?_
   rw [List.flatten_append]
   simpa using List.perm_append_comm
  ·intro j r x T' h1 h2 h3
   by_cases hj : j = i
   ·subst hj
    rw [List.getElem?_set_self (by omega)] at h1
    rw [List.getElem?_eq_getElem hlt] at h2
    rw [List.getElem?_append_right (by omega), htl, Nat.sub_self] at h3
    simp only [Option.some.injEq, List.getElem?_cons_zero] at h1 h2 h3
    subst h1; subst h2; subst h3
    exact ⟨s', rfl, hT⟩
   ·rw [List.getElem?_set_ne (by omega)] at h1
    have hjlt : j < Ts.length := by
     have := (List.getElem?_eq_some_iff.1 h3).1
     simp at this; omega
    rw [List.getElem?_append_left hjlt] at h3
    exact hspec j r x T' h1 h2 h3
  ·intro j hj
   rw [List.getElem?_set_ne (by omega)]
   exact hrest j (by omega)
 ·have hie : i = l.length := by
   have : ¬ ((i : Int) < (l.length : Int)) := by simpa using hb
   omega
  subst hie
  exact ah ⟨rows', A, Ts, hp, hA, hrl', htl, hspec⟩
theorem OIts.one {te ti : TypeId} {v : Value} {l : List It} {O : Own} (h : OIts te ti v l O) : v.oneCell' = true := by
 obtain ⟨rows, A, Ts, _, h1, _⟩ := h; exact h1.one
theorem Jo {H : Heap} {v : dr} {b : Bd} (h : BdS H v b) (hB : bdB b) : Triple PP o5 [.agg (am v b).toArray] H [] fun r H' O' => ∃ w, r = .agg (am w b).toArray ∧ OwnBS tys w b O' := by
 refine yr (vs := am v b) (by kernel_rfl) (an (h.r [])) ?_
 simp only [uL]
 obtain ⟨b1, ⟨b2, b3, b4, b5⟩, ⟨b6, b7, b8, b9⟩, b10, b11, b12, b13⟩ := hB
 have cl : ∀ {l : List Int}, l.length ≤ 1000000 → (aF l).length ≤ 2 ^ 40 := fun h => by rw [aF, List.length_map]; omega
 refine ae fun r0 => ae fun r1 => ?_
 refine aa (aa (aa ?_))
 refine ao (rU h.objs (by rw [List.length_map]; omega)) fun xo H1 Oo po l1 => ⟨_, rfl, ⟨po.one, trivial⟩, ?_⟩
 replace h := h.le l1
 refine ao (eC h.att (cl b12)) fun xa H1 Oa pa l1 => ⟨_, rfl, ⟨pa.one, trivial⟩, ?_⟩
 replace h := h.le l1
 refine ao (tL h.blocks (by rw [List.length_map]; omega)) fun xb H1 Obk pb l1 => ⟨_, rfl, ⟨pb.one, trivial⟩, ?_⟩
 replace h := h.le l1
 repeat (first | refine aa ?_ | refine af ?_)
 refine ao (Jg h.stack b10) fun xs H1 Os ps l1 => ⟨_, rfl, ⟨OItsS.one ps, trivial⟩, ?_⟩
 replace h := h.le l1
 refine ao (Jg h.queue b11) fun xq H1 Oq pq l1 => ⟨_, rfl, ⟨OItsS.one pq, trivial⟩, ?_⟩
 replace h := h.le l1
 refine aa (aa ?_)
 refine ai (kY r0 1 _ _) rfl ⟨rfl, rfl, rfl, rfl, trivial⟩ fun H1 l1 => ?_
 replace h := h.le l1
 repeat (first | refine aa ?_ | refine af ?_)
 refine ao (eC h.s0.lib (cl b2)) fun x1 H1 A0 p1 l1 => ⟨_, rfl, ⟨p1.one, trivial⟩, ?_⟩
 replace h := h.le l1
 refine aa (aa ?_)
 refine ao (eC h.s0.hand (cl b3)) fun x2 H1 B0 p2 l1 => ⟨_, rfl, ⟨p2.one, trivial⟩, ?_⟩
 replace h := h.le l1
 refine aa (aa ?_)
 refine ao (eC h.s0.field (cl b4)) fun x3 H1 C0 p3 l1 => ⟨_, rfl, ⟨p3.one, trivial⟩, ?_⟩
 replace h := h.le l1
 refine aa (aa ?_)
 refine ao (eC h.s0.grave (cl b5)) fun x4 H1 D0 p4 l1 => ⟨_, rfl, ⟨p4.one, trivial⟩, ?_⟩
 replace h := h.le l1
 refine aa ?_
 refine ai (kY r0 15 _ _) rfl ⟨rfl, rfl, rfl, rfl, trivial⟩ fun H1 l1 => ?_
 replace h := h.le l1
 repeat (first | refine aa ?_ | refine af ?_)
 refine ao (eC h.s1.lib (cl b6)) fun x5 H1 A1 p5 l1 => ⟨_, rfl, ⟨p5.one, trivial⟩, ?_⟩
 replace h := h.le l1
 refine aa (aa ?_)
 refine ao (eC h.s1.hand (cl b7)) fun x6 H1 B1 p6 l1 => ⟨_, rfl, ⟨p6.one, trivial⟩, ?_⟩
 replace h := h.le l1
 refine aa (aa ?_)
 refine ao (eC h.s1.field (cl b8)) fun x7 H1 C1 p7 l1 => ⟨_, rfl, ⟨p7.one, trivial⟩, ?_⟩
 replace h := h.le l1
 refine aa (aa ?_)
 refine ao (eC h.s1.grave (cl b9)) fun x8 H1 D1 p8 l1 => ⟨_, rfl, ⟨p8.one, trivial⟩, ?_⟩
 refine aa (aa (aa (aa ?_)))
 refine ah ⟨⟨xo, x1, x2, x3, x4, x5, x6, x7, x8, xs, xq, xa, xb⟩, rfl, Os, Oo ++ (A0 ++ (B0 ++ (C0 ++ (D0 ++ (A1 ++ (B1 ++ (C1 ++ (D1 ++ (Oq ++ (Oa ++ Obk)))))))))), ?_, ps, fun v' l' A' h' => ⟨Oo, A0, B0, C0, D0, A1, B1, C1, D1, A', Oq, Oa, Obk, ?_, ⟨po, p1, p2, p3, p4, p5, p6, p7, p8, h', pq.weak, pa, pb⟩⟩⟩
 ·refine aO fun a _ _ => ?_
  simp only [List.count_append, List.count_nil]
  omega
 ·refine aO fun a _ _ => ?_
  simp only [List.count_append]
  omega
theorem CH {H : Heap} {v : dr} {b : Bd} (h : BdS H v b) (hB : bdB b) : Triple PP o5 [.agg (am v b).toArray] H [] fun r H' O' => ∃ w, r = .agg (am w b).toArray ∧ OwnB tys w b O' :=
 Triple.mono (Jo h hB) fun _ _ _ _ ⟨w, e, h⟩ => ⟨w, e, OwnBS.weak h⟩
theorem ei {P : Program} {t ty e : TypeId} {size bytes : Nat} (ha : CN P t e size bytes = true) {x : Value} {news : List (List Value)} {O : Own} {H : Heap} {K : List Value → List (List Value) → Heap → Own → Prop}
  (h : Sl H size x news) (hb : news.length * bytes ≤ 140737488355328) (h63 : news.length < 2 ^ 63) (hk : ∀ v' O1' H', Heap.le H H' → OSl e size v' news O1' → K [v'] [] H' (O1' ++ O)) :
  dG (fun H1 O1 R => bC P ((PrimOp.bi .append #[t, t] ty).sem [.slice none 0 0, x]) H1 O1 R) false [] [] .one K H O :=
 ay (rows := []) (O1 := []) (O2 := O) ha (List.Perm.refl _) (OSl.nil e size) (fun _ hl _ => h.le hl) (by simpa using hb) (by simpa using h63) fun v' O1' H' hl ho => hk v' O1' H' hl (by simpa using ho)
theorem EG {H : Heap} {v : Value} {l : List It} (h : ItsS H v l) (hB : PC l) : Triple PP iH [v] H [] fun v' H' O' => OItsS az bc v' l O' := by
 have hone := ItsR.one (h.r [])
 have hlen := ItsR.len (h.r [])
 obtain ⟨rows, hs, hrl, hit⟩ := h
 refine mf (vs := [v]) (by kernel_rfl) ⟨hone, trivial⟩ ?_
 simp only [iE]
 refine iq l.length (fun i x H' O' => Heap.le H H' ∧ ∃ rows' A Ts, O'.Perm (A ++ List.flatten Ts) ∧ OSl bc 5 x rows' A ∧ rows'.length = i ∧ Ts.length = i ∧
  (∀ (j : Nat) (r : List Value) (x : It) (T : Own), rows'[j]? = some r → l[j]? = some x → Ts[j]? = some T → ∃ s, r = [iV x.player, iV x.id, iV x.card, iV x.trig, s] ∧ OSl az 2 s (x.tgs.map Tg.row) T))
  ⟨Heap.le_refl _, [], [], [], by simp, OSl.nil _ _, rfl, rfl, fun j r x T h => by simp at h⟩ ?_
 rintro i x H' O' hi - ⟨hle, rows', A, Ts, hp, hA, hrl', htl, hspec⟩
 refine ab _ hlen (ab _ (aN _ _) (ak (fun hb => ?_) (fun hb => ?_)))
 ·have hlt : i < l.length := by simpa using hb
  obtain ⟨s, hrow, hst⟩ := hit i rows[i] l[i] (List.getElem?_eq_getElem (by omega)) (List.getElem?_eq_getElem hlt)
  obtain ⟨a, h1, h2, h3, h4⟩ := (hs.le hle).idx (k := .i64) (i := i) (List.getElem?_eq_getElem (by omega))
  rw [hrow] at h2 h3 h4
  refine ab _ h1 (fL h2 h3 h4 (ae fun r0 => aa (aa ?_)))
  have hb6 := hB.2 _ (List.getElem_mem hlt)
  refine ei (e := az) (size := 2) (bytes := 16) (by kernel_rfl) (hst.le hle) (by simp; omega) (by simp; omega) fun s' T H2 l2 hT => ?_
  refine aa (aa (ae fun r1 => ?_))
  refine ay (rows := rows') (news := [[iV l[i].player, iV l[i].id, iV l[i].card, iV l[i].trig, s']]) (O1 := A) (O2 := T ++ List.flatten Ts) (e := bc) (size := 5) (bytes := 56) (by kernel_rfl) ((hp.append_left T).trans (List.perm_append_comm_assoc _ _ _)) hA
   (fun Hf _ hf => Sl.block1 (hf _ List.mem_cons_self) rfl ⟨rfl, rfl, rfl, rfl, hT.one, trivial⟩) ?_ ?_ ?_
  ·have := hB.1; simp; omega
  ·have := hB.1; simp; omega
  intro v' A' H3 l3 hA'
  refine ab _ (aD (by have := hB.1; omega)) (bf (by simp [Eqs]) hlt ⟨Heap.le_trans hle (Heap.le_trans l2 l3), _, A', Ts ++ [T], ?_, hA', by simp [hrl'], by simp [htl], ?_⟩)
  ·refine List.Perm.append_left A' ?_
   rw [List.flatten_append]
   simpa using List.perm_append_comm
  ·intro j r x T' q1 q2 q3
   by_cases hj : j = i
   ·subst hj
    rw [List.getElem?_append_right (by omega), hrl', Nat.sub_self] at q1
    rw [List.getElem?_eq_getElem hlt] at q2
    rw [List.getElem?_append_right (by omega), htl, Nat.sub_self] at q3
    simp only [Option.some.injEq, List.getElem?_cons_zero] at q1 q2 q3
    subst q1; subst q2; subst q3
    exact ⟨s', rfl, hT⟩
   ·have hjlt : j < Ts.length := by
     have := (List.getElem?_eq_some_iff.1 q3).1
     simp at this; omega
    rw [List.getElem?_append_left hjlt] at q3
    rw [List.getElem?_append_left (by omega)] at q1
    exact hspec j r x T' q1 q2 q3
 ·have hie : i = l.length := by
   have : ¬ ((i : Int) < (l.length : Int)) := by simpa using hb
   omega
  subst hie
  exact ah ⟨rows', A, Ts, hp, hA, hrl', htl, hspec⟩
theorem MK {H : Heap} {v : dr} {b : Bd} (h : BdS H v b) (hB : bdB b) : Triple PP gu [.agg (am v b).toArray] H [] fun r H' O' => ∃ w, r = .agg (am w b).toArray ∧ OwnBS tys w b O' := by
 refine nG (vs := am v b) (by kernel_rfl) (an (h.r [])) ?_
 simp only [jZ]
 obtain ⟨b1, ⟨b2, b3, b4, b5⟩, ⟨b6, b7, b8, b9⟩, b10, b11, b12, b13⟩ := hB
 refine ae fun r0 => ?_
 refine ae fun _ => aa ?_
 refine ei (e := aE) (size := 12) (bytes := 80) (by kernel_rfl) h.objs (by simp [aF]; omega) (by simp [aF]; omega) fun xo Oo H1 l1 po => ?_
 replace h := h.le l1
 refine aa (aa ?_)
 refine ei (e := aG) (size := 1) (bytes := 8) (by kernel_rfl) h.s0.lib (by simp [aF]; omega) (by simp [aF]; omega) fun x1 A0 H1 l1 p1 => ?_
 replace h := h.le l1
 refine aa (aa ?_)
 refine ei (e := aG) (size := 1) (bytes := 8) (by kernel_rfl) h.s0.hand (by simp [aF]; omega) (by simp [aF]; omega) fun x2 B0 H1 l1 p2 => ?_
 replace h := h.le l1
 refine aa (aa ?_)
 refine ei (e := aG) (size := 1) (bytes := 8) (by kernel_rfl) h.s0.field (by simp [aF]; omega) (by simp [aF]; omega) fun x3 C0 H1 l1 p3 => ?_
 replace h := h.le l1
 refine aa (aa ?_)
 refine ei (e := aG) (size := 1) (bytes := 8) (by kernel_rfl) h.s0.grave (by simp [aF]; omega) (by simp [aF]; omega) fun x4 D0 H1 l1 p4 => ?_
 replace h := h.le l1
 refine aa (aa ?_)
 refine ei (e := aG) (size := 1) (bytes := 8) (by kernel_rfl) h.s1.lib (by simp [aF]; omega) (by simp [aF]; omega) fun x5 A1 H1 l1 p5 => ?_
 replace h := h.le l1
 refine aa (aa ?_)
 refine ei (e := aG) (size := 1) (bytes := 8) (by kernel_rfl) h.s1.hand (by simp [aF]; omega) (by simp [aF]; omega) fun x6 B1 H1 l1 p6 => ?_
 replace h := h.le l1
 refine aa (aa ?_)
 refine ei (e := aG) (size := 1) (bytes := 8) (by kernel_rfl) h.s1.field (by simp [aF]; omega) (by simp [aF]; omega) fun x7 C1 H1 l1 p7 => ?_
 replace h := h.le l1
 refine aa (aa ?_)
 refine ei (e := aG) (size := 1) (bytes := 8) (by kernel_rfl) h.s1.grave (by simp [aF]; omega) (by simp [aF]; omega) fun x8 D1 H1 l1 p8 => ?_
 replace h := h.le l1
 refine aa (aa (aa ?_))
 refine ao (EG h.stack b10) fun xs H1 Os ps l1 => ⟨_, rfl, ⟨OItsS.one ps, trivial⟩, ?_⟩
 replace h := h.le l1
 refine ao (EG h.queue b11) fun xq H1 Oq pq l1 => ⟨_, rfl, ⟨OItsS.one pq, trivial⟩, ?_⟩
 replace h := h.le l1
 refine aa (aa (aa ?_))
 refine ei (e := aG) (size := 1) (bytes := 8) (by kernel_rfl) h.att (by simp [aF]; omega) (by simp [aF]; omega) fun xa Oa H1 l1 pa => ?_
 replace h := h.le l1
 refine aa (aa ?_)
 refine ei (e := ba) (size := 2) (bytes := 16) (by kernel_rfl) h.blocks (by simp [aF]; omega) (by simp [aF]; omega) fun xb Obk H1 l1 pb => ?_
 replace h := h.le l1
 refine aa (aa (aa (aa ?_)))
 refine ah ⟨⟨xo, x1, x2, x3, x4, x5, x6, x7, x8, xs, xq, xa, xb⟩, rfl, Os, Oo ++ (A0 ++ (B0 ++ (C0 ++ (D0 ++ (A1 ++ (B1 ++ (C1 ++ (D1 ++ (Oq ++ (Oa ++ Obk)))))))))), ?_, ps, fun v' l' A' h' => ⟨Oo, A0, B0, C0, D0, A1, B1, C1, D1, A', Oq, Oa, Obk, ?_, ⟨po, p1, p2, p3, p4, p5, p6, p7, p8, h', pq.weak, pa, pb⟩⟩⟩
 ·refine aO fun a _ _ => ?_
  simp only [List.count_append, List.count_nil]
  omega
 ·refine aO fun a _ _ => ?_
  simp only [List.count_append]
  omega
theorem Lq {H : Heap} {v : dr} {b : Bd} (h : BdS H v b) (hB : bdB b) : Triple PP gu [.agg (am v b).toArray] H [] fun r H' O' => ∃ w, r = .agg (am w b).toArray ∧ OwnB tys w b O' :=
 Triple.mono (MK h hB) fun _ _ _ _ ⟨w, e, h⟩ => ⟨w, e, OwnBS.weak h⟩
theorem N3 (a : Addr) : bz (.pointer (some a)) 0 = .pointer (some a) := by simp [bz, Addr.add]
theorem un : ∀ {Ts : List Own} {i : Nat} (h : i < Ts.length), (List.flatten Ts).Perm (Ts[i] ++ List.flatten (Ts.eraseIdx i)) ∧ ∀ T, (List.flatten (Ts.set i T)).Perm (T ++ List.flatten (Ts.eraseIdx i))
 | [], _, h => absurd h (Nat.not_lt_zero _)
 | a :: r, 0, _ => by simp
 | a :: r, i + 1, h => by
  have h' : i < r.length := by simpa using h
  obtain ⟨h1, h2⟩ := un h'
  refine ⟨?_, fun T => ?_⟩
  ·simp only [List.flatten_cons, List.getElem_cons_succ, List.eraseIdx_cons_succ]
   exact (h1.append_left a).trans (List.perm_append_comm_assoc _ _ _)
  ·simp only [List.set_cons_succ, List.flatten_cons, List.eraseIdx_cons_succ]
   exact ((h2 T).append_left a).trans (List.perm_append_comm_assoc _ _ _)
theorem aT {w : dr} {b : Bd} {O : Own} (H : Heap) (h : OwnB tys w b O) : Ones (am w b) := an (h.r (fun _ h => h) H)
end Go.Proofs.YtdhobpmnkfmcfaaGreatDoor
namespace Go.Sx
open Go
theorem Cons.ghost {H H' : Heap} {O O' : Own} (h : Cons H O) (g : Ghost H O H' O') : Cons H' O' := by
 obtain ⟨w, F, hm⟩ := h
 exact ⟨w, F, (g w F hm).1⟩
theorem Cons.perm {H : Heap} {O O' : Own} (h : Cons H O) (hp : O.Perm O') : Cons H O' := h.ghost (Ghost.perm hp)
theorem Triple.ghost {P : Program} {f : FuncId} {args : List Value} {H : Heap} {O : Own} {Q Q' : Value → Heap → Own → Prop} (h : Triple P f args H O Q)
  (hq : ∀ v H' O', Heap.le H H' → Cons H' O' → Q v H' O' → ∃ H'' O'', Ghost H' O' H'' O'' ∧ Q' v H'' O'') : Triple P f args H O Q' :=
 fun w F hm => (h w F hm).mono fun _ w' ⟨v, H', O', he, q, hle, hm'⟩ =>
  let ⟨H'', O'', g, q'⟩ := hq v H' O' hle ⟨w', F, hm'⟩ q
  ⟨v, H'', O'', he, q', Heap.le_trans hle (g _ _ hm').2, (g _ _ hm').1⟩
theorem yT {te : TypeId} : ∀ (l : List It) (rows : List (List Value)) (Ts : List Own) (H : Heap) (X : Own), rows.length = l.length → Ts.length = l.length →
  (∀ (i : Nat) (r : List Value) (x : It) (T : Own), rows[i]? = some r → l[i]? = some x → Ts[i]? = some T → ∃ s, r = [iV x.player, iV x.id, iV x.card, iV x.trig, s] ∧ OSlE te 2 s (x.tgs.map Tg.row) T) →
  Cons H (List.flatten Ts ++ X) → ∃ H', Ghost H (List.flatten Ts ++ X) H' X ∧ Heap.le H H' ∧
   ∀ (i : Nat) (r : List Value) (x : It), rows[i]? = some r → l[i]? = some x → ∃ s, r = [iV x.player, iV x.id, iV x.card, iV x.trig, s] ∧ Sl H' 2 s (x.tgs.map Tg.row)
 | [], [], [], H, X, _, _, _, _ => ⟨H, Ghost.refl _ _, Heap.le_refl _, fun i r x h => by simp at h⟩
 | x :: l, r :: rows, T :: Ts, H, X, h1, h2, hs, hc => by
  obtain ⟨s, e, hT⟩ := hs 0 r x T rfl rfl rfl
  rw [List.flatten_cons, List.append_assoc] at hc
  obtain ⟨H1, g1, k1, l1⟩ := hT.freeze hc
  obtain ⟨H2, g2, l2, k2⟩ := yT l rows Ts H1 X (by simpa using h1) (by simpa using h2) (fun i r x T a b c => hs (i + 1) r x T (by simpa using a) (by simpa using b) (by simpa using c)) (hc.ghost g1)
  refine ⟨H2, ?_, Heap.le_trans l1 l2, fun i r' x' a b => ?_⟩
  ·rw [List.flatten_cons, List.append_assoc]; exact g1.trans g2
  ·cases i with
   | zero => simp at a b; subst a; subst b; exact ⟨s, e, k1.le l2⟩
   | succ i => exact k2 i r' x' (by simpa using a) (by simpa using b)
 | [], _ :: _, _, _, _, h, _, _, _ => by simp at h
 | _ :: _, [], _, _, _, h, _, _, _ => by simp at h
 | [], [], _ :: _, _, _, _, h, _, _ => by simp at h
 | _ :: _, _ :: _, [], _, _, _, h, _, _ => by simp at h
theorem OIts.freeze {te ti : TypeId} {v : Value} {l : List It} {O1 X : Own} {H : Heap} (h : OIts te ti v l O1) (hc : Cons H (O1 ++ X)) : ∃ H', Ghost H (O1 ++ X) H' X ∧ ItsS H' v l ∧ Heap.le H H' := by
 obtain ⟨rows, A, Ts, hp, h1, h2, h3, h4⟩ := h
 have hp' : (O1 ++ X).Perm (A ++ (List.flatten Ts ++ X)) := (hp.append_right X).trans (List.Perm.of_eq (List.append_assoc _ _ _))
 obtain ⟨H1, g1, k1, l1⟩ := h1.freeze (hc.perm hp')
 obtain ⟨H2, g2, l2, k2⟩ := yT l rows Ts H1 X h2 h3 h4 ((hc.perm hp').ghost g1)
 exact ⟨H2, (Ghost.perm hp').trans (g1.trans g2), ⟨rows, k1.le l2, h2, k2⟩, Heap.le_trans l1 l2⟩
theorem OwnB.freeze {t : Tys} {w : dr} {b : Bd} {O X : Own} {H : Heap} (h : OwnB t w b O) (hc : Cons H (O ++ X)) : ∃ H', Ghost H (O ++ X) H' X ∧ BdS H' w b ∧ Heap.le H H' := by
 obtain ⟨Oo, A0, B0, C0, D0, A1, B1, C1, D1, Os, Oq, Oa, Obk, hp, h⟩ := h
 have hp' : (O ++ X).Perm (Oo ++ (A0 ++ (B0 ++ (C0 ++ (D0 ++ (A1 ++ (B1 ++ (C1 ++ (D1 ++ (Os ++ (Oq ++ (Oa ++ (Obk ++ X))))))))))))) := by
  refine (hp.append_right X).trans (List.Perm.of_eq ?_)
  simp only [List.append_assoc]
 replace hc := hc.perm hp'
 obtain ⟨H1, g1, k1, l1⟩ := h.objs.freeze hc
 replace hc := hc.ghost g1
 obtain ⟨H2, g2, k2, l2⟩ := h.l0.freeze hc
 replace hc := hc.ghost g2
 obtain ⟨H3, g3, k3, l3⟩ := h.h0.freeze hc
 replace hc := hc.ghost g3
 obtain ⟨H4, g4, k4, l4⟩ := h.f0.freeze hc
 replace hc := hc.ghost g4
 obtain ⟨H5, g5, k5, l5⟩ := h.g0.freeze hc
 replace hc := hc.ghost g5
 obtain ⟨H6, g6, k6, l6⟩ := h.l1.freeze hc
 replace hc := hc.ghost g6
 obtain ⟨H7, g7, k7, l7⟩ := h.h1.freeze hc
 replace hc := hc.ghost g7
 obtain ⟨H8, g8, k8, l8⟩ := h.f1.freeze hc
 replace hc := hc.ghost g8
 obtain ⟨H9, g9, k9, l9⟩ := h.g1.freeze hc
 replace hc := hc.ghost g9
 obtain ⟨H10, g10, k10, l10⟩ := h.stack.freeze hc
 replace hc := hc.ghost g10
 obtain ⟨H11, g11, k11, l11⟩ := h.queue.freeze hc
 replace hc := hc.ghost g11
 obtain ⟨H12, g12, k12, l12⟩ := h.att.freeze hc
 replace hc := hc.ghost g12
 obtain ⟨H13, g13, k13, l13⟩ := h.blocks.freeze hc
 have m12 := l13
 have m11 := Heap.le_trans l12 m12
 have m10 := Heap.le_trans l11 m11
 have m9 := Heap.le_trans l10 m10
 have m8 := Heap.le_trans l9 m9
 have m7 := Heap.le_trans l8 m8
 have m6 := Heap.le_trans l7 m7
 have m5 := Heap.le_trans l6 m6
 have m4 := Heap.le_trans l5 m5
 have m3 := Heap.le_trans l4 m4
 have m2 := Heap.le_trans l3 m3
 have m1 := Heap.le_trans l2 m2
 exact ⟨H13, (Ghost.perm hp').trans (g1.trans (g2.trans (g3.trans (g4.trans (g5.trans (g6.trans (g7.trans (g8.trans (g9.trans (g10.trans (g11.trans (g12.trans g13)))))))))))),
  ⟨k1.le m1, ⟨k2.le m2, k3.le m3, k4.le m4, k5.le m5⟩, ⟨k6.le m6, k7.le m7, k8.le m8, k9.le m9⟩, k10.le m10, k11.le m11, k12.le m12, k13⟩, Heap.le_trans l1 m1⟩
theorem Triple.frozen {P : Program} {f : FuncId} {args : List Value} {H : Heap} {t : Tys} {b : Bd} (h : Triple P f args H [] fun r _ O' => ∃ w, r = .agg (am w b).toArray ∧ OwnB t w b O') :
  Triple P f args H [] fun r H' O' => (∃ w, r = .agg (am w b).toArray ∧ BdS H' w b) ∧ O' = [] := by
 refine h.ghost ?_
 rintro v H' O' _ hc ⟨w, rfl, ho⟩
 obtain ⟨H'', g, k, _⟩ := ho.freeze (X := []) (by simpa using hc)
 exact ⟨H'', [], by simpa using g, ⟨w, rfl, k⟩, rfl⟩
theorem rB {P : Program} {v : Value} {H : Heap} {O O' : Own} {Q : Value → Heap → Own → Prop} (hp : O.Perm O') (h : Q v H O') : (Tree.ret v []).den P Q H O := fun _ => ⟨H, O', Ghost.perm (by simpa using hp), h⟩
theorem RetO.frame {P : Program} {f : FuncId} {args : List Value} {H : Heap} {O : Own} {r : Value} (h : RetO P f args H O r) (X : Own) : RetO P f args H (O ++ X) r :=
 (Triple.frame h X).mono fun _ _ _ _ ⟨O'', e, e1, e2⟩ => ⟨e1, by rw [e, e2]⟩
theorem RetO.perm {P : Program} {f : FuncId} {args : List Value} {H : Heap} {O O' : Own} {r : Value} (h : RetO P f args H O r) (hp : O.Perm O') : RetO P f args H O' r :=
 fun w F hm => (h w F (hm.perm (hp.symm.append_right F))).mono fun _ _ ⟨v, H', O1, he, ⟨q1, q2⟩, hle, hm'⟩ => ⟨v, H', O', he, ⟨q1, rfl⟩, hle, hm'.perm (by rw [q2]; exact hp.append_right F)⟩
theorem Ez {r : List Value} {n : Nat} (h : r.length = n) : (List.range n).map (g r) = r := by
 subst h
 refine List.ext_getElem (by simp) fun i h1 h2 => ?_
 simp [g, h2]
theorem sW {r ys : List Value} (h : r.length = ys.length) : dc r 0 ys = ys := by simp [dc, h]
theorem OP {size : Nat} : ∀ (k : Nat) (zs : List Value), zs.length = k * size → Ones zs → ∃ rows : List (List Value), rows.length = k ∧ (∀ r ∈ rows, r.length = size) ∧ (∀ r ∈ rows, Ones r) ∧ rows.flatten = zs
 | 0, zs, h, _ => ⟨[], rfl, by simp, by simp, by
   have : zs = [] := List.eq_nil_of_length_eq_zero (by simpa using h)
   rw [this]; rfl⟩
 | k + 1, zs, h, ho => by
  rw [Nat.add_mul, Nat.one_mul] at h
  obtain ⟨rows, h1, h2, h3, h4⟩ := OP (size := size) k (zs.drop size) (by rw [List.length_drop]; omega) (ho.drop size)
  refine ⟨zs.take size :: rows, by simp [h1], ?_, ?_, by rw [List.flatten_cons, h4, List.take_append_drop]⟩
  ·intro r hr
   rcases List.mem_cons.1 hr with rfl | hr
   ·rw [List.length_take]; omega
   ·exact h2 r hr
  ·intro r hr
   rcases List.mem_cons.1 hr with rfl | hr
   ·exact ho.take size
   ·exact h3 r hr
theorem vH {z : Array Value} {n : Nat} (h : ∀ v ∈ z.toList, v.oneCell' = true) : ∀ v ∈ (Builtin.zeroCells z n).toList, v.oneCell' = true := by
 intro v hv
 simp only [Builtin.zeroCells, Array.toList_map, List.mem_map, Array.toList_range, List.mem_range] at hv
 obtain ⟨i, hi, rfl⟩ := hv
 have hpos : 0 < z.size := by
  rcases Nat.eq_zero_or_pos z.size with e | e
  ·rw [e] at hi; omega
  ·exact e
 have hlt := Nat.mod_lt i hpos
 rw [getElem!_pos z (i % z.size) hlt]
 exact h _ (by simp)
theorem OSl.upto {e : TypeId} {size : Nat} {v : Value} {rows : List (List Value)} {O : Own} (h : OSl e size v rows O) {i : Nat} (hi : i ≤ rows.length) :
  ∃ u, aj (.slc size false true false) [v, .int .i64 i] = some u ∧ OSl e size u (rows.take i) O := by
 rcases h with ⟨⟨a, rfl⟩, rfl, rfl⟩ | ⟨r, cs, cap, rfl, rfl, hcl, hlc, hcap, hl, ho, ht⟩
 ·have h0 : i = 0 := by simpa using hi
  subst h0
  refine ⟨.slice a 0 0, ?_, .inl ⟨⟨a, rfl⟩, rfl, rfl⟩⟩
  simp [aj, dY, gp, bg, bQ, dL, kB, asI]
 ·have hb : bg rows.length cap none (some (.int .i64 (i : Int))) none = some (0, i, cap) := by
   have : i ≤ cap := by omega
   simp [bg, bQ, dL, kB, asI, this]
  refine ⟨.slice (some ⟨r, 0, none⟩) i cap, ?_, .inr ⟨r, cs, cap, ?_, rfl, hcl, ?_, hcap, fun x hx => hl x (List.mem_of_mem_take hx), fun x hx => ho x (List.mem_of_mem_take hx), ?_⟩⟩
  ·simp only [aj, dY, gp, hb, Option.map_some]
   simp [Addr.add]
  ·simp [Nat.min_eq_left hi]
  ·rw [List.length_take]; omega
  ·have h1 : (rows.take i).length = i := by rw [List.length_take]; omega
   have h2 := congrArg (fun l => l.take (i * size)) ht
   simp only [List.take_take] at h2
   have h3 : i * size ≤ rows.length * size := Nat.mul_le_mul_right _ hi
   rw [Nat.min_eq_left h3] at h2
   rw [h1, h2]
   have h4 : rows.flatten = (rows.take i).flatten ++ (rows.drop i).flatten := by rw [← List.flatten_append, List.take_append_drop]
   have h5 := cP (rows := rows.take i) (size := size) fun x hx => hl x (List.mem_of_mem_take hx)
   rw [h1] at h5
   rw [h4, ← h5, List.take_left]
theorem tH {P : Program} {t ty e : TypeId} {size : Nat} {z : Value} (ht : P.underlying t = some (.slice e)) (hz : ∀ w, (zeroValue e).run P w = .ok z w) (hzs : z.cells.size = size) (hz1 : ∀ v ∈ z.cells.toList, v.oneCell' = true)
  {v : Value} {rows : List (List Value)} {O O1 O2 : Own} (h : OSl e size v rows O1) (hO : O.Perm (O1 ++ O2)) {i : Nat} (hi : i ≤ rows.length) :
  ∃ u, aj (.slc size true false false) [v, .int .i64 i] = some u ∧ ∀ (H : Heap) (K : List Value → List (List Value) → Heap → Own → Prop),
   (∀ rows' O1', rows'.take i = rows.take i → rows'.length = rows.length → OSl e size v rows' O1' → K [] [] H (O1' ++ O2)) →
   dG (fun H1 O1 R => bC P ((PrimOp.bi .clear #[t] ty).sem [u]) H1 O1 R) false [] [] (.tup []) K H O := by
 rcases h with ⟨⟨a, rfl⟩, rfl, rfl⟩ | ⟨r, cs, cap, rfl, rfl, hcl, hlc, hcap, hl, ho, htk⟩
 ·have h0 : i = 0 := by simpa using hi
  subst h0
  refine ⟨.slice a 0 0, ?_, fun H K hk => ?_⟩
  ·simp [aj, dY, gp, bg, bQ, dL, kB, asI]
  ·intro _
   refine ⟨H, [], O2, fun v' H' O' => v' = .tuple #[] ∧ H' = H ∧ O' = [], Ghost.perm (by simpa using hO), fun w F hm => ⟨.tuple #[], w, H, [], ?_, ⟨rfl, rfl, rfl⟩, Heap.le_refl H, by simpa using hm⟩, ?_⟩
   ·have : (Builtin.clear_ #[t] ty #[.slice a 0 0]).run P w = .ok (.tuple #[]) w := by cases a <;> simp [Builtin.clear_, run_underlying ht]
    simp only [PrimOp.sem, builtin, Sem.run_bind]
    rw [this]; rfl
   ·rintro v' H' O' ⟨rfl, rfl, rfl⟩ _
    exact ⟨[], [], [], rfl, trivial, trivial, rfl, hk [] [] rfl rfl (.inl ⟨⟨a, rfl⟩, rfl, rfl⟩)⟩
 ·have hb : bg rows.length cap (some (.int .i64 (i : Int))) none none = some (i, rows.length, cap) := by
   simp [bg, bQ, dL, kB, asI, hi]
  have hmul : i * size ≤ rows.length * size := Nat.mul_le_mul_right _ hi
  have hmul2 : rows.length * size ≤ cap * size := Nat.mul_le_mul_right _ hlc
  have hsub : (rows.length - i) * size = rows.length * size - i * size := Nat.sub_mul _ _ _
  refine ⟨.slice (some ⟨r, if cap = i then 0 else i * size, none⟩) (rows.length - i) (cap - i), ?_, fun H K hk => ?_⟩
  ·simp only [aj, dY, gp, hb, Option.map_some]
   split
   ·rfl
   ·show some (Value.slice (some ((⟨r, 0, none⟩ : Addr).add (i * size))) (rows.length - i) (cap - i)) = _
    rw [bY, Nat.zero_add]
  ·
   have hzl : (Builtin.zeroCells z.cells (rows.length - i)).toList.length = (rows.length - i) * size := by
    have := size_zeroCells z.cells (rows.length - i)
    rw [Array.length_toList, this, hzs]
   have hz1' := vH (n := rows.length - i) hz1
   obtain ⟨junk, j1, j2, j3, j4⟩ := OP (rows.length - i) _ hzl (qN hz1')
   generalize hoff : (if cap = i then 0 else i * size) = off
   have hfit : off + (rows.length - i) * z.cells.size ≤ cs.length := by
    rw [hzs, hsub, hcl, ← hoff]
    split
    ·rename_i e; subst e; omega
    ·omega
   generalize hcs : cs.take off ++ (Builtin.zeroCells z.cells (rows.length - i)).toList ++ cs.drop (off + (Builtin.zeroCells z.cells (rows.length - i)).toList.length) = cs'
   have hlen' : cs'.length = cs.length := by
    rw [← hcs]
    simp only [List.length_append, List.length_take, List.length_drop, hzl]
    rw [hzs] at hfit
    omega
   intro _
   refine ⟨H, [(r, .cells cs.toArray e (0, 0))], O2, fun v' H' O' => v' = .tuple #[] ∧ H' = H ∧ O' = [(r, .cells cs'.toArray e (0, 0))], Ghost.perm hO, fun w F hm => ?_, ?_⟩
   ·have hrow := (hm.own (r, .cells cs.toArray e (0, 0)) (by simp)).1
    have hrun := AQ (ty := ty) (cap := cap - i) (n := rows.length - i) (off := off) ht hz hrow hfit hz1'
    rw [hcs] at hrun
    refine ⟨.tuple #[], w.setRow r cs'.toArray, H, _, ?_, ⟨rfl, rfl, rfl⟩, Heap.le_refl H, ?_⟩
    ·simp only [PrimOp.sem, builtin, Sem.run_bind]
     rw [hrun]; rfl
    ·exact tp (vs := cs) (by simpa using hm)
   ·rintro v' H' O' ⟨rfl, rfl, rfl⟩ _
    refine ⟨[], [], _, rfl, trivial, trivial, rfl, ?_⟩
    have hrl : (rows.take i ++ junk).length = rows.length := by rw [List.length_append, List.length_take, j1]; omega
    refine hk (rows.take i ++ junk) _ ?_ hrl (.inr ⟨r, cs', cap, ?_, rfl, by rw [hlen', hcl], by rw [hrl]; exact hlc, hcap, ?_, ?_, ?_⟩)
    ·rw [List.take_append_of_le_length (by rw [List.length_take]; omega), List.take_take, Nat.min_self]
    ·rw [hrl]
    ·intro x hx
     rcases List.mem_append.1 hx with hx | hx
     ·exact hl x (List.mem_of_mem_take hx)
     ·exact j2 x hx
    ·intro x hx
     rcases List.mem_append.1 hx with hx | hx
     ·exact ho x (List.mem_of_mem_take hx)
     ·exact j3 x hx
    ·rw [hrl, List.flatten_append, j4]
     have ht5 : (rows.take i).flatten = cs.take (i * size) := by
      have h5 := cP (rows := rows.take i) (size := size) fun x hx => hl x (List.mem_of_mem_take hx)
      have h1 : (rows.take i).length = i := by rw [List.length_take]; omega
      rw [h1] at h5
      have h4 : rows.flatten = (rows.take i).flatten ++ (rows.drop i).flatten := by rw [← List.flatten_append, List.take_append_drop]
      have h2 := congrArg (fun l => l.take (i * size)) htk
      simp only [List.take_take] at h2
      rw [Nat.min_eq_left hmul, h4, ← h5, List.take_left] at h2
      rw [← h5]; exact h2.symm
     rw [ht5]
     rw [← hcs]
     by_cases hci : cap = i
     ·have hn : rows.length - i = 0 := by omega
      have hz0 : (Builtin.zeroCells z.cells (rows.length - i)).toList = [] := List.eq_nil_of_length_eq_zero (by rw [hzl, hn]; simp)
      have hoff0 : off = 0 := by rw [← hoff, if_pos hci]
      rw [hz0, hoff0]
      have : rows.length = i := by omega
      simp [this]
     ·have hoff0 : off = i * size := by rw [← hoff, if_neg hci]
      rw [hoff0]
      have e1 : (cs.take (i * size) ++ (Builtin.zeroCells z.cells (rows.length - i)).toList).length = rows.length * size := by
       rw [List.length_append, List.length_take, hzl, hsub]; omega
      rw [List.take_append_of_le_length (by omega), ← e1, List.take_length]
theorem fB {P : Program} {f : FuncId} {args : List Value} {H : Heap} {O O1 O2 : Own} {own : List BV} {shp : Shp} {K : List Value → List (List Value) → Heap → Own → Prop} {R : Value → Heap → Own → Prop}
  (hO : O.Perm (O1 ++ O2)) (h : Triple P f args H (own.map BV.obj ++ O1) fun v H' O' => ∃ O3, O' = own.map BV.obj ++ O3 ∧ R v H' O3) (hf : LU own (own.map (·.vs)))
  (hk : ∀ v H' O3, R v H' O3 → Heap.le H H' → ∃ vs, shp.open v = some vs ∧ Ones vs ∧ K vs (own.map (·.vs)) H' (O3 ++ O2)) :
  dG (fun H1 O1 R => Triple P f args H1 O1 R) false [] own shp K H O := by
 intro _
 refine ⟨H, O1, O2, _, Ghost.perm hO, h, ?_⟩
 rintro v H' O' ⟨O3, rfl, hr⟩ hle
 obtain ⟨vs, h1, h2, h3⟩ := hk v H' O3 hr hle
 exact ⟨vs, own.map (·.vs), O3, h1, h2, hf, by rw [ml], h3⟩
theorem lO {P : Program} {f : FuncId} {args : List Value} {H : Heap} {O O1 O2 : Own} {shp : Shp} {K : List Value → List (List Value) → Heap → Own → Prop} {R : Value → Heap → Own → Prop}
  (hO : O.Perm (O1 ++ O2)) (h : Triple P f args H O1 R) (hk : ∀ v H' O3, R v H' O3 → Heap.le H H' → ∃ vs, shp.open v = some vs ∧ Ones vs ∧ K vs [] H' (O3 ++ O2)) :
  dG (fun H1 O1 R => Triple P f args H1 O1 R) false [] [] shp K H O := by
 intro _
 refine ⟨H, O1, O2, R, Ghost.perm hO, by simpa using h, ?_⟩
 intro v H' O' hr hle
 obtain ⟨vs, h1, h2, h3⟩ := hk v H' O' hr hle
 exact ⟨vs, [], O', h1, h2, trivial, rfl, h3⟩
theorem E5 {P : Program} {op : PrimOp} {args : List Value} {H : Heap} {O O2 : Own} {r : Nat} {cs cs' : List Value} {e : TypeId} {v : Value} {shp : Shp} {K : List Value → List (List Value) → Heap → Own → Prop} {vs : List Value}
  (hO : O.Perm ([(r, .cells cs.toArray e (0, 0))] ++ O2)) (hrun : ∀ w F, Models w H ([(r, .cells cs.toArray e (0, 0))] ++ F) → (op.sem args).run P w = .ok (.value v) (w.setRow r cs'.toArray)) (ho : shp.open v = some vs) (h1 : Ones vs)
  (hk : K vs [] H ([(r, .cells cs'.toArray e (0, 0))] ++ O2)) : dG (fun H1 O1 R => bC P (op.sem args) H1 O1 R) false [] [] shp K H O := by
 intro _
 refine ⟨H, [(r, .cells cs.toArray e (0, 0))], O2, fun v' H' O' => v' = v ∧ H' = H ∧ O' = [(r, .cells cs'.toArray e (0, 0))], Ghost.perm hO, fun w F hm => ⟨v, w.setRow r cs'.toArray, H, _, hrun w F (by simpa using hm), ⟨rfl, rfl, rfl⟩, Heap.le_refl H, ?_⟩, ?_⟩
 ·exact tp (vs := cs) (by simpa using hm)
 ·rintro v' H' O' ⟨rfl, rfl, rfl⟩ _
  exact ⟨vs, [], _, ho, h1, trivial, rfl, hk⟩
theorem nN {size : Nat} {rows : List (List Value)} {cs : List Value} (hl : ∀ row ∈ rows, row.length = size) (ht : cs.take (rows.length * size) = rows.flatten) {i : Nat} (hi : i ≤ rows.length) :
  (rows.take i).flatten = cs.take (i * size) ∧ (rows.drop i).flatten = (cs.drop (i * size)).take ((rows.length - i) * size) := by
 have h5 := cP (rows := rows.take i) (size := size) fun x hx => hl x (List.mem_of_mem_take hx)
 have h1 : (rows.take i).length = i := by rw [List.length_take]; omega
 rw [h1] at h5
 have h4 : rows.flatten = (rows.take i).flatten ++ (rows.drop i).flatten := by rw [← List.flatten_append, List.take_append_drop]
 have hmul : i * size ≤ rows.length * size := Nat.mul_le_mul_right _ hi
 have hsub : (rows.length - i) * size = rows.length * size - i * size := Nat.sub_mul _ _ _
 constructor
 ·have h2 := congrArg (fun l => l.take (i * size)) ht
  simp only [List.take_take] at h2
  rw [Nat.min_eq_left hmul, h4, ← h5, List.take_left] at h2
  rw [← h5]; exact h2.symm
 ·have h2 := congrArg (fun l => l.drop (i * size)) ht
  simp only [List.drop_take] at h2
  rw [h4, ← h5, List.drop_left, h5] at h2
  rw [hsub]; exact h2.symm
theorem GH {P : Program} {t e : TypeId} {size bytes : Nat} (h : CN P t e size bytes = true) : P.underlying t = some (.slice e) ∧ ∃ i, P.info? e = some i ∧ i.size = size := by
 unfold CN at h
 split at h
 ·rename_i e' i hu hi
  simp only [Bool.and_eq_true, beq_iff_eq] at h
  obtain ⟨⟨⟨⟨rfl, hsz⟩, _⟩, _⟩, _⟩ := h
  exact ⟨hu, i, hi, hsz⟩
 ·cases h
theorem J0 {w : World} {H : Heap} {r : Nat} {cs : List Value} {e : TypeId} {F : Own} (hm : Models w H ([(r, .cells cs.toArray e (0, 0))] ++ F)) {j : Nat} {u : Value} (h : cs[j]? = some u) : w.cell? ⟨r, j, none⟩ = some u := by
 have hr := (hm.own (r, .cells cs.toArray e (0, 0)) (by simp)).1
 simp only [] at hr
 simp [World.cell?, hr, h]
theorem Sl.upto {H : Heap} {size : Nat} {v : Value} {rows : List (List Value)} (h : Sl H size v rows) {i : Nat} (hi : i ≤ rows.length) : ∃ u, aj (.slc size false true false) [v, .int .i64 i] = some u ∧ Sl H size u (rows.take i) := by
 obtain ⟨a, cap, rfl, h1, h2, h3⟩ := h
 have hb : bg rows.length cap none (some (.int .i64 (i : Int))) none = some (0, i, cap) := by
  have : i ≤ cap := by omega
  simp [bg, bQ, dL, kB, asI, this]
 have hm : (rows.take i).length = i := by rw [List.length_take]; omega
 refine ⟨.slice a i cap, ?_, a, cap, by rw [hm], by rw [hm]; omega, h2, fun hne => ?_⟩
 ·simp only [aj, dY, gp, hb, Option.map_some]
  cases a <;> simp [Addr.add]
 ·have hne2 : rows ≠ [] := by rintro rfl; simp at hne
  obtain ⟨ad, e, hA⟩ := h3 hne2
  refine ⟨ad, e, fun j r hr => hA j r ?_⟩
  rw [List.getElem?_take] at hr
  split at hr
  ·exact hr
  ·cases hr
theorem Sl.from {H : Heap} {size : Nat} {v : Value} {rows : List (List Value)} (h : Sl H size v rows) {i : Nat} (hi : i ≤ rows.length) : ∃ u, aj (.slc size true false false) [v, .int .i64 i] = some u ∧ Sl H size u (rows.drop i) := by
 obtain ⟨a, cap, rfl, h1, h2, h3⟩ := h
 have hb : bg rows.length cap (some (.int .i64 (i : Int))) none none = some (i, rows.length, cap) := by
  simp [bg, bQ, dL, kB, asI, hi]
 have hm : (rows.drop i).length = rows.length - i := List.length_drop
 refine ⟨.slice (if cap = i then a else a.map (·.add (i * size))) (rows.length - i) (cap - i), ?_, _, cap - i, by rw [hm], by rw [hm]; omega, by omega, fun hne => ?_⟩
 ·simp only [aj, dY, gp, hb, Option.map_some]
 ·have hne2 : rows ≠ [] := by rintro rfl; simp at hne
  have hlt : i < rows.length := by
   rcases Nat.lt_or_ge i rows.length with h | h
   ·exact h
   ·rw [List.drop_of_length_le h] at hne; exact absurd rfl hne
  obtain ⟨ad, rfl, hA⟩ := h3 hne2
  refine ⟨ad.add (i * size), ?_, fun j r hr => ?_⟩
  ·rw [if_neg (by omega)]; rfl
  ·rw [List.getElem?_drop] at hr
   have := hA (i + j) r hr
   rw [xO, ← Nat.add_mul]; exact this
theorem IT {α β : Type} {p : α → Bool} {q : β → Bool} {R : α → β → Prop} (hpq : ∀ a b, R a b → p a = q b) : ∀ (l : List α) (r : List β), l.length = r.length → (∀ (i : Nat) (a : α) (b : β), l[i]? = some a → r[i]? = some b → R a b) →
  (l.filter p).length = (r.filter q).length ∧ ∀ (i : Nat) (a : α) (b : β), (l.filter p)[i]? = some a → (r.filter q)[i]? = some b → R a b
 | [], [], _, _ => ⟨rfl, fun i a b h => by simp at h⟩
 | a :: l, b :: r, h, hR => by
  have h0 := hR 0 a b rfl rfl
  have e := hpq a b h0
  obtain ⟨i1, i2⟩ := IT hpq l r (by simpa using h) fun i a b x y => hR (i + 1) a b (by simpa using x) (by simpa using y)
  cases hp : q b with
  | false => rw [List.filter_cons_of_neg (by rw [e, hp]; simp), List.filter_cons_of_neg (by rw [hp]; simp)]; exact ⟨i1, i2⟩
  | true =>
   rw [List.filter_cons_of_pos (by rw [e, hp]), List.filter_cons_of_pos hp]
   refine ⟨by simp [i1], fun i x y hx hy => ?_⟩
   cases i with
   | zero => simp at hx hy; subst hx; subst hy; exact h0
   | succ i => exact i2 i x y (by simpa using hx) (by simpa using hy)
 | [], _ :: _, h, _ => by simp at h
 | _ :: _, [], h, _ => by simp at h
def KindS (H : Heap) (v : Value) (ks : List Int) : Prop := ∃ rows, Sl H 14 v rows ∧ rows.length = ks.length ∧ ∀ (i : Nat) (r : List Value) (k : Int), rows[i]? = some r → ks[i]? = some k → g r 1 = iV k
theorem KindS.le {H H' : Heap} {v : Value} {ks : List Int} (h : KindS H v ks) (hl : Heap.le H H') : KindS H' v ks := let ⟨rows, h1, h2, h3⟩ := h; ⟨rows, h1.le hl, h2, h3⟩
theorem KindS.one {H : Heap} {v : Value} {ks : List Int} (h : KindS H v ks) : v.oneCell' = true := let ⟨_, h1, _⟩ := h; h1.one
def BD (ks : List Int) (c : Int) : Int := if c < 0 ∨ c ≥ (ks.length : Int) then 0 else ks.getD c.toNat 0
def rO (ks : List Int) (o : Ob) : Bool := o.card == -1 || BD ks o.card == 2
theorem iC {H : Heap} {O : Own} {p : Value} {m : Nat} {vs : List Value} (h : H.read p m = some vs) : Reads H O p m vs := .inl h
theorem Lp {P : Program} {t e : TypeId} (hu : P.underlying t = some (.slice e)) {size : Nat} (h0 : 0 < size) {H : Heap} {x : Value} {news : List (List Value)} (hs : Sl H size x news) {w : World} {O : Own} (hm : Models w H O) :
  Src P size t x news.length news.flatten w ∧ news.flatten.length = news.length * size ∧ (∀ row ∈ news, row.length = size) ∧ ∀ row ∈ news, Ones row := by
 obtain ⟨xa, cap, rfl, h1, h2, h3⟩ := hs
 by_cases hne : news = []
 ·subst hne
  refine ⟨?_, by simp, by simp, by simp⟩
  cases xa with
  | none => exact Src.ofNil w hu cap
  | some ad => exact Src.ofSlice w hu ad 0 cap [] (by simp) (fun j u h => by simp at h) (by simp)
 ·obtain ⟨a, rfl, hA⟩ := h3 hne
  obtain ⟨hnl, hcells⟩ := AK (H := H) h0 (fun _ => hA) hm
  have hfl := cP fun r hr => (hnl r hr).1
  refine ⟨Src.ofSlice w hu a _ cap _ hfl hcells fun u hu' => ?_, hfl, fun r hr => (hnl r hr).1, fun r hr => (hnl r hr).2⟩
  obtain ⟨r, hr, hur⟩ := List.mem_flatten.1 hu'
  exact iw (hnl r hr).2 u hur
theorem IQ {P : Program} {t tx ty e : TypeId} {i : TypeInfo} {z : Value} {size : Nat} (ht : P.underlying t = some (.slice e)) (hi : P.info? e = some i) (hz : i.zero = some z) (hsz : i.size = size) (hzs : z.cells.size = size) (hby : mH P e = i.bytes) {w : World}
  {base : Option Addr} {len cap m : Nat} {olds news : List Value} {x : Value} (hold : (Builtin.firstCells i.size len (.slice base len cap)).run P w.drew = .ok olds.toArray w.drew) (hs : Src P size tx x m news w)
  (hg : cap < len + m) (hb : (len + m) * mH P e ≤ 140737488355328) (h63 : len + m < 2 ^ 63) :
  ∃ zs cc, zs.length = cc * size ∧ cc + (len + m) < 2 ^ 63 ∧ (Builtin.append_ #[t, tx] ty #[.slice base len cap, x]).run P w = .ok (.slice (some ⟨w.heap.size, 0, none⟩) (len + m) (cc + (len + m))) (w.drew.alloc (.cells (olds ++ news ++ zs).toArray e)) := by
 subst hsz
 have hge := grownCap_ge w (len + m) cap e
 have hle := grownCap_le_maxLen w (len + m) cap e (by unfold maxLen; omega)
 unfold maxLen at hle
 refine ⟨(Builtin.zeroCells z.cells (grownCap w (len + m) cap e - (len + m))).toList, grownCap w (len + m) cap e - (len + m), ?_, by omega, ?_⟩
 ·rw [Array.length_toList, size_zeroCells, hzs]
 ·rw [run_append_grow_src (P := P) w t tx ty e i z ht hi hz base len cap olds hold x m news hs hg (by omega) (growslice_fits hg (by rw [← hby]; exact hb))]
  have e1 : grownCap w (len + m) cap e - (len + m) + (len + m) = grownCap w (len + m) cap e := by omega
  rw [e1]
  congr 3
  apply Array.ext'
  simp
theorem GF {P : Program} {t ty e : TypeId} {size : Nat} (ha : Ff P t e size = true) {ad : Addr} {rows news : List (List Value)} {x : Value} {H : Heap} (hr : Sl H size (.slice (some ad) rows.length rows.length) rows) (hx : Sl H size x news)
  (hb : (rows.length + news.length) * mH P e ≤ 140737488355328) (h63 : rows.length + news.length < 2 ^ 63) :
  bC P ((PrimOp.bi .append #[t, t] ty).sem [.slice (some ad) rows.length rows.length, x]) H [] fun v' H' O' => O' = [] ∧ Heap.le H H' ∧ Sl H' size v' (rows ++ news) := by
 obtain ⟨hu, i, z, hi, hsz, hz, hzs, h0, hby⟩ := GG ha
 intro w F hm
 simp only [List.nil_append] at hm
 obtain ⟨src, s1, s2, s3⟩ := Lp hu h0 hx hm
 by_cases hne : news = []
 ·subst hne
  have hs' : Src P i.size t x 0 [] w := by rw [hsz]; exact src
  have hrun := zA (ty := ty) hu hi (base := some ad) (cap := rows.length) hs' (Nat.le_refl _)
  refine ⟨_, w, H, [], ?_, ⟨rfl, Heap.le_refl H, by rw [List.append_nil]; exact hr⟩, Heap.le_refl H, by simpa using hm⟩
  simp only [PrimOp.sem, builtin, Sem.run_bind]
  rw [hrun]; rfl
 ·have hpos : 0 < news.length := List.length_pos_iff.2 hne
  obtain ⟨osrc, o1, o2, o3⟩ := Lp hu h0 hr hm
  obtain ⟨zs, cc, z1, zc, hrun⟩ := IQ (ty := ty) hu hi hz hsz hzs hby (w := w) (base := some ad) (len := rows.length) (cap := rows.length) (m := news.length) (olds := rows.flatten) (news := news.flatten) (x := x)
   (by rw [hsz]; exact osrc.cellsD) src (by omega) hb h63
  have hm2 := Bv hm (rows.flatten ++ news.flatten ++ zs).toArray e
  have ho : OSl e size (.slice (some ⟨w.heap.size, 0, none⟩) (rows.length + news.length) (cc + (rows.length + news.length))) (rows ++ news) [(w.heap.size, .cells (rows.flatten ++ news.flatten ++ zs).toArray e (0, 0))] := by
   refine .inr ⟨w.heap.size, rows.flatten ++ news.flatten ++ zs, cc + (rows.length + news.length), by rw [List.length_append], rfl, ?_, ?_, ?_, ?_, ?_, ?_⟩
   ·rw [List.length_append, List.length_append, o1, s1, z1, ← Nat.add_mul, ← Nat.add_mul]; congr 1; omega
   ·rw [List.length_append]; omega
   ·exact zc
   ·intro r hr'
    rcases List.mem_append.1 hr' with h | h
    ·exact o2 r h
    ·exact s2 r h
   ·intro r hr'
    rcases List.mem_append.1 hr' with h | h
    ·exact o3 r h
    ·exact s3 r h
   ·rw [List.flatten_append, List.length_append, Nat.add_mul, ← o1, ← s1, ← List.length_append, List.take_left]
  obtain ⟨H', g, k1, k2⟩ := ho.freeze (X := []) ⟨w.drew.alloc (.cells (rows.flatten ++ news.flatten ++ zs).toArray e), F, hm2⟩
  refine ⟨_, w.drew.alloc (.cells (rows.flatten ++ news.flatten ++ zs).toArray e), H', [], ?_, ⟨rfl, k2, k1⟩, k2, (g _ F hm2).1⟩
  simp only [PrimOp.sem, builtin, Sem.run_bind]
  rw [hrun]; rfl
def GI (x : Int) (l : List Int) : List Int := l.takeWhile (fun y => decide (y < x)) ++ x :: l.dropWhile (fun y => decide (y < x))
def uU (l : List Int) : List Int := l.foldl (fun out x => GI x out) []
theorem w9 (x : Int) (l : List Int) : (GI x l).Perm (x :: l) := by
 rw [GI]
 refine List.perm_middle.trans (List.Perm.cons x ?_)
 rw [List.takeWhile_append_dropWhile]
theorem rl : ∀ (l out : List Int), (l.foldl (fun out x => GI x out) out).Perm (l ++ out)
 | [], out => List.Perm.refl _
 | x :: l, out => by
  rw [List.foldl_cons]
  refine (rl l _).trans ?_
  exact ((w9 x out).append_left l).trans List.perm_middle
theorem sX (l : List Int) : (uU l).Perm l := by have := rl l []; rw [List.append_nil] at this; exact this
theorem AM (l : List Int) : (uU l).length = l.length := (sX l).length_eq
theorem wZ {x : Int} : ∀ {l : List Int}, l.Pairwise (· < ·) → x ∉ l → (GI x l).Pairwise (· < ·)
 | [], _, _ => by simp [GI]
 | a :: l, h, hx => by
  rw [List.pairwise_cons] at h
  simp only [List.mem_cons, not_or] at hx
  have ih := wZ h.2 hx.2
  by_cases hax : a < x
  ·have e : GI x (a :: l) = a :: GI x l := by simp [GI, List.takeWhile_cons, List.dropWhile_cons, hax]
   rw [e, List.pairwise_cons]
   refine ⟨fun y hy => ?_, ih⟩
   rcases List.mem_cons.1 ((w9 x l).mem_iff.1 hy) with rfl | hy
   ·exact hax
   ·exact h.1 y hy
  ·have e : GI x (a :: l) = x :: a :: l := by simp [GI, List.takeWhile_cons, List.dropWhile_cons, hax]
   rw [e, List.pairwise_cons, List.pairwise_cons]
   refine ⟨fun y hy => ?_, h.1, h.2⟩
   rcases List.mem_cons.1 hy with rfl | hy
   ·omega
   ·have := h.1 y hy; omega
theorem nz : ∀ {l out : List Int}, out.Pairwise (· < ·) → (l ++ out).Nodup → (l.foldl (fun out x => GI x out) out).Pairwise (· < ·)
 | [], _, h, _ => h
 | x :: l, out, h, hn => by
  rw [List.foldl_cons]
  have hn2 : (l ++ x :: out).Nodup := List.perm_middle.nodup_iff.2 (by simpa using hn)
  have hx : x ∉ out := by
   rw [List.nodup_append] at hn2
   exact (List.nodup_cons.1 hn2.2.1).1
  exact nz (wZ h hx) (((w9 x out).symm.append_left l).nodup_iff.1 hn2)
theorem AL {l : List Int} (h : l.Nodup) : (uU l).Pairwise (· < ·) := nz (out := []) List.Pairwise.nil (by simpa using h)
theorem yB : ∀ {l r : List Int}, l.Pairwise (· < ·) → r.Pairwise (· < ·) → (∀ x, x ∈ l ↔ x ∈ r) → l = r
 | [], [], _, _, _ => rfl
 | [], b :: r, _, _, h => by have := (h b).2 (by simp); cases this
 | a :: l, [], _, _, h => by have := (h a).1 (by simp); cases this
 | a :: l, b :: r, hl, hr, h => by
  rw [List.pairwise_cons] at hl hr
  have e : a = b := by
   have h1 := (h a).1 (by simp)
   have h2 := (h b).2 (by simp)
   rcases List.mem_cons.1 h1 with e | h1
   ·exact e
   rcases List.mem_cons.1 h2 with e | h2
   ·exact e.symm
   have := hl.1 b h2
   have := hr.1 a h1
   omega
  subst e
  congr 1
  refine yB hl.2 hr.2 fun x => ⟨fun hx => ?_, fun hx => ?_⟩
  ·rcases List.mem_cons.1 ((h x).1 (by simp [hx])) with e | h'
   ·have := hl.1 x hx; omega
   ·exact h'
  ·rcases List.mem_cons.1 ((h x).2 (by simp [hx])) with e | h'
   ·have := hr.1 x hx; omega
   ·exact h'
end Go.Sx
namespace Go.Sx
open Go
set_option maxRecDepth 100000
set_option maxHeartbeats 1000000
abbrev uV (n : Nat) : Value := .int .u64 (n : Int)
theorem GP {n : Nat} (h : n < 2 ^ 64) : IntKind.u64.wrap (n : Int) = n := by
 simp only [IntKind.wrap, IntKind.bits, IntKind.signed]
 simp
 omega
theorem Ph {a b : Nat} (ha : a < 2 ^ 64) (hb : b < 2 ^ 64) : aj (.bin .and .int) [uV a, uV b] = some (uV (a &&& b)) := by
 show some (Value.int .u64 (IntKind.u64.wrap ((BitVec.ofNat 64 a &&& BitVec.ofNat 64 b).toNat : Int))) = _
 rw [BitVec.toNat_and, BitVec.toNat_ofNat, BitVec.toNat_ofNat, Nat.mod_eq_of_lt ha, Nat.mod_eq_of_lt hb, GP (Nat.and_lt_two_pow a hb)]
theorem Qw {a b : Nat} (ha : a < 2 ^ 64) (hb : b < 2 ^ 64) : aj (.bin .or .int) [uV a, uV b] = some (uV (a ||| b)) := by
 show some (Value.int .u64 (IntKind.u64.wrap ((BitVec.ofNat 64 a ||| BitVec.ofNat 64 b).toNat : Int))) = _
 rw [BitVec.toNat_or, BitVec.toNat_ofNat, BitVec.toNat_ofNat, Nat.mod_eq_of_lt ha, Nat.mod_eq_of_lt hb, GP (Nat.or_lt_two_pow ha hb)]
theorem DV {a : Nat} (ha : a < 2 ^ 64) : aj .compl [uV a] = some (uV (2 ^ 64 - 1 ^^^ a)) := by
 show some (Value.int .u64 (IntKind.u64.wrap ((BitVec.ofNat 64 (2 ^ 64 - 1) ^^^ BitVec.ofNat 64 a).toNat : Int))) = _
 rw [BitVec.toNat_xor, BitVec.toNat_ofNat, BitVec.toNat_ofNat, Nat.mod_eq_of_lt ha, Nat.mod_eq_of_lt (by omega), GP (Nat.xor_lt_two_pow (by omega) ha)]
theorem PX {a : Nat} (ha : a < 2 ^ 64) (h0 : 0 < a) : aj .neg [uV a] = some (uV (2 ^ 64 - a)) := by
 show some (Value.int .u64 (IntKind.u64.wrap (0 - (a : Int)))) = _
 congr 2
 simp only [IntKind.wrap, IntKind.bits, IntKind.signed]
 simp
 omega
theorem PS {r : Nat} (h : r < 64) : aj (.bin .shl .int) [uV 1, .int .i64 r] = some (uV (2 ^ r)) := by
 have e : aj (.bin .shl .int) [uV 1, .int .i64 r] = (if (r : Int) < 0 then none else some (Value.int .u64 (IntKind.u64.wrap ((1 : Nat) * 2 ^ (min (r : Int).toNat 64))))) := rfl
 rw [e, if_neg (by omega), Int.toNat_natCast, Nat.min_eq_left (by omega)]
 congr 2
 rw [← GP (n := 2 ^ r) (Nat.pow_lt_pow_right (by omega) h)]
 congr 1
 simp
theorem Nc (a b : Nat) : aj (.bin .neq .int) [uV a, uV b] = some (.bool (a != b)) := by
 show some (Value.bool ((a : Int) != b)) = _
 congr 2
 rw [Bool.eq_iff_iff]; simp; omega
theorem OM (a b : Nat) : aj (.bin .eql .int) [uV a, uV b] = some (.bool (a == b)) := by
 show some (Value.bool ((a : Int) == b)) = _
 congr 2
 rw [Bool.eq_iff_iff]; simp; omega
theorem Qk {a b : Nat} (h : a + b < 2 ^ 64) : aj (.bin .add .int) [uV a, uV b] = some (uV (a + b)) := by
 show some (Value.int .u64 (IntKind.u64.wrap ((a : Int) + b))) = _
 rw [show (a : Int) + b = ((a + b : Nat) : Int) by omega, GP h]
theorem Ij : ∀ {n x : Nat}, 0 < x → x < 2 ^ n → ∃ k m, k < n ∧ x = 2 ^ k * (2 * m + 1)
 | 0, x, h0, h => by simp at h; omega
 | n + 1, x, h0, h => by
  rcases Nat.mod_two_eq_zero_or_one x with e | e
  ·obtain ⟨k, m, h1, h2⟩ := Ij (n := n) (x := x / 2) (by omega) (by rw [Nat.pow_succ] at h; omega)
   refine ⟨k + 1, m, by omega, ?_⟩
   have : x = 2 * (x / 2) := by omega
   rw [this, h2, Nat.pow_succ]; ac_rfl
  ·exact ⟨0, x / 2, by omega, by omega⟩
theorem D9 {k m : Nat} (j : Nat) : (2 ^ k * (2 * m + 1)).testBit j = (decide (k ≤ j) && (2 * m + 1).testBit (j - k)) := Nat.testBit_two_pow_mul
theorem Kv {k m : Nat} : 2 ^ k * (2 * m + 1) - 1 = 2 ^ k * (2 * m) + (2 ^ k - 1) := by
 have := Nat.two_pow_pos k
 rw [Nat.mul_add]; omega
theorem Nr {x k m : Nat} (hx : x < 2 ^ 64) (h : x = 2 ^ k * (2 * m + 1)) : x &&& (2 ^ 64 - x) = 2 ^ k := by
 have hp := Nat.two_pow_pos k
 have h0 : 0 < x := by rw [h]; exact Nat.mul_pos hp (by omega)
 refine Nat.eq_of_testBit_eq fun j => ?_
 rw [Nat.testBit_and, show 2 ^ 64 - x = 2 ^ 64 - ((x - 1) + 1) by omega, Nat.testBit_two_pow_sub_succ (by omega), Nat.testBit_two_pow, h, D9, Kv, Nat.testBit_two_pow_mul_add _ (by omega), Nat.testBit_two_pow_sub_one]
 by_cases hj : j < k
 ·rw [if_pos hj, decide_eq_false (show ¬ k ≤ j by omega), decide_eq_false (show ¬ k = j by omega)]; rfl
 ·rw [if_neg hj]
  obtain ⟨d, rfl⟩ : ∃ d, j = k + d := ⟨j - k, by omega⟩
  rw [Nat.add_sub_cancel_left]
  cases d with
  | zero =>
   have : k < 64 := by
    refine Nat.lt_of_not_le fun hk => ?_
    have := Nat.pow_le_pow_right (n := 2) (by omega) hk
    have h2 : 2 ^ k * 1 ≤ 2 ^ k * (2 * m + 1) := Nat.mul_le_mul_left _ (by omega)
    omega
   simp [this]
  | succ d =>
   rw [Nat.testBit_succ, Nat.testBit_succ, show (2 * m + 1) / 2 = m by omega, show 2 * m / 2 = m by omega]
   cases m.testBit d <;> simp
theorem Nq {x k m j : Nat} (h : x = 2 ^ k * (2 * m + 1)) (hj : j < k) : x.testBit j = false := by rw [h, D9]; simp; omega
theorem OG {x k m : Nat} (h : x = 2 ^ k * (2 * m + 1)) : x.testBit k = true := by rw [h, D9]; simp
theorem ED (z : Value) : ∀ n, List.replicate n z = (List.replicate n [z]).flatten
 | 0 => rfl
 | n + 1 => by rw [List.replicate_succ, List.replicate_succ, List.flatten_cons, ← ED z n]; rfl
theorem Hz (z : Value) : ∀ n, qM [z] n = List.replicate n z
 | 0 => rfl
 | n + 1 => by rw [qM, Hz z n]; rfl
theorem Ku {P : Program} {t elem : TypeId} {z : Value} (hu : P.underlying t = some (.slice elem)) (hs : kp P elem = some 1) (hz : tV P elem = some [.k z]) (hby : ((P.info? elem).map fun i => decide (i.bytes ≤ 16)).getD false = true) (hzo : z.oneCell' = true)
  {n : Nat} (hn : n ≤ 65536) {H : Heap} {O : Own} {K : List Value → List (List Value) → Heap → Own → Prop} (hk : ∀ v A, OSl elem 1 v (List.replicate n [z]) A → K [v] [] H (A ++ O)) :
  dG (fun H1 O1 R => bC P ((PrimOp.makeSlice t).sem [iV n, iV n]) H1 O1 R) false [] [] .one K H O := by
 obtain ⟨zv, hzr, hzc, _, _⟩ := li hz
 have hrun : ∀ w, ((PrimOp.makeSlice t).sem [iV n, iV n]).run P w = .ok (.value (.slice (some ⟨w.heap.size, 0, none⟩) n n)) { w with heap := w.heap.push (.cells (List.replicate n z).toArray elem (0, 0)) } := by
  intro w
  have hzc' : zv.cells = #[z] := by
   apply Array.ext'
   rw [hzc]; rfl
  have hrep : ((Array.range (n * 1)).map fun i => (#[z] : Array Value)[i % (#[z] : Array Value).size]!) = (List.replicate n z).toArray := by
   have := jl [z] (by simp) n
   apply Array.ext'
   rw [← Hz, ← this]
   simp
  cases hi : P.info? elem with
  | none => rw [hi] at hby; simp at hby
  | some i =>
   rw [hi] at hby
   simp only [Option.map_some, Option.getD_some, decide_eq_true_eq] at hby
   have w1 : IntKind.i64.wrap (n : Int) = n := fi (by omega) (by omega)
   have hby' : ¬ ((i.bytes : Int) * (n : Int) > 2 ^ 48) := by
    have h1 : i.bytes * n ≤ 16 * 65536 := Nat.mul_le_mul hby hn
    have e : ((i.bytes * n : Nat) : Int) = (i.bytes : Int) * (n : Int) := Int.natCast_mul _ _
    omega
   have hcnd : ¬ (((decide ((n : Int) < 0) || decide ((i.bytes : Int) * (n : Int) > 2 ^ 48)) || decide ((n : Int) < 0) || decide ((n : Int) > (n : Int))) = true) := by
    simp only [Bool.or_eq_true, decide_eq_true_eq]
    omega
   have hti : (typeInfo elem).run P w = .ok i w := by simp [typeInfo, hi]
   have hA : (asInt (.int .i64 (n : Int))).run P w = .ok (n : Int) w := rfl
   show ((do pure (Next.value (← Instr.makeSlice t (iV n) (iV n)))) : Sem Next).run P w = _
   rw [Sem.run_bind]
   unfold Instr.makeSlice
   rw [Sem.run_bind, aw hu]
   simp only [Result.andThen_ok]
   rw [Sem.run_bind, hA, Result.andThen_ok, Sem.run_bind, hA, Result.andThen_ok, Sem.run_bind, hti, Result.andThen_ok]
   simp only [w1]
   rw [if_neg hcnd]
   by_cases h0 : n * 1 = 0
   ·have hm0 : n = 0 := by omega
    subst hm0
    simp only [Sem.run_bind, run_askRoom, aX hs, Result.andThen_ok, Int.toNat_natCast, Nat.zero_mul, if_true, Sem.run_pure, show Array.range 0 = #[] from rfl, Array.map_empty, newRow, run_newObj, List.replicate]
   ·simp only [Sem.run_bind, run_askRoom, aX hs, Result.andThen_ok, Int.toNat_natCast, h0, if_false, hzr, Sem.run_pure, hzc', hrep, newRow, run_newObj]
 intro hc
 refine ⟨H, [], O, fun v H' O' => H' = H ∧ ∃ A, O' = A ∧ OSl elem 1 v (List.replicate n [z]) A, Ghost.refl _ _, ?_, ?_⟩
 ·intro w F hm
  have hp := hm.push (.cells (List.replicate n z).toArray elem (0, 0))
  refine ⟨_, _, H, [(w.heap.size, .cells (List.replicate n z).toArray elem (0, 0))], hrun w, ⟨rfl, _, rfl, .inr ⟨w.heap.size, List.replicate n z, n, ?_, rfl, ?_, ?_, ?_, ?_, ?_, ?_⟩⟩, Heap.le_refl H, ?_⟩
  ·rw [List.length_replicate]
  ·rw [List.length_replicate, Nat.mul_one]
  ·rw [List.length_replicate]; exact Nat.le_refl _
  ·omega
  ·intro row hr; rw [List.eq_of_mem_replicate hr]; rfl
  ·intro row hr; rw [List.eq_of_mem_replicate hr]; exact ⟨hzo, trivial⟩
  ·rw [List.length_replicate, Nat.mul_one, List.take_of_length_le (by simp)]
   exact ED z n
  ·simpa using hp
 ·rintro v H' O' ⟨rfl, A, rfl, h⟩ _
  exact ⟨[v], [], O', rfl, ⟨h.one, trivial⟩, trivial, rfl, hk v O' h⟩
theorem xy {P : Program} {t t2 ty e : TypeId} {i : TypeInfo} (ht : P.underlying t = some (.slice e)) (hi : P.info? e = some i) {H : Heap} {O O2 : Own} {r off dLen dCap m k : Nat} {cs src : List Value} {x : Value} {K : List Value → List (List Value) → Heap → Own → Prop}
  (hO : O.Perm ([(r, .cells cs.toArray e (0, 0))] ++ O2)) (hl : ∀ w' : World, (Builtin.lenOf x).run P w' = .ok m w') (hk : k = min m dLen)
  (hcells : ∀ w F, Models w H ([(r, .cells cs.toArray e (0, 0))] ++ F) → (Builtin.firstCells i.size k x).run P w = .ok src.toArray w) (hfit : off + src.length ≤ cs.length) (h1 : ∀ v ∈ src, v.oneCell' = true)
  (hK : K [iV (k : Int)] [] H ([(r, .cells (cs.take off ++ src ++ cs.drop (off + src.length)).toArray e (0, 0))] ++ O2)) :
  dG (fun H1 O1 R => bC P ((PrimOp.bi .copy #[t, t2] ty).sem [.slice (some ⟨r, off, none⟩) dLen dCap, x]) H1 O1 R) false [] [] .one K H O := by
 refine E5 (r := r) (cs := cs) (e := e) (O2 := O2) (cs' := cs.take off ++ src ++ cs.drop (off + src.length)) hO (v := iV (k : Int)) (fun w F hm => ?_) rfl ⟨rfl, trivial⟩ hK
 have hrow := (hm.own (r, .cells cs.toArray e (0, 0)) (by simp)).1
 have := vX (P := P) (t := t) (t2 := t2) (ty := ty) ht hi (w := w) (off := off) (dLen := dLen) (dCap := dCap) hrow hl hk (hcells w F hm) hfit h1
 simp only [PrimOp.sem, builtin]
 rw [Sem.run_bind, this]
 rfl
theorem xf {P : Program} {w : World} {H : Heap} {r : Nat} {cs : List Value} {e : TypeId} {F : Own} (hm : Models w H ([(r, .cells cs.toArray e (0, 0))] ++ F)) {size k off n cap : Nat} (hfit : off + k * size ≤ cs.length) :
  (Builtin.firstCells size k (.slice (some ⟨r, off, none⟩) n cap)).run P w = .ok ((cs.drop off).take (k * size)).toArray w := by
 refine run_firstCells_some w size k ⟨r, off, none⟩ n cap _ (by rw [List.length_take, List.length_drop]; omega) fun j u hj => ?_
 rw [bY]
 rw [List.getElem?_take] at hj
 split at hj
 ·rw [List.getElem?_drop] at hj
  exact J0 hm hj
 ·cases hj
theorem BU {P : Program} {w : World} {H : Heap} {O : Own} (hm : Models w H O) {r : Nat} {cs : List Value} {e : TypeId} (hr : H r = some (.cells cs.toArray e (0, 0))) {size k n cap : Nat} (hfit : k * size ≤ cs.length) :
  (Builtin.firstCells size k (.slice (some ⟨r, 0, none⟩) n cap)).run P w = .ok (cs.take (k * size)).toArray w := by
 refine run_firstCells_some w size k ⟨r, 0, none⟩ n cap _ (by rw [List.length_take]; omega) fun j u hj => ?_
 rw [bY, Nat.zero_add]
 rw [List.getElem?_take] at hj
 split at hj
 ·have := hm.pers r _ hr
  simp [World.cell?, this, hj]
 ·cases hj
theorem Nw {P : Program} {f : FuncId} {args : List Value} {fn : Func} {e : Array Value → Sem Value} {v : Value} (hf : P.funcs[f]? = some fn) (hn : (fn.name == "runtime.NumGoroutine") = false) (hb : fn.body.isNone = true)
  (h1 : Extern.findNext fn = none) (h2 : Extern.find fn = some e) {w : World} (hr : (e args.toArray).run P w = .ok v w) : ((PrimOp.intr f).sem args).run P w = .ok (.value v) w := by
 simp only [PrimOp.sem, callFunc, Sem.run_bind, run_program, Result.andThen_ok, hf, hn, hb, h1, h2, if_true, Bool.false_eq_true, if_false]
 simp [hr]
theorem Gw {P : Program} {f : FuncId} {fn : Func} {tS tR e : TypeId} {size : Nat} (hf : P.funcs[f]? = some fn) (hn : (fn.name == "runtime.NumGoroutine") = false) (hb : fn.body.isNone = true)
  (h1 : Extern.findNext fn = none) (h2 : Extern.find fn = some (Extern.SlicesOverlaps.overlaps #[tS, tS] #[tR])) (ht : P.underlying tS = some (.slice e)) (hsz : kp P e = some size)
  {H : Heap} {O O2 : Own} {r rb off la ca lb cb : Nat} {cs bs : List Value} {K : List Value → List (List Value) → Heap → Own → Prop} (hO : O.Perm ([(r, .cells cs.toArray e (0, 0))] ++ O2)) (hrb : H rb = some (.cells bs.toArray e (0, 0))) (hcs : cs.length ≠ 0)
  (hK : K [.bool false] [] H ([(r, .cells cs.toArray e (0, 0))] ++ O2)) :
  dG (fun H1 O1 R => bC P ((PrimOp.intr f).sem [.slice (some ⟨rb, 0, none⟩) la ca, .slice (some ⟨r, off, none⟩) lb cb]) H1 O1 R) false [] [] .one K H O := by
 refine E5 (r := r) (cs := cs) (e := e) (O2 := O2) (cs' := cs) hO (v := .bool false) (fun w F hm => ?_) rfl ⟨rfl, trivial⟩ hK
 obtain ⟨hrow, hno⟩ := hm.own (r, .cells cs.toArray e (0, 0)) (by simp)
 have hw := hm.pers rb _ hrb
 have hne : rb ≠ r := by rintro rfl; simp only [] at hno; rw [hno] at hrb; cases hrb
 rw [setRow_self w r cs.toArray e (0, 0) hrow]
 refine Nw hf hn hb h1 h2 ?_
 have := Go.Lib.run_overlaps_apart (P := P) w tS tR e ht size (fun w => aX hsz w) ⟨rb, 0, none⟩ ⟨r, off, none⟩ la ca lb cb hne e e bs.length cs.length
 refine this ?_ ?_ hcs ?_ ?_
 ·simp [World.shape?, hw]
 ·simp only [] at hrow; simp [World.shape?, hrow]
 ·simp [World.frozen?, hw]
 ·simp [World.frozen?, hw]
end Go.Sx
namespace Go.Sx
open Go
structure Cd where
 kind : Int
 tg : List Int
 tr : List Nat
def EffsS (H : Heap) (v : Value) (tg : List Int) : Prop := ∃ rows, Sl H 5 v rows ∧ rows.length = tg.length ∧ ∀ (i : Nat) (r : List Value) (t : Int), rows[i]? = some r → tg[i]? = some t → g r 1 = iV t
def TrigR (H : Heap) (r : List Value) (n : Nat) : Prop := ∃ erows, Sl H 5 (g r 1) erows ∧ erows.length = n
def TrigsS (H : Heap) (v : Value) (tr : List Nat) : Prop := ∃ rows, Sl H 2 v rows ∧ rows.length = tr.length ∧ ∀ (i : Nat) (r : List Value) (n : Nat), rows[i]? = some r → tr[i]? = some n → TrigR H r n
structure CdR (H : Heap) (r : List Value) (c : Cd) : Prop where
 kind : g r 1 = iV c.kind
 eff : EffsS H (g r 11) c.tg
 trig : TrigsS H (g r 12) c.tr
def CardsS (H : Heap) (v : Value) (cs : List Cd) : Prop := ∃ rows, Sl H 14 v rows ∧ rows.length = cs.length ∧ ∀ (i : Nat) (r : List Value) (c : Cd), rows[i]? = some r → cs[i]? = some c → CdR H r c
theorem EffsS.le {H H' : Heap} {v : Value} {l : List Int} (h : EffsS H v l) (hl : Heap.le H H') : EffsS H' v l := let ⟨rows, h1, h2, h3⟩ := h; ⟨rows, h1.le hl, h2, h3⟩
theorem TrigR.le {H H' : Heap} {r : List Value} {n : Nat} (h : TrigR H r n) (hl : Heap.le H H') : TrigR H' r n := let ⟨rows, h1, h2⟩ := h; ⟨rows, h1.le hl, h2⟩
theorem TrigsS.le {H H' : Heap} {v : Value} {l : List Nat} (h : TrigsS H v l) (hl : Heap.le H H') : TrigsS H' v l := let ⟨rows, h1, h2, h3⟩ := h; ⟨rows, h1.le hl, h2, fun i r n a b => (h3 i r n a b).le hl⟩
theorem CdR.le {H H' : Heap} {r : List Value} {c : Cd} (h : CdR H r c) (hl : Heap.le H H') : CdR H' r c := ⟨h.kind, h.eff.le hl, h.trig.le hl⟩
theorem CardsS.le {H H' : Heap} {v : Value} {cs : List Cd} (h : CardsS H v cs) (hl : Heap.le H H') : CardsS H' v cs := let ⟨rows, h1, h2, h3⟩ := h; ⟨rows, h1.le hl, h2, fun i r c a b => (h3 i r c a b).le hl⟩
def wU (cs : List Cd) : List Int := cs.map (·.kind)
theorem CardsS.kinds {H : Heap} {v : Value} {cs : List Cd} (h : CardsS H v cs) : KindS H v (wU cs) := by
 obtain ⟨rows, h1, h2, h3⟩ := h
 refine ⟨rows, h1, by simp [wU, h2], fun i r k a b => ?_⟩
 rw [wU, List.getElem?_map] at b
 cases hc : cs[i]? with
 | none => rw [hc] at b; cases b
 | some c =>
  rw [hc] at b
  obtain rfl : c.kind = k := by simpa using b
  exact (h3 i r c a hc).kind
theorem CardsS.one {H : Heap} {v : Value} {cs : List Cd} (h : CardsS H v cs) : v.oneCell' = true := let ⟨_, h1, _⟩ := h; h1.one
theorem CardsS.len {H : Heap} {v : Value} {cs : List Cd} (h : CardsS H v cs) : aj .len [v] = some (iV cs.length) := by
 obtain ⟨rows, h1, h2, _⟩ := h
 have := h1.len; rwa [h2] at this
theorem EffsS.one {H : Heap} {v : Value} {l : List Int} (h : EffsS H v l) : v.oneCell' = true := let ⟨_, h1, _⟩ := h; h1.one
theorem EffsS.len {H : Heap} {v : Value} {l : List Int} (h : EffsS H v l) : aj .len [v] = some (iV l.length) := by
 obtain ⟨rows, h1, h2, _⟩ := h
 have := h1.len; rwa [h2] at this
theorem TrigsS.one {H : Heap} {v : Value} {l : List Nat} (h : TrigsS H v l) : v.oneCell' = true := let ⟨_, h1, _⟩ := h; h1.one
theorem TrigsS.len {H : Heap} {v : Value} {l : List Nat} (h : TrigsS H v l) : aj .len [v] = some (iV l.length) := by
 obtain ⟨rows, h1, h2, _⟩ := h
 have := h1.len; rwa [h2] at this
theorem EffsS.nil (H : Heap) : EffsS H (.slice none 0 0) [] := ⟨[], Sl.nil H 5, rfl, fun i r t h => by simp at h⟩
theorem TrigsS.nil (H : Heap) : TrigsS H (.slice none 0 0) [] := ⟨[], Sl.nil H 2, rfl, fun i r t h => by simp at h⟩
def zCd : Cd := ⟨0, [], []⟩
def B9 (cs : List Cd) (c : Int) : Cd := if c < 0 ∨ c ≥ (cs.length : Int) then zCd else cs.getD c.toNat zCd
def mF (c : Cd) : Bool := !(decide ((c.tg.length : Int) > 5) || decide ((c.tr.length : Int) > 3)) && c.tr.all fun n => !decide ((n : Int) > 5)
def fu (cs : List Cd) : Bool := (cs.take 13).all mF && decide ((cs.length : Int) ≤ 12)
theorem vz {cs : List Cd} (h : fu cs = true) (c : Int) : mF (B9 cs c) = true := by
 rw [fu, Bool.and_eq_true, decide_eq_true_eq] at h
 obtain ⟨h1, h2⟩ := h
 rw [B9]
 split
 ·rfl
 ·rename_i hn
  rw [List.take_of_length_le (by omega), List.all_eq_true] at h1
  refine h1 _ ?_
  have hlt : c.toNat < cs.length := by omega
  rw [List.getD_eq_getElem?_getD, List.getElem?_eq_getElem hlt]
  exact List.getElem_mem hlt
def fS (tg : List Int) : List Int := tg.filter fun t => t != 0
end Go.Sx
