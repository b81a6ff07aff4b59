/- Which boards are valid: what the program says. -/
import Derived.Test.YtieaihgbjikggaaGreatC1
import Derived.Test.YtieaihgbjikggaaGreatFw3
import Derived.Test.YtieaihgbjikggaaGreatFw3
import Derived.Test.YtieaihgbjikggaaGreatFw3
import Derived.Lib.Overlaps
import Derived.Lib.AppendZerosOnto
namespace Go.Proofs.YtieaihgbjikggaaGreat
open Go Go.Sx
set_option maxRecDepth 100000
set_option maxHeartbeats 1000000
theorem nodup_le {α : Type} [DecidableEq α] : ∀ {l r : List α}, l.Nodup → (∀ x ∈ l, x ∈ r) → l.length ≤ r.length
 | [], _, _, _ => Nat.zero_le _
 | a :: l, r, hn, hs => by
  rw [List.nodup_cons] at hn
  have har : a ∈ r := hs a (by simp)
  have h1 := nodup_le (r := r.erase a) hn.2 fun x hx => by
   have : x ≠ a := fun e => hn.1 (e ▸ hx)
   exact (List.mem_erase_of_ne this).2 (hs x (by simp [hx]))
  rw [List.length_erase_of_mem har] at h1
  have := List.length_pos_of_mem har
  simp only [List.length_cons]; omega
theorem nodup_back {α : Type} [DecidableEq α] {l r : List α} (hn : l.Nodup) (hs : ∀ x ∈ l, x ∈ r) (hl : r.length ≤ l.length) : ∀ x ∈ r, x ∈ l := by
 intro x hx
 rcases Classical.em (x ∈ l) with h | h
 ·exact h
 ·have := nodup_le (l := x :: l) (r := r) (List.nodup_cons.2 ⟨h, hn⟩) (fun y hy => by
   rcases List.mem_cons.1 hy with rfl | hy
   ·exact hx
   ·exact hs y hy)
  simp only [List.length_cons] at this; omega
theorem objs_spec {val : Ob → Bool} {ps cs : List (Int × Int)} : ∀ {l : List Ob} {prev : Option Int}, objsGo val ps cs prev l = true →
  (∀ o ∈ l, val o = true ∧ (lookI ps o.id).isSome = true ∧ ∀ p, prev = some p → p < o.id) ∧ (l.map (·.id)).Nodup
 | [], _, _ => ⟨by simp, by simp⟩
 | o :: r, prev, h => by
  simp only [objsGo, objBad, Bool.and_eq_true, Bool.not_eq_true', Bool.or_eq_false_iff, Bool.not_eq_false'] at h
  obtain ⟨⟨⟨⟨⟨h1, h2⟩, h3⟩, _⟩, _⟩, h6⟩ := h
  obtain ⟨k1, k2⟩ := objs_spec h6
  have hp : ∀ p, prev = some p → p < o.id := by
   rintro p rfl
   simp only [prevBad, decide_eq_false_iff_not] at h2
   omega
  refine ⟨?_, ?_⟩
  ·intro x hx
   rcases List.mem_cons.1 hx with rfl | hx
   ·refine ⟨h1, ?_, hp⟩
    cases hl : lookI ps x.id with
    | none => rw [hl] at h3; cases h3
    | some v => rfl
   ·obtain ⟨a1, a2, a3⟩ := k1 x hx
    exact ⟨a1, a2, fun p e => by have := a3 _ rfl; have := hp p e; omega⟩
  ·rw [List.map_cons, List.nodup_cons]
   refine ⟨?_, k2⟩
   intro hm
   obtain ⟨x, hx, e⟩ := List.mem_map.1 hm
   have := (k1 x hx).2.2 _ rfl
   omega
/-- The pairs' numbers are those of the objects. -/
theorem placed_ids {val : Ob → Bool} {b : Bd} (h : placedB val b = true) : ∀ x ∈ (pairsB b).map (·.1), ∃ o ∈ b.objs, o.id = x ∧ val o = true := by
 simp only [placedB, Bool.and_eq_true, decide_eq_true_eq] at h
 obtain ⟨_, h2, h3⟩ := h
 obtain ⟨k1, k2⟩ := objs_spec h2
 intro x hx
 have := nodup_back (l := b.objs.map (·.id)) (r := (pairsB b).map (·.1)) k2 (fun y hy => by
  obtain ⟨o, ho, rfl⟩ := List.mem_map.1 hy
  have := (k1 o ho).2.1
  rcases Classical.em (o.id ∈ (pairsB b).map (·.1)) with h | h
  ·exact h
  ·rw [lookI_none.2 h] at this; cases this) (by simp [h3]) x hx
 obtain ⟨o, ho, rfl⟩ := List.mem_map.1 this
 exact ⟨o, ho, rfl, (k1 o ho).1⟩
theorem validO_id {o : Ob} (h : validO o = true) : 1 ≤ o.id ∧ o.id ≤ 500 := by
 simp only [validO, Bool.and_eq_true, decide_eq_true_eq] at h
 exact ⟨h.1.2.1.1.1.2, h.1.2.1.1.2⟩
theorem placed_pos {b : Bd} (h : placedB validO b = true) : ∀ x, x ∈ b.s0.field ∨ x ∈ b.s1.field → 0 < x ∧ x ≤ 500 := by
 intro x hx
 obtain ⟨o, _, rfl, ho⟩ := placed_ids h x (by
  simp only [pairsB, pairsS, List.map_append, List.map_map, List.mem_append, List.mem_map, Function.comp]
  rcases hx with hx | hx
  ·left; right; right; left; exact ⟨x, hx, rfl⟩
  ·right; left; right; right; left; exact ⟨x, hx, rfl⟩)
 have := validO_id ho
 omega
def fightsBd (b : Bd) : Bool := if b.active = 0 then fightsB b.s0.field b.s1.field b.att b.blocks else fightsB b.s1.field b.s0.field b.att b.blocks
theorem c_fights {H : Heap} {O : Own} {v : BV12} {b : Bd} (h : BdR H O v b) (ha : b.active = 0 ∨ b.active = 1) (hp : ∀ x, x ∈ b.s0.field ∨ x ∈ b.s1.field → 0 < x ∧ x ≤ 500) :
  RetO PP F_board_fights [.agg (boardC v b).toArray] H O (.bool (fightsBd b)) := by
 refine run_board_fights (vs := boardC v b) (by kernel_rfl) (boardC_ones h) ?_
 simp only [T_board_fights]
 refine newbox_den fun r0 => chkN_den ?_
 have e34 : g (boardC v b) 34 = iV b.active := rfl
 rw [e34]
 have hs : ∀ n : Int, n = 0 ∨ n = 1 → evalPure (.bin .sub .int) [iV 1, iV n] = some (iV (1 - n)) := by
  rintro n (rfl | rfl) <;> rfl
 rcases ha with ha | ha
 ·rw [ha]
  refine ⟨.i64, 0, rfl, fun _ => chkN_den (chkN_den (pure_den _ (hs 0 (.inl rfl)) ⟨.i64, 1, rfl, fun e => absurd e (by omega), fun _ => ⟨.i64, 1, rfl, fun _ => ?_, fun e => absurd rfl e⟩⟩)), fun e => absurd rfl e⟩
  refine chkN_den ?_
  refine fights_den h.s0.field h.s1.field h.att h.blocks (fun x hx => (hp x (.inl hx)).1) (fun x hx => hp x (.inr hx)) ?_ ?_ ?_
  ·intros; simp [Eqs]
  ·intros; simp [Eqs]
  ·exact fun H' _ => ⟨by simp [fightsBd, ha], rfl⟩
 ·rw [ha]
  refine ⟨.i64, 1, rfl, fun e => absurd e (by omega), fun _ => ⟨.i64, 1, rfl, fun _ => chkN_den (chkN_den (pure_den _ (hs 1 (.inr rfl)) ⟨.i64, 0, rfl, fun _ => ?_, fun e => absurd rfl e⟩)), fun e => absurd rfl e⟩⟩
  refine chkN_den ?_
  refine fights_den h.s1.field h.s0.field h.att h.blocks (fun x hx => (hp x (.inr hx)).1) (fun x hx => hp x (.inl hx)) ?_ ?_ ?_
  ·intros; simp [Eqs]
  ·intros; simp [Eqs]
  ·exact fun H' _ => ⟨by simp [fightsBd, ha], rfl⟩
theorem notT {b : Bool} (h : (!b) = true) : b = false := by simpa using h
theorem notF {b : Bool} (h : (!b) = false) : b = true := by simpa using h
/-- Is a seat valid? -/
def seatOkB (s : St) : Bool := withinB s.life 0 9999 && (([s.p0, s.p1, s.p2, s.p3].all fun n => withinB n 0 99) && (withinB s.mull 0 7 && withinB s.acts 0 255))
def midBad (b : Bd) : Bool := ((!withinB b.passes 0 2 || decide ((b.objs.length : Int) > 500)) || decide ((b.stack.length : Int) > 200)) || decide ((b.queue.length : Int) > 200)
/-- Is a board valid? -/
def validBd (b : Bd) : Bool := withinB b.active 0 1 && (withinB b.turn 0 1000 && (withinB b.phase 0 10 && (withinB b.holder (-1) 1 && (!midBad b && (seatOkB b.s0 && (seatOkB b.s1 &&
 (!(b.stack.any fun x => !fineB x false) && (!(b.queue.any fun x => !fineB x true) && (placedB validO b && fightsBd b)))))))))
theorem c_board_Valid {H : Heap} {O : Own} {v : BV12} {b : Bd} (h : BdR H O v b) : RetO PP F_board_Valid [.agg (boardC v b).toArray] H O (.bool (validBd b)) := by
 refine run_board_Valid (vs := boardC v b) (by kernel_rfl) (boardC_ones h) ?_
 simp only [T_board_Valid]
 refine newbox_den fun r0 => ?_
 refine chkN_den (call_retO (c_within b.active 0 1 H O) rfl ⟨rfl, trivial⟩ fun H1 l1 => pure_den _ (not_eq' _) (br_den (fun hb => ret_denO ⟨?_, rfl⟩) (fun hb => ?_)))
 ·have kf : withinB b.active 0 1 = false := notT hb
  simp only [validBd, kf, Bool.true_and, Bool.false_and, Bool.and_false]
 have k1 : withinB b.active 0 1 = true := notF hb
 replace h := h.le l1
 clear hb
 refine chkN_den (call_retO (c_within b.turn 0 1000 H1 O) rfl ⟨rfl, trivial⟩ fun H2 l2 => pure_den _ (not_eq' _) (br_den (fun hb => ret_denO ⟨?_, rfl⟩) (fun hb => ?_)))
 ·have kf : withinB b.turn 0 1000 = false := notT hb
  simp only [validBd, k1, kf, Bool.true_and, Bool.false_and, Bool.and_false]
 have k2 : withinB b.turn 0 1000 = true := notF hb
 replace h := h.le l2
 clear hb
 refine chkN_den (call_retO (c_within b.phase 0 10 H2 O) rfl ⟨rfl, trivial⟩ fun H3 l3 => pure_den _ (not_eq' _) (br_den (fun hb => ret_denO ⟨?_, rfl⟩) (fun hb => ?_)))
 ·have kf : withinB b.phase 0 10 = false := notT hb
  simp only [validBd, k1, k2, kf, Bool.true_and, Bool.false_and, Bool.and_false]
 have k3 : withinB b.phase 0 10 = true := notF hb
 replace h := h.le l3
 clear hb
 refine chkN_den (call_retO (c_within b.holder (-1) 1 H3 O) rfl ⟨rfl, trivial⟩ fun H4 l4 => pure_den _ (not_eq' _) (br_den (fun hb => ret_denO ⟨?_, rfl⟩) (fun hb => ?_)))
 ·have kf : withinB b.holder (-1) 1 = false := notT hb
  simp only [validBd, k1, k2, k3, kf, Bool.true_and, Bool.false_and, Bool.and_false]
 have k4 : withinB b.holder (-1) 1 = true := notF hb
 replace h := h.le l4
 clear hb
 refine chkN_den (call_retO (c_within b.passes 0 2 H4 O) rfl ⟨rfl, trivial⟩ fun H5 l5 => pure_den _ (not_eq' _) ?_)
 replace h := h.le l5
 have lo := h.objs.len
 rw [List.length_map] at lo
 repeat (first | refine chkN_den ?_ | refine chkV_den ?_)
 refine pure_den _ (lo) (chkV_den (pure_den _ (gtr_eq _ _) (chkV_den (pure_den _ (pick_or _ _) ?_))))
 repeat (first | refine chkN_den ?_ | refine chkV_den ?_)
 refine pure_den _ (ItsR.len h.stack) (chkV_den (pure_den _ (gtr_eq _ _) (chkV_den (pure_den _ (pick_or _ _) ?_))))
 repeat (first | refine chkN_den ?_ | refine chkV_den ?_)
 refine pure_den _ (ItsR.len h.queue) (chkV_den (pure_den _ (gtr_eq _ _) (chkV_den (pure_den _ (pick_or _ _) ?_))))
 refine br_den (fun hb => ret_denO ⟨?_, rfl⟩) (fun hb => ?_)
 ·have kf : midBad b = true := hb
  simp only [validBd, k1, k2, k3, k4, kf, Bool.true_and, Bool.not_true, Bool.false_and]
 have kmid : midBad b = false := hb
 clear hb
 refine chkN_den (newbox_den fun r1 => chkN_den ?_)
 refine chkN_den (call_retO (c_within b.s0.life 0 9999 H5 O) rfl ⟨rfl, trivial⟩ fun H6 l6 => pure_den _ (not_eq' _) (br_den (fun hb => ret_denO ⟨?_, rfl⟩) (fun hb => ?_)))
 ·have kf : withinB b.s0.life 0 9999 = false := notT hb
  simp only [validBd, seatOkB, k1, k2, k3, k4, kmid, kf, Bool.true_and, Bool.false_and, Bool.and_false, Bool.not_false]
 have k6 : withinB b.s0.life 0 9999 = true := notF hb
 replace h := h.le l6
 clear hb
 refine chkN_den (call_retO (c_mana_Valid b.s0.p0 b.s0.p1 b.s0.p2 b.s0.p3 H6 O) rfl ⟨rfl, trivial⟩ fun H7 l7 => pure_den _ (not_eq' _) (br_den (fun hb => ret_denO ⟨?_, rfl⟩) (fun hb => ?_)))
 ·have kf : ([b.s0.p0, b.s0.p1, b.s0.p2, b.s0.p3].all fun n => withinB n 0 99) = false := notT hb
  simp only [validBd, seatOkB, k1, k2, k3, k4, kmid, k6, kf, Bool.true_and, Bool.false_and, Bool.and_false, Bool.not_false]
 have k7 : ([b.s0.p0, b.s0.p1, b.s0.p2, b.s0.p3].all fun n => withinB n 0 99) = true := notF hb
 replace h := h.le l7
 clear hb
 refine chkN_den (call_retO (c_within b.s0.mull 0 7 H7 O) rfl ⟨rfl, trivial⟩ fun H8 l8 => pure_den _ (not_eq' _) (br_den (fun hb => ret_denO ⟨?_, rfl⟩) (fun hb => ?_)))
 ·have kf : withinB b.s0.mull 0 7 = false := notT hb
  simp only [validBd, seatOkB, k1, k2, k3, k4, kmid, k6, k7, kf, Bool.true_and, Bool.false_and, Bool.and_false, Bool.not_false]
 have k8 : withinB b.s0.mull 0 7 = true := notF hb
 replace h := h.le l8
 clear hb
 refine chkN_den (call_retO (c_within b.s0.acts 0 255 H8 O) rfl ⟨rfl, trivial⟩ fun H9 l9 => pure_den _ (not_eq' _) (br_den (fun hb => ret_denO ⟨?_, rfl⟩) (fun hb => ?_)))
 ·have kf : withinB b.s0.acts 0 255 = false := notT hb
  simp only [validBd, seatOkB, k1, k2, k3, k4, kmid, k6, k7, k8, kf, Bool.true_and, Bool.false_and, Bool.and_false, Bool.not_false]
 have k9 : withinB b.s0.acts 0 255 = true := notF hb
 replace h := h.le l9
 clear hb
 refine newbox_den fun r2 => chkN_den ?_
 refine chkN_den (call_retO (c_within b.s1.life 0 9999 H9 O) rfl ⟨rfl, trivial⟩ fun H10 l10 => pure_den _ (not_eq' _) (br_den (fun hb => ret_denO ⟨?_, rfl⟩) (fun hb => ?_)))
 ·have kf : withinB b.s1.life 0 9999 = false := notT hb
  simp only [validBd, seatOkB, k1, k2, k3, k4, kmid, k6, k7, k8, k9, kf, Bool.true_and, Bool.false_and, Bool.and_false, Bool.not_false]
 have k10 : withinB b.s1.life 0 9999 = true := notF hb
 replace h := h.le l10
 clear hb
 refine chkN_den (call_retO (c_mana_Valid b.s1.p0 b.s1.p1 b.s1.p2 b.s1.p3 H10 O) rfl ⟨rfl, trivial⟩ fun H11 l11 => pure_den _ (not_eq' _) (br_den (fun hb => ret_denO ⟨?_, rfl⟩) (fun hb => ?_)))
 ·have kf : ([b.s1.p0, b.s1.p1, b.s1.p2, b.s1.p3].all fun n => withinB n 0 99) = false := notT hb
  simp only [validBd, seatOkB, k1, k2, k3, k4, kmid, k6, k7, k8, k9, k10, kf, Bool.true_and, Bool.false_and, Bool.and_false, Bool.not_false]
 have k11 : ([b.s1.p0, b.s1.p1, b.s1.p2, b.s1.p3].all fun n => withinB n 0 99) = true := notF hb
 replace h := h.le l11
 clear hb
 refine chkN_den (call_retO (c_within b.s1.mull 0 7 H11 O) rfl ⟨rfl, trivial⟩ fun H12 l12 => pure_den _ (not_eq' _) (br_den (fun hb => ret_denO ⟨?_, rfl⟩) (fun hb => ?_)))
 ·have kf : withinB b.s1.mull 0 7 = false := notT hb
  simp only [validBd, seatOkB, k1, k2, k3, k4, kmid, k6, k7, k8, k9, k10, k11, kf, Bool.true_and, Bool.false_and, Bool.and_false, Bool.not_false]
 have k12 : withinB b.s1.mull 0 7 = true := notF hb
 replace h := h.le l12
 clear hb
 refine chkN_den (call_retO (c_within b.s1.acts 0 255 H12 O) rfl ⟨rfl, trivial⟩ fun H13 l13 => pure_den _ (not_eq' _) (br_den (fun hb => ret_denO ⟨?_, rfl⟩) (fun hb => ?_)))
 ·have kf : withinB b.s1.acts 0 255 = false := notT hb
  simp only [validBd, seatOkB, k1, k2, k3, k4, kmid, k6, k7, k8, k9, k10, k11, k12, kf, Bool.true_and, Bool.false_and, Bool.and_false, Bool.not_false]
 have k13 : withinB b.s1.acts 0 255 = true := notF hb
 replace h := h.le l13
 clear hb
 refine chkN_den (call_retO (c_ContainsFunc_Item (p := fun x => !fineB x false) h.stack rfl (okFn_of okL_ok (by decide)) fun H' _ row x hx => c_Valid_1 hx) rfl ⟨rfl, trivial⟩ fun H20 l20 => br_den (fun hb => ret_denO ⟨?_, rfl⟩) (fun hb => ?_))
 ·simp only [validBd, seatOkB, k1, k2, k3, k4, kmid, k6, k7, k8, k9, k10, k11, k12, k13, hb, Bool.true_and, Bool.not_true, Bool.not_false, Bool.false_and]
 replace h := h.le l20
 refine chkN_den (call_retO (c_ContainsFunc_Item (p := fun x => !fineB x true) h.queue rfl (okFn_of okL_ok (by decide)) fun H' _ row x hx => c_Valid_2 hx) rfl ⟨rfl, trivial⟩ fun H21 l21 => pure_den _ (not_eq' _) (br_den (fun hq => ?_) (fun hq => ret_denO ⟨?_, rfl⟩)))
 ·replace h := h.le l21
  simp only [Bool.not_eq_true'] at hq
  have hfin : validBd b = (placedB validO b && fightsBd b) := by simp only [validBd, seatOkB, k1, k2, k3, k4, kmid, k6, k7, k8, k9, k10, k11, k12, k13, hb, hq, Bool.true_and, Bool.not_false]
  refine chkN_den (call_retO (c_placed h) rfl ⟨rfl, trivial⟩ fun H22 l22 => br_den (fun hp => ?_) (fun hp => ret_denO ⟨?_, rfl⟩))
  ·replace h := h.le l22
   have ha : b.active = 0 ∨ b.active = 1 := by have := k1; simp only [withinB, decide_eq_true_eq] at this; omega
   refine chkN_den (call_retO (c_fights h ha (placed_pos hp)) rfl ⟨rfl, trivial⟩ fun H23 l23 => ret_denO ⟨?_, rfl⟩)
   rw [hfin, hp, Bool.true_and]; rfl
  ·rw [hfin, hp]; rfl
 ·simp only [Bool.not_eq_false'] at hq
  simp only [validBd, seatOkB, k1, k2, k3, k4, kmid, k6, k7, k8, k9, k10, k11, k12, k13, hb, hq, Bool.true_and, Bool.not_false, Bool.not_true, Bool.false_and]
end Go.Proofs.YtieaihgbjikggaaGreat
namespace Go.Proofs.YtieaihgbjikggaaGreat
open Go Go.Sx
set_option maxRecDepth 100000
set_option maxHeartbeats 1000000
theorem validO_iff (o : Ob) : validO o = true ↔ ((0 ≤ o.power ∧ o.power ≤ 99) ∧ (0 ≤ o.tough ∧ o.tough ≤ 99) ∧ (0 ≤ o.dmg ∧ o.dmg ≤ 99) ∧ (0 ≤ o.cnt ∧ o.cnt ≤ 99) ∧ (0 ≤ o.pp ∧ o.pp ≤ 99) ∧ (0 ≤ o.pt ∧ o.pt ≤ 99)) ∧
  (o.card = -1 ∨ (o.power = 0 ∧ o.tough = 0)) ∧ 1 ≤ o.id ∧ o.id ≤ 500 ∧ -1 ≤ o.card ∧ o.card < 400 ∧ (o.owner = 0 ∨ o.owner = 1) := by
 simp only [validO, withinB, List.all_cons, List.all_nil, Bool.and_true, Bool.and_eq_true, Bool.or_eq_true, decide_eq_true_eq, beq_iff_eq, ge_iff_le]
 omega
end Go.Proofs.YtieaihgbjikggaaGreat
namespace Go.Proofs.YtieaihgbjikggaaGreat
open Go Go.Sx
set_option maxRecDepth 100000
set_option maxHeartbeats 1000000
/-- A loop whose second number counts up to n, beside another value. -/
abbrev IY (n : Nat) (R : Nat → Value → Heap → Own → Prop) : List Value → Heap → Own → Prop := fun vs H O => ∃ (i : Nat) (x : Value), vs = [x, iV i] ∧ i ≤ n ∧ R i x H O
abbrev MY (n : Nat) : List Value → Heap → Own → Nat := fun vs _ _ => match g vs 1 with | .int _ k => n - k.toNat | _ => 0
theorem countY_den {P : Program} {lab key : Nat} {x0 : Value} {body : (List Value → Heap → Own → Prop) → List Value → Tree} {H : Heap} {O : Own} {Q : Value → Heap → Own → Prop} (n : Nat) (R : Nat → Value → Heap → Own → Prop)
  (h0 : R 0 x0 H O) (step : ∀ i x H' O', i ≤ n → Heap.le H H' → R i x H' O' → (body (Back (IY n R) (MY n) (n - i)) [x, iV i]).den P Q H' O') :
  (Tree.loop lab key [x0, .int .i64 0] body).den P Q H O := by
 refine loop_den (IY n R) (MY n) ⟨0, x0, rfl, Nat.zero_le _, h0⟩ ?_
 rintro vs H' O' _ _ hle ⟨i, x, rfl, hi, hr⟩
 exact step i x H' O' hi hle hr
theorem countY_cont {P : Program} {lab n i : Nat} {R : Nat → Value → Heap → Own → Prop} {x : Value} {eqs : List (List Value × List Value)} {H : Heap} {O : Own} {Q : Value → Heap → Own → Prop} (he : Eqs eqs) (hi : i < n) (hr : R (i + 1) x H O) :
  (Tree.cont lab (Back (IY n R) (MY n) (n - i)) [x, iV ((i + 1 : Nat) : Int)] eqs).den P Q H O := by
 refine cont_den he ⟨i + 1, x, rfl, hi, hr⟩ ?_
 show n - ((i + 1 : Nat) : Int).toNat < n - i
 simp; omega
def idxO (b : Bd) (id : Int) : Int := idxP (fun o => o.id == id) b.objs 0
theorem r_Index {H : Heap} {O : Own} {v : BV12} {b : Bd} (h : BdR H O v b) (id : Int) : RetO PP F_zeitnotref15_Index [.agg (boardC v b).toArray, iV id] H O (iV (idxO b id)) := by
 refine run_zeitnotref15_Index (vs := boardC v b ++ [iV id]) (by kernel_rfl) (ones_app (boardC_ones h) ⟨rfl, trivial⟩) ?_
 simp only [T_zeitnotref15_Index]
 have lo := h.objs.len
 have hB := h.objs.lenB
 rw [List.length_map] at lo hB
 refine newbox_den fun r0 => count_den b.objs.length (fun i H' O' => O' = O ∧ Heap.le H H' ∧ idxO b id = idxP (fun o => o.id == id) (b.objs.drop i) i) ⟨rfl, Heap.le_refl H, by simp [idxO]⟩ ?_
 rintro i H' O' hi - ⟨rfl, hle, hor⟩
 refine chkN_den (pure_den _ lo (pure_den _ (lss_eq _ _) (br_den (fun hb => ?_) (fun hb => ?_))))
 ·have hlt : i < b.objs.length := by simpa using hb
  obtain ⟨a, h1, h2, h5, h3, h4⟩ := (h.objs.le hle).idx .i64 i (Ob.row b.objs[i]) (by simp [hlt])
  have hr : Reads H' O' (.pointer (some a)) 1 [iV b.objs[i].id] := by
   have := h5 0 1 (by omega)
   have e : ptrAdd (.pointer (some a)) 0 = .pointer (some a) := by simp [ptrAdd, Addr.add]
   rwa [e] at this
  refine chkN_den (pure_den _ h1 (chkP_den rfl (load_denR hr rfl ⟨rfl, trivial⟩ (pure_den _ (eql_eq _ _) (br_den (fun hb => ?_) (fun hb => ?_))))))
  ·refine ret_denO ⟨?_, rfl⟩
   rw [hor, List.drop_eq_getElem_cons hlt, idxP, if_pos hb]; rfl
  ·refine pure_den _ (add_one (by omega)) (count_cont (by simp [Eqs]) hlt ⟨rfl, hle, ?_⟩)
   rw [hor, List.drop_eq_getElem_cons hlt, idxP, if_neg (by rw [hb]; simp)]; rfl
 ·have hge : b.objs.length ≤ i := by simpa using hb
  refine ret_denO ⟨?_, rfl⟩
  rw [hor, List.drop_of_length_le hge]; rfl
end Go.Proofs.YtieaihgbjikggaaGreat
namespace Go.Proofs.YtieaihgbjikggaaGreat
open Go Go.Sx
set_option maxRecDepth 100000
set_option maxHeartbeats 1000000
end Go.Proofs.YtieaihgbjikggaaGreat
namespace Go.Proofs.YtieaihgbjikggaaGreat
open Go Go.Sx
set_option maxRecDepth 100000
set_option maxHeartbeats 1000000
theorem idxP_spec {α : Type} (p : α → Bool) : ∀ (l : List α) (i : Int), 0 ≤ i → (idxP p l i = -1 ∧ ∀ x ∈ l, p x = false) ∨ ∃ (k : Nat) (x : α), l[k]? = some x ∧ p x = true ∧ idxP p l i = i + k
 | [], i, _ => .inl ⟨rfl, by simp⟩
 | a :: l, i, h => by
  simp only [idxP]
  by_cases hp : p a = true
  ·right; exact ⟨0, a, rfl, hp, by rw [if_pos hp]; simp⟩
  ·rw [if_neg hp]
   rcases idxP_spec p l (i + 1) (by omega) with ⟨h1, h2⟩ | ⟨k, x, h1, h2, h3⟩
   ·left
    refine ⟨h1, fun x hx => ?_⟩
    rcases List.mem_cons.1 hx with rfl | hx
    ·simpa using hp
    ·exact h2 x hx
   ·right; exact ⟨k + 1, x, by simpa using h1, h2, by rw [h3]; omega⟩
theorem validO_owner {o : Ob} (h : validO o = true) : o.owner = 0 ∨ o.owner = 1 := ((validO_iff o).1 h).2.2.2.2.2.2
end Go.Proofs.YtieaihgbjikggaaGreat
namespace Go.Proofs.YtieaihgbjikggaaGreat
open Go Go.Sx
set_option maxRecDepth 100000
set_option maxHeartbeats 1000000
end Go.Proofs.YtieaihgbjikggaaGreat
namespace Go.Proofs.YtieaihgbjikggaaGreat
open Go Go.Sx
set_option maxRecDepth 100000
set_option maxHeartbeats 1000000
end Go.Proofs.YtieaihgbjikggaaGreat
namespace Go.Proofs.YtieaihgbjikggaaGreat
open Go Go.Sx
set_option maxRecDepth 100000
set_option maxHeartbeats 1000000
def ordP : Option Int → List Ob → Bool
 | _, [] => true
 | prev, o :: r => !prevBad prev o.id && ordP (some o.id) r
def ok1 (ps cs : List (Int × Int)) (o : Ob) : Bool := validO o && ((lookI ps o.id).isSome && (((lookI ps o.id).getD 0 == o.owner) && !((lookI cs o.id).isSome && ((lookI cs o.id).getD 0 != o.card))))
theorem objsGo_eq {ps cs : List (Int × Int)} : ∀ (l : List Ob) (prev : Option Int), objsGo validO ps cs prev l = (ordP prev l && l.all (ok1 ps cs))
 | [], _ => rfl
 | o :: r, prev => by
  simp only [objsGo, objBad, ordP, List.all_cons, ok1, objsGo_eq r (some o.id), bne]
  cases validO o <;> cases prevBad prev o.id <;> cases lookI ps o.id <;> cases lookI cs o.id <;> simp [Bool.and_assoc, Bool.and_comm, Bool.and_left_comm]
theorem ordP_spec : ∀ {l : List Ob} {prev : Option Int}, ordP prev l = true → (∀ o ∈ l, ∀ p, prev = some p → p < o.id) ∧ (l.map (·.id)).Nodup
 | [], _, _ => ⟨by simp, by simp⟩
 | o :: r, prev, h => by
  simp only [ordP, Bool.and_eq_true, Bool.not_eq_true'] at h
  obtain ⟨k1, k2⟩ := ordP_spec h.2
  have hp : ∀ p, prev = some p → p < o.id := by
   rintro p rfl
   have := h.1
   simp only [prevBad, decide_eq_false_iff_not] at this
   omega
  refine ⟨fun x hx p e => ?_, ?_⟩
  ·rcases List.mem_cons.1 hx with rfl | hx
   ·exact hp p e
   ·have := k1 x hx _ rfl; have := hp p e; omega
  ·rw [List.map_cons, List.nodup_cons]
   refine ⟨fun hm => ?_, k2⟩
   obtain ⟨x, hx, e⟩ := List.mem_map.1 hm
   have := k1 x hx _ rfl
   omega
end Go.Proofs.YtieaihgbjikggaaGreat
namespace Go.Proofs.YtieaihgbjikggaaGreat
open Go Go.Sx
set_option maxRecDepth 100000
set_option maxHeartbeats 1000000
end Go.Proofs.YtieaihgbjikggaaGreat
namespace Go.Proofs.YtieaihgbjikggaaGreat
open Go Go.Sx
set_option maxRecDepth 100000
set_option maxHeartbeats 1000000
end Go.Proofs.YtieaihgbjikggaaGreat
namespace Go.Proofs.YtieaihgbjikggaaGreat
open Go Go.Sx
set_option maxRecDepth 100000
set_option maxHeartbeats 1000000
end Go.Proofs.YtieaihgbjikggaaGreat
namespace Go.Proofs.YtieaihgbjikggaaGreat
open Go Go.Sx
set_option maxRecDepth 100000
set_option maxHeartbeats 1000000
def tys : Tys := ⟨Ty_int, Ty_api_Object, Ty_api_Block, Ty_api_Item, Ty_api_Target⟩
theorem c_Clone_api_Object {H : Heap} {v : Value} {l : List (List Value)} (h : Sl H 12 v l) (hb : l.length ≤ 2 ^ 40) : Triple PP F_slices_Clone_api_Object_api_Object [v] H [] fun v' H' O' => OSl Ty_api_Object 12 v' l O' := by
 refine run_slices_Clone_api_Object_api_Object (vs := [v]) (by kernel_rfl) ⟨h.one, trivial⟩ ?_
 simp only [T_slices_Clone_api_Object_api_Object]
 obtain ⟨a, cap, rfl, h1, h2, h3⟩ := h
 have hev : evalPure (.bin .eql .slice) [.slice a l.length cap, .slice none 0 0] = some (.bool a.isNone) := by cases a <;> rfl
 refine pure_den _ hev (br_den (fun hn => ret_denO ?_) (fun hn => fun r0 => ?_))
 ·have hl : l = [] := by
   by_cases hl : l = []
   ·exact hl
   ·obtain ⟨ad, rfl, _⟩ := h3 hl; cases hn
  subst hl
  exact OSl.nil Ty_api_Object 12
 ·refine call_append (rows := []) (news := l) (O1 := []) (O2 := []) (e := Ty_api_Object) (size := 12) (bytes := 80) (by kernel_rfl) (List.Perm.refl _) (.inl ⟨⟨_, rfl⟩, rfl, rfl⟩) (fun Hf hl _ => Sl.le hl ⟨a, cap, rfl, h1, h2, h3⟩) (by simp; omega) (by simp; omega) ?_
  intro v' O1' H' _ ho
  refine ret_denO ?_
  rw [List.append_nil]
  exact ho
theorem c_Clone_api_Block {H : Heap} {v : Value} {l : List (List Value)} (h : Sl H 2 v l) (hb : l.length ≤ 2 ^ 40) : Triple PP F_slices_Clone_api_Block_api_Block [v] H [] fun v' H' O' => OSl Ty_api_Block 2 v' l O' := by
 refine run_slices_Clone_api_Block_api_Block (vs := [v]) (by kernel_rfl) ⟨h.one, trivial⟩ ?_
 simp only [T_slices_Clone_api_Block_api_Block]
 obtain ⟨a, cap, rfl, h1, h2, h3⟩ := h
 have hev : evalPure (.bin .eql .slice) [.slice a l.length cap, .slice none 0 0] = some (.bool a.isNone) := by cases a <;> rfl
 refine pure_den _ hev (br_den (fun hn => ret_denO ?_) (fun hn => fun r0 => ?_))
 ·have hl : l = [] := by
   by_cases hl : l = []
   ·exact hl
   ·obtain ⟨ad, rfl, _⟩ := h3 hl; cases hn
  subst hl
  exact OSl.nil Ty_api_Block 2
 ·refine call_append (rows := []) (news := l) (O1 := []) (O2 := []) (e := Ty_api_Block) (size := 2) (bytes := 16) (by kernel_rfl) (List.Perm.refl _) (.inl ⟨⟨_, rfl⟩, rfl, rfl⟩) (fun Hf hl _ => Sl.le hl ⟨a, cap, rfl, h1, h2, h3⟩) (by simp; omega) (by simp; omega) ?_
  intro v' O1' H' _ ho
  refine ret_denO ?_
  rw [List.append_nil]
  exact ho
theorem c_Clone_api_Item {H : Heap} {v : Value} {l : List (List Value)} (h : Sl H 5 v l) (hb : l.length ≤ 2 ^ 40) : Triple PP F_slices_Clone_api_Item_api_Item [v] H [] fun v' H' O' => OSl Ty_api_Item 5 v' l O' := by
 refine run_slices_Clone_api_Item_api_Item (vs := [v]) (by kernel_rfl) ⟨h.one, trivial⟩ ?_
 simp only [T_slices_Clone_api_Item_api_Item]
 obtain ⟨a, cap, rfl, h1, h2, h3⟩ := h
 have hev : evalPure (.bin .eql .slice) [.slice a l.length cap, .slice none 0 0] = some (.bool a.isNone) := by cases a <;> rfl
 refine pure_den _ hev (br_den (fun hn => ret_denO ?_) (fun hn => fun r0 => ?_))
 ·have hl : l = [] := by
   by_cases hl : l = []
   ·exact hl
   ·obtain ⟨ad, rfl, _⟩ := h3 hl; cases hn
  subst hl
  exact OSl.nil Ty_api_Item 5
 ·refine call_append (rows := []) (news := l) (O1 := []) (O2 := []) (e := Ty_api_Item) (size := 5) (bytes := 56) (by kernel_rfl) (List.Perm.refl _) (.inl ⟨⟨_, rfl⟩, rfl, rfl⟩) (fun Hf hl _ => Sl.le hl ⟨a, cap, rfl, h1, h2, h3⟩) (by simp; omega) (by simp; omega) ?_
  intro v' O1' H' _ ho
  refine ret_denO ?_
  rw [List.append_nil]
  exact ho
theorem c_Clone_api_Target {H : Heap} {v : Value} {l : List (List Value)} (h : Sl H 2 v l) (hb : l.length ≤ 2 ^ 40) : Triple PP F_slices_Clone_api_Target_api_Target [v] H [] fun v' H' O' => OSl Ty_api_Target 2 v' l O' := by
 refine run_slices_Clone_api_Target_api_Target (vs := [v]) (by kernel_rfl) ⟨h.one, trivial⟩ ?_
 simp only [T_slices_Clone_api_Target_api_Target]
 obtain ⟨a, cap, rfl, h1, h2, h3⟩ := h
 have hev : evalPure (.bin .eql .slice) [.slice a l.length cap, .slice none 0 0] = some (.bool a.isNone) := by cases a <;> rfl
 refine pure_den _ hev (br_den (fun hn => ret_denO ?_) (fun hn => fun r0 => ?_))
 ·have hl : l = [] := by
   by_cases hl : l = []
   ·exact hl
   ·obtain ⟨ad, rfl, _⟩ := h3 hl; cases hn
  subst hl
  exact OSl.nil Ty_api_Target 2
 ·refine call_append (rows := []) (news := l) (O1 := []) (O2 := []) (e := Ty_api_Target) (size := 2) (bytes := 16) (by kernel_rfl) (List.Perm.refl _) (.inl ⟨⟨_, rfl⟩, rfl, rfl⟩) (fun Hf hl _ => Sl.le hl ⟨a, cap, rfl, h1, h2, h3⟩) (by simp; omega) (by simp; omega) ?_
  intro v' O1' H' _ ho
  refine ret_denO ?_
  rw [List.append_nil]
  exact ho
end Go.Proofs.YtieaihgbjikggaaGreat
namespace Go.Proofs.YtieaihgbjikggaaGreat
open Go Go.Sx
set_option maxRecDepth 100000
set_option maxHeartbeats 1000000
theorem c_items {H : Heap} {v : Value} {l : List It} (h : ItsS H v l) (hB : itsB l) : Triple PP F_board_items [v] H [] fun v' H' O' => OIts Ty_api_Target Ty_api_Item v' l O' := by
 obtain ⟨rows, hs, hrl, hit⟩ := h
 refine run_board_items (vs := [v]) (by kernel_rfl) ⟨hs.one, trivial⟩ ?_
 simp only [T_board_items]
 refine call_new (c_Clone_api_Item hs (by have := hB.1; omega)) fun v' H1 O1 ho l1 => ⟨[v'], rfl, ⟨ho.one, trivial⟩, ?_⟩
 have hlen := ho.len
 rw [hrl] at hlen
 refine pure_den _ hlen ?_
 refine count_den l.length (fun i H' O' => Heap.le H1 H' ∧ ∃ rows' A Ts, O'.Perm (A ++ List.flatten Ts) ∧ OSl Ty_api_Item 5 v' rows' A ∧ rows'.length = l.length ∧ Ts.length = i ∧
  (∀ (j : Nat) (r : List Value) (x : It) (T : Own), rows'[j]? = some r → l[j]? = some x → Ts[j]? = some T → ∃ s, r = [iV x.player, iV x.id, iV x.card, iV x.trig, s] ∧ OSlE Ty_api_Target 2 s (x.tgs.map Tg.row) T) ∧ ∀ j, i ≤ j → rows'[j]? = rows[j]?)
  ⟨Heap.le_refl _, rows, O1, [], by simp, ho, hrl, rfl, fun j r x T _ _ h => by simp at h, fun _ _ => rfl⟩ ?_
 rintro i H' O' hi - ⟨hle, rows', A, Ts, hp, hA, hrl', htl, hspec, hrest⟩
 refine pure_den _ (lss_eq _ _) (br_den (fun hb => ?_) (fun hb => ?_))
 ·have hlt : i < l.length := by simpa using hb
  have hri : rows'[i]? = some rows[i] := by rw [hrest i (Nat.le_refl _)]; exact List.getElem?_eq_getElem (by omega)
  obtain ⟨s, hrow, hst⟩ := hit i rows[i] l[i] (List.getElem?_eq_getElem (by omega)) (List.getElem?_eq_getElem hlt)
  obtain ⟨a, k1, _, _, k3⟩ := hA.idx (fun p hp' => hp.mem_iff.2 (List.mem_append_left _ hp')) H' (k := .i64) hri
  have hr := k3 4 1 (by omega)
  rw [hrow] at hr
  refine pure_den _ k1 (chkP_den rfl (load_denR hr rfl ⟨hst.one, trivial⟩ ?_))
  refine call_new (c_Clone_api_Target (hst.le (Heap.le_trans l1 hle)) (by have := hB.2 _ (List.getElem_mem hlt); simp; omega)) fun s' H2 T hT l2 => ⟨[s'], rfl, ⟨hT.one, trivial⟩, ?_⟩
  have hp2 : (T ++ O').Perm (A ++ (T ++ List.flatten Ts)) := (hp.append_left T).trans (List.perm_append_comm_assoc _ _ _)
  obtain ⟨a2, j1, j2⟩ := hA.store hp2 (k := .i64) hri
  obtain ⟨A', hst2, hA'⟩ := j2 4 [s'] (by simp) ⟨hT.one, trivial⟩
  refine pure_den _ j1 (chkP_den rfl (chkP_den rfl ⟨_, hst2, ?_⟩))
  have hsp : splice rows[i] 4 [s'] = [iV l[i].player, iV l[i].id, iV l[i].card, iV l[i].trig, s'] := by rw [hrow]; rfl
  rw [hsp] at hA'
  refine pure_den _ (add_one (by have := hB.1; omega)) (count_cont (by simp [Eqs]) hlt ⟨Heap.le_trans hle l2, _, A', Ts ++ [T], ?_, hA', by simp [hrl'], by simp [htl], ?_, ?_⟩)
  ·refine List.Perm.append_left A' ?_
   rw [List.flatten_append]
   simpa using List.perm_append_comm
  ·intro j r x T' h1 h2 h3
   by_cases hj : j = i
   ·subst hj
    rw [List.getElem?_set_self (by omega)] at h1
    rw [List.getElem?_eq_getElem hlt] at h2
    rw [List.getElem?_append_right (by omega), htl, Nat.sub_self] at h3
    simp only [Option.some.injEq, List.getElem?_cons_zero] at h1 h2 h3
    subst h1; subst h2; subst h3
    exact ⟨s', rfl, .inl hT⟩
   ·rw [List.getElem?_set_ne (by omega)] at h1
    have hjlt : j < Ts.length := by
     have := (List.getElem?_eq_some_iff.1 h3).1
     simp at this; omega
    rw [List.getElem?_append_left hjlt] at h3
    exact hspec j r x T' h1 h2 h3
  ·intro j hj
   rw [List.getElem?_set_ne (by omega)]
   exact hrest j (by omega)
 ·have hie : i = l.length := by
   have : ¬ ((i : Int) < (l.length : Int)) := by simpa using hb
   omega
  subst hie
  exact ret_denO ⟨rows', A, Ts, hp, hA, hrl', htl, hspec⟩
theorem OIts.one {te ti : TypeId} {v : Value} {l : List It} {O : Own} (h : OIts te ti v l O) : v.oneCell' = true := by
 obtain ⟨rows, A, Ts, _, h1, _⟩ := h; exact h1.one
theorem c_Copy {H : Heap} {v : BV12} {b : Bd} (h : BdS H v b) (hB : bdB b) : Triple PP F_board_Copy [.agg (boardC v b).toArray] H [] fun r H' O' => ∃ w, r = .agg (boardC w b).toArray ∧ OwnB tys w b O' := by
 refine run_board_Copy (vs := boardC v b) (by kernel_rfl) (boardC_ones (h.r [])) ?_
 simp only [T_board_Copy]
 obtain ⟨b1, ⟨b2, b3, b4, b5⟩, ⟨b6, b7, b8, b9⟩, b10, b11, b12, b13⟩ := hB
 have cl : ∀ {l : List Int}, l.length ≤ 1000000 → (ints l).length ≤ 2 ^ 40 := fun h => by rw [ints, List.length_map]; omega
 refine newbox_den fun r0 => newbox_den fun r1 => ?_
 repeat (first | refine chkN_den ?_ | refine chkV_den ?_)
 refine call_new (c_Clone_api_Object h.objs (by rw [List.length_map]; omega)) fun xo H1 Oo po l1 => ⟨_, rfl, ⟨po.one, trivial⟩, ?_⟩
 replace h := h.le l1
 repeat (first | refine chkN_den ?_ | refine chkV_den ?_)
 refine call_new (c_Clone_int h.att (cl b12)) fun xa H1 Oa pa l1 => ⟨_, rfl, ⟨pa.one, trivial⟩, ?_⟩
 replace h := h.le l1
 repeat (first | refine chkN_den ?_ | refine chkV_den ?_)
 refine call_new (c_Clone_api_Block h.blocks (by rw [List.length_map]; omega)) fun xb H1 Obk pb l1 => ⟨_, rfl, ⟨pb.one, trivial⟩, ?_⟩
 replace h := h.le l1
 repeat (first | refine chkN_den ?_ | refine chkV_den ?_)
 refine call_new (c_items h.stack b10) fun xs H1 Os ps l1 => ⟨_, rfl, ⟨OIts.one ps, trivial⟩, ?_⟩
 replace h := h.le l1
 repeat (first | refine chkN_den ?_ | refine chkV_den ?_)
 refine call_new (c_items h.queue b11) fun xq H1 Oq pq l1 => ⟨_, rfl, ⟨OIts.one pq, trivial⟩, ?_⟩
 replace h := h.le l1
 repeat (first | refine chkN_den ?_ | refine chkV_den ?_)
 refine call_retO (c_lists r0 1 _ _) rfl ⟨rfl, rfl, rfl, rfl, trivial⟩ fun H1 l1 => ?_
 replace h := h.le l1
 repeat (first | refine chkN_den ?_ | refine chkV_den ?_)
 refine call_new (c_Clone_int h.s0.lib (cl b2)) fun x1 H1 A0 p1 l1 => ⟨_, rfl, ⟨p1.one, trivial⟩, ?_⟩
 replace h := h.le l1
 repeat (first | refine chkN_den ?_ | refine chkV_den ?_)
 refine call_new (c_Clone_int h.s0.hand (cl b3)) fun x2 H1 B0 p2 l1 => ⟨_, rfl, ⟨p2.one, trivial⟩, ?_⟩
 replace h := h.le l1
 repeat (first | refine chkN_den ?_ | refine chkV_den ?_)
 refine call_new (c_Clone_int h.s0.field (cl b4)) fun x3 H1 C0 p3 l1 => ⟨_, rfl, ⟨p3.one, trivial⟩, ?_⟩
 replace h := h.le l1
 repeat (first | refine chkN_den ?_ | refine chkV_den ?_)
 refine call_new (c_Clone_int h.s0.grave (cl b5)) fun x4 H1 D0 p4 l1 => ⟨_, rfl, ⟨p4.one, trivial⟩, ?_⟩
 replace h := h.le l1
 repeat (first | refine chkN_den ?_ | refine chkV_den ?_)
 refine call_retO (c_lists r0 15 _ _) rfl ⟨rfl, rfl, rfl, rfl, trivial⟩ fun H1 l1 => ?_
 replace h := h.le l1
 repeat (first | refine chkN_den ?_ | refine chkV_den ?_)
 refine call_new (c_Clone_int h.s1.lib (cl b6)) fun x5 H1 A1 p5 l1 => ⟨_, rfl, ⟨p5.one, trivial⟩, ?_⟩
 replace h := h.le l1
 repeat (first | refine chkN_den ?_ | refine chkV_den ?_)
 refine call_new (c_Clone_int h.s1.hand (cl b7)) fun x6 H1 B1 p6 l1 => ⟨_, rfl, ⟨p6.one, trivial⟩, ?_⟩
 replace h := h.le l1
 repeat (first | refine chkN_den ?_ | refine chkV_den ?_)
 refine call_new (c_Clone_int h.s1.field (cl b8)) fun x7 H1 C1 p7 l1 => ⟨_, rfl, ⟨p7.one, trivial⟩, ?_⟩
 replace h := h.le l1
 repeat (first | refine chkN_den ?_ | refine chkV_den ?_)
 refine call_new (c_Clone_int h.s1.grave (cl b9)) fun x8 H1 D1 p8 l1 => ⟨_, rfl, ⟨p8.one, trivial⟩, ?_⟩
 repeat (first | refine chkN_den ?_ | refine chkV_den ?_)
 refine ret_denO ⟨⟨xo, x1, x2, x3, x4, x5, x6, x7, x8, xs, xq, xa, xb⟩, rfl, Oo, A0, B0, C0, D0, A1, B1, C1, D1, Os, Oq, Oa, Obk, ?_, ⟨po, p1, p2, p3, p4, p5, p6, p7, p8, ps, pq, pa, pb⟩⟩
 refine perm_count fun a _ _ => ?_
 simp only [List.count_append, List.count_nil]
 omega
end Go.Proofs.YtieaihgbjikggaaGreat
namespace Go.Proofs.YtieaihgbjikggaaGreat
open Go Go.Sx
set_option maxRecDepth 100000
set_option maxHeartbeats 1000000
/-- A new slice with the rows of a frozen one. -/
theorem app_new {P : Program} {t ty e : TypeId} {size bytes : Nat} (ha : appOk P t e size bytes = true) {x : Value} {news : List (List Value)} {O : Own} {H : Heap} {K : List Value → List (List Value) → Heap → Own → Prop}
  (h : Sl H size x news) (hb : news.length * bytes ≤ 140737488355328) (h63 : news.length < 2 ^ 63) (hk : ∀ v' O1' H', Heap.le H H' → OSl e size v' news O1' → K [v'] [] H' (O1' ++ O)) :
  CallD (fun H1 O1 R => OpTriple P ((PrimOp.bi .append #[t, t] ty).sem [.slice none 0 0, x]) H1 O1 R) false [] [] .one K H O :=
 call_append (rows := []) (O1 := []) (O2 := O) ha (List.Perm.refl _) (OSl.nil e size) (fun _ hl _ => h.le hl) (by simpa using hb) (by simpa using h63) fun v' O1' H' hl ho => hk v' O1' H' hl (by simpa using ho)
theorem r_copied {H : Heap} {v : Value} {l : List It} (h : ItsS H v l) (hB : itsB l) : Triple PP F_zeitnotref15_copied [v] H [] fun v' H' O' => OIts Ty_api_Target Ty_api_Item v' l O' := by
 have hone := ItsR.one (h.r [])
 have hlen := ItsR.len (h.r [])
 obtain ⟨rows, hs, hrl, hit⟩ := h
 refine run_zeitnotref15_copied (vs := [v]) (by kernel_rfl) ⟨hone, trivial⟩ ?_
 simp only [T_zeitnotref15_copied]
 refine countY_den l.length (fun i x H' O' => Heap.le H H' ∧ ∃ rows' A Ts, O'.Perm (A ++ List.flatten Ts) ∧ OSl Ty_api_Item 5 x rows' A ∧ rows'.length = i ∧ Ts.length = i ∧
  (∀ (j : Nat) (r : List Value) (x : It) (T : Own), rows'[j]? = some r → l[j]? = some x → Ts[j]? = some T → ∃ s, r = [iV x.player, iV x.id, iV x.card, iV x.trig, s] ∧ OSlE Ty_api_Target 2 s (x.tgs.map Tg.row) T))
  ⟨Heap.le_refl _, [], [], [], by simp, OSl.nil _ _, rfl, rfl, fun j r x T h => by simp at h⟩ ?_
 rintro i x H' O' hi - ⟨hle, rows', A, Ts, hp, hA, hrl', htl, hspec⟩
 refine pure_den _ hlen (pure_den _ (lss_eq _ _) (br_den (fun hb => ?_) (fun hb => ?_)))
 ·have hlt : i < l.length := by simpa using hb
  obtain ⟨s, hrow, hst⟩ := hit i rows[i] l[i] (List.getElem?_eq_getElem (by omega)) (List.getElem?_eq_getElem hlt)
  obtain ⟨a, h1, h2, h3, h4⟩ := (hs.le hle).idx (k := .i64) (i := i) (List.getElem?_eq_getElem (by omega))
  rw [hrow] at h2 h3 h4
  refine pure_den _ h1 (load_den h2 h3 h4 (newbox_den fun r0 => chkN_den (chkN_den ?_)))
  have hb6 := hB.2 _ (List.getElem_mem hlt)
  refine app_new (e := Ty_api_Target) (size := 2) (bytes := 16) (by kernel_rfl) (hst.le hle) (by simp; omega) (by simp; omega) fun s' T H2 l2 hT => ?_
  refine chkN_den (chkN_den (newbox_den fun r1 => ?_))
  refine call_append (rows := rows') (news := [[iV l[i].player, iV l[i].id, iV l[i].card, iV l[i].trig, s']]) (O1 := A) (O2 := T ++ List.flatten Ts) (e := Ty_api_Item) (size := 5) (bytes := 56) (by kernel_rfl) ((hp.append_left T).trans (List.perm_append_comm_assoc _ _ _)) hA
   (fun Hf _ hf => Sl.block1 (hf _ List.mem_cons_self) rfl ⟨rfl, rfl, rfl, rfl, hT.one, trivial⟩) ?_ ?_ ?_
  ·have := hB.1; simp; omega
  ·have := hB.1; simp; omega
  intro v' A' H3 l3 hA'
  refine pure_den _ (add_one (by have := hB.1; omega)) (countY_cont (by simp [Eqs]) hlt ⟨Heap.le_trans hle (Heap.le_trans l2 l3), _, A', Ts ++ [T], ?_, hA', by simp [hrl'], by simp [htl], ?_⟩)
  ·refine List.Perm.append_left A' ?_
   rw [List.flatten_append]
   simpa using List.perm_append_comm
  ·intro j r x T' q1 q2 q3
   by_cases hj : j = i
   ·subst hj
    rw [List.getElem?_append_right (by omega), hrl', Nat.sub_self] at q1
    rw [List.getElem?_eq_getElem hlt] at q2
    rw [List.getElem?_append_right (by omega), htl, Nat.sub_self] at q3
    simp only [Option.some.injEq, List.getElem?_cons_zero] at q1 q2 q3
    subst q1; subst q2; subst q3
    exact ⟨s', rfl, .inl hT⟩
   ·have hjlt : j < Ts.length := by
     have := (List.getElem?_eq_some_iff.1 q3).1
     simp at this; omega
    rw [List.getElem?_append_left hjlt] at q3
    rw [List.getElem?_append_left (by omega)] at q1
    exact hspec j r x T' q1 q2 q3
 ·have hie : i = l.length := by
   have : ¬ ((i : Int) < (l.length : Int)) := by simpa using hb
   omega
  subst hie
  exact ret_denO ⟨rows', A, Ts, hp, hA, hrl', htl, hspec⟩
theorem r_Copy {H : Heap} {v : BV12} {b : Bd} (h : BdS H v b) (hB : bdB b) : Triple PP F_zeitnotref15_Copy [.agg (boardC v b).toArray] H [] fun r H' O' => ∃ w, r = .agg (boardC w b).toArray ∧ OwnB tys w b O' := by
 refine run_zeitnotref15_Copy (vs := boardC v b) (by kernel_rfl) (boardC_ones (h.r [])) ?_
 simp only [T_zeitnotref15_Copy]
 obtain ⟨b1, ⟨b2, b3, b4, b5⟩, ⟨b6, b7, b8, b9⟩, b10, b11, b12, b13⟩ := hB
 refine newbox_den fun r0 => ?_
 repeat (first | refine chkN_den ?_ | refine chkV_den ?_ | refine newbox_den fun _ => ?_)
 refine app_new (e := Ty_api_Object) (size := 12) (bytes := 80) (by kernel_rfl) h.objs (by simp [ints]; omega) (by simp [ints]; omega) fun xo Oo H1 l1 po => ?_
 replace h := h.le l1
 repeat (first | refine chkN_den ?_ | refine chkV_den ?_ | refine newbox_den fun _ => ?_)
 refine app_new (e := Ty_int) (size := 1) (bytes := 8) (by kernel_rfl) h.s0.lib (by simp [ints]; omega) (by simp [ints]; omega) fun x1 A0 H1 l1 p1 => ?_
 replace h := h.le l1
 repeat (first | refine chkN_den ?_ | refine chkV_den ?_ | refine newbox_den fun _ => ?_)
 refine app_new (e := Ty_int) (size := 1) (bytes := 8) (by kernel_rfl) h.s0.hand (by simp [ints]; omega) (by simp [ints]; omega) fun x2 B0 H1 l1 p2 => ?_
 replace h := h.le l1
 repeat (first | refine chkN_den ?_ | refine chkV_den ?_ | refine newbox_den fun _ => ?_)
 refine app_new (e := Ty_int) (size := 1) (bytes := 8) (by kernel_rfl) h.s0.field (by simp [ints]; omega) (by simp [ints]; omega) fun x3 C0 H1 l1 p3 => ?_
 replace h := h.le l1
 repeat (first | refine chkN_den ?_ | refine chkV_den ?_ | refine newbox_den fun _ => ?_)
 refine app_new (e := Ty_int) (size := 1) (bytes := 8) (by kernel_rfl) h.s0.grave (by simp [ints]; omega) (by simp [ints]; omega) fun x4 D0 H1 l1 p4 => ?_
 replace h := h.le l1
 repeat (first | refine chkN_den ?_ | refine chkV_den ?_ | refine newbox_den fun _ => ?_)
 refine app_new (e := Ty_int) (size := 1) (bytes := 8) (by kernel_rfl) h.s1.lib (by simp [ints]; omega) (by simp [ints]; omega) fun x5 A1 H1 l1 p5 => ?_
 replace h := h.le l1
 repeat (first | refine chkN_den ?_ | refine chkV_den ?_ | refine newbox_den fun _ => ?_)
 refine app_new (e := Ty_int) (size := 1) (bytes := 8) (by kernel_rfl) h.s1.hand (by simp [ints]; omega) (by simp [ints]; omega) fun x6 B1 H1 l1 p6 => ?_
 replace h := h.le l1
 repeat (first | refine chkN_den ?_ | refine chkV_den ?_ | refine newbox_den fun _ => ?_)
 refine app_new (e := Ty_int) (size := 1) (bytes := 8) (by kernel_rfl) h.s1.field (by simp [ints]; omega) (by simp [ints]; omega) fun x7 C1 H1 l1 p7 => ?_
 replace h := h.le l1
 repeat (first | refine chkN_den ?_ | refine chkV_den ?_ | refine newbox_den fun _ => ?_)
 refine app_new (e := Ty_int) (size := 1) (bytes := 8) (by kernel_rfl) h.s1.grave (by simp [ints]; omega) (by simp [ints]; omega) fun x8 D1 H1 l1 p8 => ?_
 replace h := h.le l1
 repeat (first | refine chkN_den ?_ | refine chkV_den ?_ | refine newbox_den fun _ => ?_)
 refine call_new (r_copied h.stack b10) fun xs H1 Os ps l1 => ⟨_, rfl, ⟨OIts.one ps, trivial⟩, ?_⟩
 replace h := h.le l1
 repeat (first | refine chkN_den ?_ | refine chkV_den ?_ | refine newbox_den fun _ => ?_)
 refine call_new (r_copied h.queue b11) fun xq H1 Oq pq l1 => ⟨_, rfl, ⟨OIts.one pq, trivial⟩, ?_⟩
 replace h := h.le l1
 repeat (first | refine chkN_den ?_ | refine chkV_den ?_ | refine newbox_den fun _ => ?_)
 refine app_new (e := Ty_int) (size := 1) (bytes := 8) (by kernel_rfl) h.att (by simp [ints]; omega) (by simp [ints]; omega) fun xa Oa H1 l1 pa => ?_
 replace h := h.le l1
 repeat (first | refine chkN_den ?_ | refine chkV_den ?_ | refine newbox_den fun _ => ?_)
 refine app_new (e := Ty_api_Block) (size := 2) (bytes := 16) (by kernel_rfl) h.blocks (by simp [ints]; omega) (by simp [ints]; omega) fun xb Obk H1 l1 pb => ?_
 replace h := h.le l1
 repeat (first | refine chkN_den ?_ | refine chkV_den ?_ | refine newbox_den fun _ => ?_)
 refine ret_denO ⟨⟨xo, x1, x2, x3, x4, x5, x6, x7, x8, xs, xq, xa, xb⟩, rfl, Oo, A0, B0, C0, D0, A1, B1, C1, D1, Os, Oq, Oa, Obk, ?_, ⟨po, p1, p2, p3, p4, p5, p6, p7, p8, ps, pq, pa, pb⟩⟩
 refine perm_count fun a _ _ => ?_
 simp only [List.count_append, List.count_nil]
 omega
end Go.Proofs.YtieaihgbjikggaaGreat
namespace Go.Proofs.YtieaihgbjikggaaGreat
open Go Go.Sx
set_option maxRecDepth 100000
set_option maxHeartbeats 1000000
theorem ptr0 (a : Addr) : ptrAdd (.pointer (some a)) 0 = .pointer (some a) := by simp [ptrAdd, Addr.add]
end Go.Proofs.YtieaihgbjikggaaGreat
namespace Go.Proofs.YtieaihgbjikggaaGreat
open Go Go.Sx
set_option maxRecDepth 100000
set_option maxHeartbeats 1000000
theorem ownB_ones {w : BV12} {b : Bd} {O : Own} (H : Heap) (h : OwnB tys w b O) : Ones (boardC w b) := boardC_ones (h.r (fun _ h => h) H)
end Go.Proofs.YtieaihgbjikggaaGreat
namespace Go.Proofs.YtieaihgbjikggaaGreat
open Go Go.Sx
set_option maxRecDepth 100000
set_option maxHeartbeats 1000000
end Go.Proofs.YtieaihgbjikggaaGreat
namespace Go.Sx
open Go
theorem Cons.ghost {H H' : Heap} {O O' : Own} (h : Cons H O) (g : Ghost H O H' O') : Cons H' O' := by
 obtain ⟨w, F, hm⟩ := h
 exact ⟨w, F, (g w F hm).1⟩
theorem Cons.perm {H : Heap} {O O' : Own} (h : Cons H O) (hp : O.Perm O') : Cons H O' := h.ghost (Ghost.perm hp)
theorem Triple.ghost {P : Program} {f : FuncId} {args : List Value} {H : Heap} {O : Own} {Q Q' : Value → Heap → Own → Prop} (h : Triple P f args H O Q)
  (hq : ∀ v H' O', Heap.le H H' → Cons H' O' → Q v H' O' → ∃ H'' O'', Ghost H' O' H'' O'' ∧ Q' v H'' O'') : Triple P f args H O Q' :=
 fun w F hm => (h w F hm).mono fun _ w' ⟨v, H', O', he, q, hle, hm'⟩ =>
  let ⟨H'', O'', g, q'⟩ := hq v H' O' hle ⟨w', F, hm'⟩ q
  ⟨v, H'', O'', he, q', Heap.le_trans hle (g _ _ hm').2, (g _ _ hm').1⟩
theorem its_freeze {te : TypeId} : ∀ (l : List It) (rows : List (List Value)) (Ts : List Own) (H : Heap) (X : Own), rows.length = l.length → Ts.length = l.length →
  (∀ (i : Nat) (r : List Value) (x : It) (T : Own), rows[i]? = some r → l[i]? = some x → Ts[i]? = some T → ∃ s, r = [iV x.player, iV x.id, iV x.card, iV x.trig, s] ∧ OSlE te 2 s (x.tgs.map Tg.row) T) →
  Cons H (List.flatten Ts ++ X) → ∃ H', Ghost H (List.flatten Ts ++ X) H' X ∧ Heap.le H H' ∧
   ∀ (i : Nat) (r : List Value) (x : It), rows[i]? = some r → l[i]? = some x → ∃ s, r = [iV x.player, iV x.id, iV x.card, iV x.trig, s] ∧ Sl H' 2 s (x.tgs.map Tg.row)
 | [], [], [], H, X, _, _, _, _ => ⟨H, Ghost.refl _ _, Heap.le_refl _, fun i r x h => by simp at h⟩
 | x :: l, r :: rows, T :: Ts, H, X, h1, h2, hs, hc => by
  obtain ⟨s, e, hT⟩ := hs 0 r x T rfl rfl rfl
  rw [List.flatten_cons, List.append_assoc] at hc
  obtain ⟨H1, g1, k1, l1⟩ := hT.freeze hc
  obtain ⟨H2, g2, l2, k2⟩ := its_freeze l rows Ts H1 X (by simpa using h1) (by simpa using h2) (fun i r x T a b c => hs (i + 1) r x T (by simpa using a) (by simpa using b) (by simpa using c)) (hc.ghost g1)
  refine ⟨H2, ?_, Heap.le_trans l1 l2, fun i r' x' a b => ?_⟩
  ·rw [List.flatten_cons, List.append_assoc]; exact g1.trans g2
  ·cases i with
   | zero => simp at a b; subst a; subst b; exact ⟨s, e, k1.le l2⟩
   | succ i => exact k2 i r' x' (by simpa using a) (by simpa using b)
 | [], _ :: _, _, _, _, h, _, _, _ => by simp at h
 | _ :: _, [], _, _, _, h, _, _, _ => by simp at h
 | [], [], _ :: _, _, _, _, h, _, _ => by simp at h
 | _ :: _, _ :: _, [], _, _, _, h, _, _ => by simp at h
theorem OIts.freeze {te ti : TypeId} {v : Value} {l : List It} {O1 X : Own} {H : Heap} (h : OIts te ti v l O1) (hc : Cons H (O1 ++ X)) : ∃ H', Ghost H (O1 ++ X) H' X ∧ ItsS H' v l ∧ Heap.le H H' := by
 obtain ⟨rows, A, Ts, hp, h1, h2, h3, h4⟩ := h
 have hp' : (O1 ++ X).Perm (A ++ (List.flatten Ts ++ X)) := (hp.append_right X).trans (List.Perm.of_eq (List.append_assoc _ _ _))
 obtain ⟨H1, g1, k1, l1⟩ := h1.freeze (hc.perm hp')
 obtain ⟨H2, g2, l2, k2⟩ := its_freeze l rows Ts H1 X h2 h3 h4 ((hc.perm hp').ghost g1)
 exact ⟨H2, (Ghost.perm hp').trans (g1.trans g2), ⟨rows, k1.le l2, h2, k2⟩, Heap.le_trans l1 l2⟩
theorem OwnB.freeze {t : Tys} {w : BV12} {b : Bd} {O X : Own} {H : Heap} (h : OwnB t w b O) (hc : Cons H (O ++ X)) : ∃ H', Ghost H (O ++ X) H' X ∧ BdS H' w b ∧ Heap.le H H' := by
 obtain ⟨Oo, A0, B0, C0, D0, A1, B1, C1, D1, Os, Oq, Oa, Obk, hp, h⟩ := h
 have hp' : (O ++ X).Perm (Oo ++ (A0 ++ (B0 ++ (C0 ++ (D0 ++ (A1 ++ (B1 ++ (C1 ++ (D1 ++ (Os ++ (Oq ++ (Oa ++ (Obk ++ X))))))))))))) := by
  refine (hp.append_right X).trans (List.Perm.of_eq ?_)
  simp only [List.append_assoc]
 replace hc := hc.perm hp'
 obtain ⟨H1, g1, k1, l1⟩ := h.objs.freeze hc
 replace hc := hc.ghost g1
 obtain ⟨H2, g2, k2, l2⟩ := h.l0.freeze hc
 replace hc := hc.ghost g2
 obtain ⟨H3, g3, k3, l3⟩ := h.h0.freeze hc
 replace hc := hc.ghost g3
 obtain ⟨H4, g4, k4, l4⟩ := h.f0.freeze hc
 replace hc := hc.ghost g4
 obtain ⟨H5, g5, k5, l5⟩ := h.g0.freeze hc
 replace hc := hc.ghost g5
 obtain ⟨H6, g6, k6, l6⟩ := h.l1.freeze hc
 replace hc := hc.ghost g6
 obtain ⟨H7, g7, k7, l7⟩ := h.h1.freeze hc
 replace hc := hc.ghost g7
 obtain ⟨H8, g8, k8, l8⟩ := h.f1.freeze hc
 replace hc := hc.ghost g8
 obtain ⟨H9, g9, k9, l9⟩ := h.g1.freeze hc
 replace hc := hc.ghost g9
 obtain ⟨H10, g10, k10, l10⟩ := h.stack.freeze hc
 replace hc := hc.ghost g10
 obtain ⟨H11, g11, k11, l11⟩ := h.queue.freeze hc
 replace hc := hc.ghost g11
 obtain ⟨H12, g12, k12, l12⟩ := h.att.freeze hc
 replace hc := hc.ghost g12
 obtain ⟨H13, g13, k13, l13⟩ := h.blocks.freeze hc
 have m12 := l13
 have m11 := Heap.le_trans l12 m12
 have m10 := Heap.le_trans l11 m11
 have m9 := Heap.le_trans l10 m10
 have m8 := Heap.le_trans l9 m9
 have m7 := Heap.le_trans l8 m8
 have m6 := Heap.le_trans l7 m7
 have m5 := Heap.le_trans l6 m6
 have m4 := Heap.le_trans l5 m5
 have m3 := Heap.le_trans l4 m4
 have m2 := Heap.le_trans l3 m3
 have m1 := Heap.le_trans l2 m2
 exact ⟨H13, (Ghost.perm hp').trans (g1.trans (g2.trans (g3.trans (g4.trans (g5.trans (g6.trans (g7.trans (g8.trans (g9.trans (g10.trans (g11.trans (g12.trans g13)))))))))))),
  ⟨k1.le m1, ⟨k2.le m2, k3.le m3, k4.le m4, k5.le m5⟩, ⟨k6.le m6, k7.le m7, k8.le m8, k9.le m9⟩, k10.le m10, k11.le m11, k12.le m12, k13⟩, Heap.le_trans l1 m1⟩
/-- What is handed back is frozen at once. -/
theorem Triple.frozen {P : Program} {f : FuncId} {args : List Value} {H : Heap} {t : Tys} {b : Bd} (h : Triple P f args H [] fun r _ O' => ∃ w, r = .agg (boardC w b).toArray ∧ OwnB t w b O') :
  Triple P f args H [] fun r H' O' => (∃ w, r = .agg (boardC w b).toArray ∧ BdS H' w b) ∧ O' = [] := by
 refine h.ghost ?_
 rintro v H' O' _ hc ⟨w, rfl, ho⟩
 obtain ⟨H'', g, k, _⟩ := ho.freeze (X := []) (by simpa using hc)
 exact ⟨H'', [], by simpa using g, ⟨w, rfl, k⟩, rfl⟩
end Go.Sx
namespace Go.Sx
open Go
theorem RetO.frame {P : Program} {f : FuncId} {args : List Value} {H : Heap} {O : Own} {r : Value} (h : RetO P f args H O r) (X : Own) : RetO P f args H (O ++ X) r :=
 (Triple.frame h X).mono fun _ _ _ _ ⟨O'', e, e1, e2⟩ => ⟨e1, by rw [e, e2]⟩
theorem RetO.perm {P : Program} {f : FuncId} {args : List Value} {H : Heap} {O O' : Own} {r : Value} (h : RetO P f args H O r) (hp : O.Perm O') : RetO P f args H O' r :=
 fun w F hm => (h w F (hm.perm (hp.symm.append_right F))).mono fun _ _ ⟨v, H', O1, he, ⟨q1, q2⟩, hle, hm'⟩ => ⟨v, H', O', he, ⟨q1, rfl⟩, hle, hm'.perm (by rw [q2]; exact hp.append_right F)⟩
theorem zero_ones {z : Array Value} {n : Nat} (h : ∀ v ∈ z.toList, v.oneCell' = true) : ∀ v ∈ (Builtin.zeroCells z n).toList, v.oneCell' = true := by
 intro v hv
 simp only [Builtin.zeroCells, Array.toList_map, List.mem_map, Array.toList_range, List.mem_range] at hv
 obtain ⟨i, hi, rfl⟩ := hv
 have hpos : 0 < z.size := by
  rcases Nat.eq_zero_or_pos z.size with e | e
  ·rw [e] at hi; omega
  ·exact e
 have hlt := Nat.mod_lt i hpos
 rw [getElem!_pos z (i % z.size) hlt]
 exact h _ (by simp)
/-- A call that is handed an own part. -/
theorem call_part {P : Program} {f : FuncId} {args : List Value} {H : Heap} {O O1 O2 : Own} {shp : Shp} {K : List Value → List (List Value) → Heap → Own → Prop} {R : Value → Heap → Own → Prop}
  (hO : O.Perm (O1 ++ O2)) (h : Triple P f args H O1 R) (hk : ∀ v H' O3, R v H' O3 → Heap.le H H' → ∃ vs, shp.open v = some vs ∧ Ones vs ∧ K vs [] H' (O3 ++ O2)) :
  CallD (fun H1 O1 R => Triple P f args H1 O1 R) false [] [] shp K H O := by
 intro _
 refine ⟨H, O1, O2, R, Ghost.perm hO, by simpa using h, ?_⟩
 intro v H' O' hr hle
 obtain ⟨vs, h1, h2, h3⟩ := hk v H' O' hr hle
 exact ⟨vs, [], O', h1, h2, trivial, rfl, h3⟩
end Go.Sx
namespace Go.Sx
open Go
theorem call_row {P : Program} {op : PrimOp} {args : List Value} {H : Heap} {O O2 : Own} {r : Nat} {cs cs' : List Value} {e : TypeId} {v : Value} {shp : Shp} {K : List Value → List (List Value) → Heap → Own → Prop} {vs : List Value}
  (hO : O.Perm ([(r, .cells cs.toArray e (0, 0))] ++ O2)) (hrun : ∀ w F, Models w H ([(r, .cells cs.toArray e (0, 0))] ++ F) → (op.sem args).run P w = .ok (.value v) (w.setRow r cs'.toArray)) (ho : shp.open v = some vs) (h1 : Ones vs)
  (hk : K vs [] H ([(r, .cells cs'.toArray e (0, 0))] ++ O2)) : CallD (fun H1 O1 R => OpTriple P (op.sem args) H1 O1 R) false [] [] shp K H O := by
 intro _
 refine ⟨H, [(r, .cells cs.toArray e (0, 0))], O2, fun v' H' O' => v' = v ∧ H' = H ∧ O' = [(r, .cells cs'.toArray e (0, 0))], Ghost.perm hO, fun w F hm => ⟨v, w.setRow r cs'.toArray, H, _, hrun w F (by simpa using hm), ⟨rfl, rfl, rfl⟩, Heap.le_refl H, ?_⟩, ?_⟩
 ·exact models_row (vs := cs) (by simpa using hm)
 ·rintro v' H' O' ⟨rfl, rfl, rfl⟩ _
  exact ⟨vs, [], _, ho, h1, trivial, rfl, hk⟩
theorem rows_flat {size : Nat} {rows : List (List Value)} {cs : List Value} (hl : ∀ row ∈ rows, row.length = size) (ht : cs.take (rows.length * size) = rows.flatten) {i : Nat} (hi : i ≤ rows.length) :
  (rows.take i).flatten = cs.take (i * size) ∧ (rows.drop i).flatten = (cs.drop (i * size)).take ((rows.length - i) * size) := by
 have h5 := flatten_len (rows := rows.take i) (size := size) fun x hx => hl x (List.mem_of_mem_take hx)
 have h1 : (rows.take i).length = i := by rw [List.length_take]; omega
 rw [h1] at h5
 have h4 : rows.flatten = (rows.take i).flatten ++ (rows.drop i).flatten := by rw [← List.flatten_append, List.take_append_drop]
 have hmul : i * size ≤ rows.length * size := Nat.mul_le_mul_right _ hi
 have hsub : (rows.length - i) * size = rows.length * size - i * size := Nat.sub_mul _ _ _
 constructor
 ·have h2 := congrArg (fun l => l.take (i * size)) ht
  simp only [List.take_take] at h2
  rw [Nat.min_eq_left hmul, h4, ← h5, List.take_left] at h2
  rw [← h5]; exact h2.symm
 ·have h2 := congrArg (fun l => l.drop (i * size)) ht
  simp only [List.drop_take] at h2
  rw [h4, ← h5, List.drop_left, h5] at h2
  rw [hsub]; exact h2.symm
theorem appOk_info {P : Program} {t e : TypeId} {size bytes : Nat} (h : appOk P t e size bytes = true) : P.underlying t = some (.slice e) ∧ ∃ i, P.info? e = some i ∧ i.size = size := by
 unfold appOk at h
 split at h
 ·rename_i e' i hu hi
  simp only [Bool.and_eq_true, beq_iff_eq] at h
  obtain ⟨⟨⟨⟨rfl, hsz⟩, _⟩, _⟩, _⟩ := h
  exact ⟨hu, i, hi, hsz⟩
 ·cases h
theorem own_cell {w : World} {H : Heap} {r : Nat} {cs : List Value} {e : TypeId} {F : Own} (hm : Models w H ([(r, .cells cs.toArray e (0, 0))] ++ F)) {j : Nat} {u : Value} (h : cs[j]? = some u) : w.cell? ⟨r, j, none⟩ = some u := by
 have hr := (hm.own (r, .cells cs.toArray e (0, 0)) (by simp)).1
 simp only [] at hr
 simp [World.cell?, hr, h]
/-- slices.Delete of one element, step by step: what its cells are. -/
theorem delete_cells {size n k : Nat} {cs : List Value} {rows : List (List Value)} (hn : rows.length = n) (hk : k < n) (hl : ∀ row ∈ rows, row.length = size) (ht : cs.take (n * size) = rows.flatten) (hc : n * size ≤ cs.length) :
  ((cs.take (k * size) ++ (cs.drop ((k + 1) * size)).take ((n - (k + 1)) * size)).length = (n - 1) * size) ∧ cs.take (k * size) ++ (cs.drop ((k + 1) * size)).take ((n - (k + 1)) * size) = (rows.eraseIdx k).flatten := by
 subst hn
 obtain ⟨a1, _⟩ := rows_flat hl ht (i := k) (by omega)
 obtain ⟨_, b2⟩ := rows_flat hl ht (i := k + 1) (by omega)
 have e : cs.take (k * size) ++ (cs.drop ((k + 1) * size)).take ((rows.length - (k + 1)) * size) = (rows.eraseIdx k).flatten := by
  rw [← a1, ← b2, ← List.flatten_append, List.eraseIdx_eq_take_drop_succ]
 refine ⟨?_, e⟩
 rw [e, flatten_len (size := size) fun x hx => hl x (List.mem_of_mem_eraseIdx hx), List.length_eraseIdx_of_lt hk]
theorem Sl.from {H : Heap} {size : Nat} {v : Value} {rows : List (List Value)} (h : Sl H size v rows) {i : Nat} (hi : i ≤ rows.length) : ∃ u, evalPure (.slc size true false false) [v, .int .i64 i] = some u ∧ Sl H size u (rows.drop i) := by
 obtain ⟨a, cap, rfl, h1, h2, h3⟩ := h
 have hb : slcBounds rows.length cap (some (.int .i64 (i : Int))) none none = some (i, rows.length, cap) := by
  simp [slcBounds, boundOr, boundHi, boundI, asI, hi]
 have hm : (rows.drop i).length = rows.length - i := List.length_drop
 refine ⟨.slice (if cap = i then a else a.map (·.add (i * size))) (rows.length - i) (cap - i), ?_, _, cap - i, by rw [hm], by rw [hm]; omega, by omega, fun hne => ?_⟩
 ·simp only [evalPure, takeArgs, evalSlc, hb, Option.map_some]
 ·have hne2 : rows ≠ [] := by rintro rfl; simp at hne
  have hlt : i < rows.length := by
   rcases Nat.lt_or_ge i rows.length with h | h
   ·exact h
   ·rw [List.drop_of_length_le h] at hne; exact absurd rfl hne
  obtain ⟨ad, rfl, hA⟩ := h3 hne2
  refine ⟨ad.add (i * size), ?_, fun j r hr => ?_⟩
  ·rw [if_neg (by omega)]; rfl
  ·rw [List.getElem?_drop] at hr
   have := hA (i + j) r hr
   rw [add_add, ← Nat.add_mul]; exact this
/-- Two lists, side by side, of which some are taken. -/
theorem filter2 {α β : Type} {p : α → Bool} {q : β → Bool} {R : α → β → Prop} (hpq : ∀ a b, R a b → p a = q b) : ∀ (l : List α) (r : List β), l.length = r.length → (∀ (i : Nat) (a : α) (b : β), l[i]? = some a → r[i]? = some b → R a b) →
  (l.filter p).length = (r.filter q).length ∧ ∀ (i : Nat) (a : α) (b : β), (l.filter p)[i]? = some a → (r.filter q)[i]? = some b → R a b
 | [], [], _, _ => ⟨rfl, fun i a b h => by simp at h⟩
 | a :: l, b :: r, h, hR => by
  have h0 := hR 0 a b rfl rfl
  have e := hpq a b h0
  obtain ⟨i1, i2⟩ := filter2 hpq l r (by simpa using h) fun i a b x y => hR (i + 1) a b (by simpa using x) (by simpa using y)
  cases hp : q b with
  | false => rw [List.filter_cons_of_neg (by rw [e, hp]; simp), List.filter_cons_of_neg (by rw [hp]; simp)]; exact ⟨i1, i2⟩
  | true =>
   rw [List.filter_cons_of_pos (by rw [e, hp]), List.filter_cons_of_pos hp]
   refine ⟨by simp [i1], fun i x y hx hy => ?_⟩
   cases i with
   | zero => simp at hx hy; subst hx; subst hy; exact h0
   | succ i => exact i2 i x y (by simpa using hx) (by simpa using hy)
 | [], _ :: _, h, _ => by simp at h
 | _ :: _, [], h, _ => by simp at h
end Go.Sx
namespace Go.Sx
open Go
/-- The kinds of frozen cards. -/
def KindS (H : Heap) (v : Value) (ks : List Int) : Prop := ∃ rows, Sl H 14 v rows ∧ rows.length = ks.length ∧ ∀ (i : Nat) (r : List Value) (k : Int), rows[i]? = some r → ks[i]? = some k → g r 1 = iV k
theorem KindS.le {H H' : Heap} {v : Value} {ks : List Int} (h : KindS H v ks) (hl : Heap.le H H') : KindS H' v ks := let ⟨rows, h1, h2, h3⟩ := h; ⟨rows, h1.le hl, h2, h3⟩
theorem KindS.one {H : Heap} {v : Value} {ks : List Int} (h : KindS H v ks) : v.oneCell' = true := let ⟨_, h1, _⟩ := h; h1.one
end Go.Sx
namespace Go.Sx
open Go
end Go.Sx
namespace Go.Sx
open Go
set_option maxRecDepth 100000
set_option maxHeartbeats 1000000
end Go.Sx
namespace Go.Sx
open Go
set_option maxRecDepth 100000
set_option maxHeartbeats 1000000
end Go.Sx
namespace Go.Sx
open Go
set_option maxRecDepth 100000
set_option maxHeartbeats 1000000
end Go.Sx
namespace Go.Sx
open Go
/-- What is asked of a card: its kind, its effects' targets, how many effects its triggers have. -/
structure Cd where
 kind : Int
 tg : List Int
 tr : List Nat
def EffsS (H : Heap) (v : Value) (tg : List Int) : Prop := ∃ rows, Sl H 5 v rows ∧ rows.length = tg.length ∧ ∀ (i : Nat) (r : List Value) (t : Int), rows[i]? = some r → tg[i]? = some t → g r 1 = iV t
def TrigR (H : Heap) (r : List Value) (n : Nat) : Prop := ∃ erows, Sl H 5 (g r 1) erows ∧ erows.length = n
def TrigsS (H : Heap) (v : Value) (tr : List Nat) : Prop := ∃ rows, Sl H 2 v rows ∧ rows.length = tr.length ∧ ∀ (i : Nat) (r : List Value) (n : Nat), rows[i]? = some r → tr[i]? = some n → TrigR H r n
structure CdR (H : Heap) (r : List Value) (c : Cd) : Prop where
 kind : g r 1 = iV c.kind
 eff : EffsS H (g r 11) c.tg
 trig : TrigsS H (g r 12) c.tr
def CardsS (H : Heap) (v : Value) (cs : List Cd) : Prop := ∃ rows, Sl H 14 v rows ∧ rows.length = cs.length ∧ ∀ (i : Nat) (r : List Value) (c : Cd), rows[i]? = some r → cs[i]? = some c → CdR H r c
theorem EffsS.le {H H' : Heap} {v : Value} {l : List Int} (h : EffsS H v l) (hl : Heap.le H H') : EffsS H' v l := let ⟨rows, h1, h2, h3⟩ := h; ⟨rows, h1.le hl, h2, h3⟩
theorem TrigR.le {H H' : Heap} {r : List Value} {n : Nat} (h : TrigR H r n) (hl : Heap.le H H') : TrigR H' r n := let ⟨rows, h1, h2⟩ := h; ⟨rows, h1.le hl, h2⟩
theorem TrigsS.le {H H' : Heap} {v : Value} {l : List Nat} (h : TrigsS H v l) (hl : Heap.le H H') : TrigsS H' v l := let ⟨rows, h1, h2, h3⟩ := h; ⟨rows, h1.le hl, h2, fun i r n a b => (h3 i r n a b).le hl⟩
theorem CdR.le {H H' : Heap} {r : List Value} {c : Cd} (h : CdR H r c) (hl : Heap.le H H') : CdR H' r c := ⟨h.kind, h.eff.le hl, h.trig.le hl⟩
theorem CardsS.le {H H' : Heap} {v : Value} {cs : List Cd} (h : CardsS H v cs) (hl : Heap.le H H') : CardsS H' v cs := let ⟨rows, h1, h2, h3⟩ := h; ⟨rows, h1.le hl, h2, fun i r c a b => (h3 i r c a b).le hl⟩
theorem CardsS.one {H : Heap} {v : Value} {cs : List Cd} (h : CardsS H v cs) : v.oneCell' = true := let ⟨_, h1, _⟩ := h; h1.one
theorem CardsS.len {H : Heap} {v : Value} {cs : List Cd} (h : CardsS H v cs) : evalPure .len [v] = some (iV cs.length) := by
 obtain ⟨rows, h1, h2, _⟩ := h
 have := h1.len; rwa [h2] at this
theorem EffsS.one {H : Heap} {v : Value} {l : List Int} (h : EffsS H v l) : v.oneCell' = true := let ⟨_, h1, _⟩ := h; h1.one
theorem EffsS.len {H : Heap} {v : Value} {l : List Int} (h : EffsS H v l) : evalPure .len [v] = some (iV l.length) := by
 obtain ⟨rows, h1, h2, _⟩ := h
 have := h1.len; rwa [h2] at this
theorem TrigsS.one {H : Heap} {v : Value} {l : List Nat} (h : TrigsS H v l) : v.oneCell' = true := let ⟨_, h1, _⟩ := h; h1.one
theorem TrigsS.len {H : Heap} {v : Value} {l : List Nat} (h : TrigsS H v l) : evalPure .len [v] = some (iV l.length) := by
 obtain ⟨rows, h1, h2, _⟩ := h
 have := h1.len; rwa [h2] at this
theorem EffsS.nil (H : Heap) : EffsS H (.slice none 0 0) [] := ⟨[], Sl.nil H 5, rfl, fun i r t h => by simp at h⟩
theorem TrigsS.nil (H : Heap) : TrigsS H (.slice none 0 0) [] := ⟨[], Sl.nil H 2, rfl, fun i r t h => by simp at h⟩
end Go.Sx
