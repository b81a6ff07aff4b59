/- Which boards are valid: what the program says. -/
import Derived.Test.YtieaihgbjikggaaGreatC1
namespace Go.Proofs.YtieaihgbjikggaaGreat
open Go Go.Sx
set_option maxRecDepth 100000
set_option maxHeartbeats 1000000
theorem nodup_le {α : Type} [DecidableEq α] : ∀ {l r : List α}, l.Nodup → (∀ x ∈ l, x ∈ r) → l.length ≤ r.length
 | [], _, _, _ => Nat.zero_le _
 | a :: l, r, hn, hs => by
  rw [List.nodup_cons] at hn
  have har : a ∈ r := hs a (by simp)
  have h1 := nodup_le (r := r.erase a) hn.2 fun x hx => by
   have : x ≠ a := fun e => hn.1 (e ▸ hx)
   exact (List.mem_erase_of_ne this).2 (hs x (by simp [hx]))
  rw [List.length_erase_of_mem har] at h1
  have := List.length_pos_of_mem har
  simp only [List.length_cons]; omega
theorem nodup_back {α : Type} [DecidableEq α] {l r : List α} (hn : l.Nodup) (hs : ∀ x ∈ l, x ∈ r) (hl : r.length ≤ l.length) : ∀ x ∈ r, x ∈ l := by
 intro x hx
 rcases Classical.em (x ∈ l) with h | h
 ·exact h
 ·have := nodup_le (l := x :: l) (r := r) (List.nodup_cons.2 ⟨h, hn⟩) (fun y hy => by
   rcases List.mem_cons.1 hy with rfl | hy
   ·exact hx
   ·exact hs y hy)
  simp only [List.length_cons] at this; omega
theorem objs_spec {val : Ob → Bool} {ps cs : List (Int × Int)} : ∀ {l : List Ob} {prev : Option Int}, objsGo val ps cs prev l = true →
  (∀ o ∈ l, val o = true ∧ (lookI ps o.id).isSome = true ∧ ∀ p, prev = some p → p < o.id) ∧ (l.map (·.id)).Nodup
 | [], _, _ => ⟨by simp, by simp⟩
 | o :: r, prev, h => by
  simp only [objsGo, objBad, Bool.and_eq_true, Bool.not_eq_true', Bool.or_eq_false_iff, Bool.not_eq_false'] at h
  obtain ⟨⟨⟨⟨⟨h1, h2⟩, h3⟩, _⟩, _⟩, h6⟩ := h
  obtain ⟨k1, k2⟩ := objs_spec h6
  have hp : ∀ p, prev = some p → p < o.id := by
   rintro p rfl
   simp only [prevBad, decide_eq_false_iff_not] at h2
   omega
  refine ⟨?_, ?_⟩
  ·intro x hx
   rcases List.mem_cons.1 hx with rfl | hx
   ·refine ⟨h1, ?_, hp⟩
    cases hl : lookI ps x.id with
    | none => rw [hl] at h3; cases h3
    | some v => rfl
   ·obtain ⟨a1, a2, a3⟩ := k1 x hx
    exact ⟨a1, a2, fun p e => by have := a3 _ rfl; have := hp p e; omega⟩
  ·rw [List.map_cons, List.nodup_cons]
   refine ⟨?_, k2⟩
   intro hm
   obtain ⟨x, hx, e⟩ := List.mem_map.1 hm
   have := (k1 x hx).2.2 _ rfl
   omega
/-- The pairs' numbers are those of the objects. -/
theorem placed_ids {val : Ob → Bool} {b : Bd} (h : placedB val b = true) : ∀ x ∈ (pairsB b).map (·.1), ∃ o ∈ b.objs, o.id = x ∧ val o = true := by
 simp only [placedB, Bool.and_eq_true, decide_eq_true_eq] at h
 obtain ⟨_, h2, h3⟩ := h
 obtain ⟨k1, k2⟩ := objs_spec h2
 intro x hx
 have := nodup_back (l := b.objs.map (·.id)) (r := (pairsB b).map (·.1)) k2 (fun y hy => by
  obtain ⟨o, ho, rfl⟩ := List.mem_map.1 hy
  have := (k1 o ho).2.1
  rcases Classical.em (o.id ∈ (pairsB b).map (·.1)) with h | h
  ·exact h
  ·rw [lookI_none.2 h] at this; cases this) (by simp [h3]) x hx
 obtain ⟨o, ho, rfl⟩ := List.mem_map.1 this
 exact ⟨o, ho, rfl, (k1 o ho).1⟩
theorem validO_id {o : Ob} (h : validO o = true) : 1 ≤ o.id ∧ o.id ≤ 500 := by
 simp only [validO, Bool.and_eq_true, decide_eq_true_eq] at h
 exact ⟨h.1.2.1.1.1.2, h.1.2.1.1.2⟩
theorem placed_pos {b : Bd} (h : placedB validO b = true) : ∀ x, x ∈ b.s0.field ∨ x ∈ b.s1.field → 0 < x ∧ x ≤ 500 := by
 intro x hx
 obtain ⟨o, _, rfl, ho⟩ := placed_ids h x (by
  simp only [pairsB, pairsS, List.map_append, List.map_map, List.mem_append, List.mem_map, Function.comp]
  rcases hx with hx | hx
  ·left; right; right; left; exact ⟨x, hx, rfl⟩
  ·right; left; right; right; left; exact ⟨x, hx, rfl⟩)
 have := validO_id ho
 omega
def fightsBd (b : Bd) : Bool := if b.active = 0 then fightsB b.s0.field b.s1.field b.att b.blocks else fightsB b.s1.field b.s0.field b.att b.blocks
theorem c_fights {H : Heap} {O : Own} {v : BV12} {b : Bd} (h : BdR H O v b) (ha : b.active = 0 ∨ b.active = 1) (hp : ∀ x, x ∈ b.s0.field ∨ x ∈ b.s1.field → 0 < x ∧ x ≤ 500) :
  RetO PP F_board_fights [.agg (boardC v b).toArray] H O (.bool (fightsBd b)) := by
 refine run_board_fights (vs := boardC v b) (by kernel_rfl) (boardC_ones h) ?_
 simp only [T_board_fights]
 refine newbox_den fun r0 => chkN_den ?_
 have e34 : g (boardC v b) 34 = iV b.active := rfl
 rw [e34]
 have hs : ∀ n : Int, n = 0 ∨ n = 1 → evalPure (.bin .sub .int) [iV 1, iV n] = some (iV (1 - n)) := by
  rintro n (rfl | rfl) <;> rfl
 rcases ha with ha | ha
 ·rw [ha]
  refine ⟨.i64, 0, rfl, fun _ => chkN_den (chkN_den (pure_den _ (hs 0 (.inl rfl)) ⟨.i64, 1, rfl, fun e => absurd e (by omega), fun _ => ⟨.i64, 1, rfl, fun _ => ?_, fun e => absurd rfl e⟩⟩)), fun e => absurd rfl e⟩
  refine chkN_den ?_
  refine fights_den h.s0.field h.s1.field h.att h.blocks (fun x hx => (hp x (.inl hx)).1) (fun x hx => hp x (.inr hx)) ?_ ?_ ?_
  ·intros; simp [Eqs]
  ·intros; simp [Eqs]
  ·exact fun H' _ => ⟨by simp [fightsBd, ha], rfl⟩
 ·rw [ha]
  refine ⟨.i64, 1, rfl, fun e => absurd e (by omega), fun _ => ⟨.i64, 1, rfl, fun _ => chkN_den (chkN_den (pure_den _ (hs 1 (.inr rfl)) ⟨.i64, 0, rfl, fun _ => ?_, fun e => absurd rfl e⟩)), fun e => absurd rfl e⟩⟩
  refine chkN_den ?_
  refine fights_den h.s1.field h.s0.field h.att h.blocks (fun x hx => (hp x (.inr hx)).1) (fun x hx => hp x (.inl hx)) ?_ ?_ ?_
  ·intros; simp [Eqs]
  ·intros; simp [Eqs]
  ·exact fun H' _ => ⟨by simp [fightsBd, ha], rfl⟩
theorem notT {b : Bool} (h : (!b) = true) : b = false := by simpa using h
theorem notF {b : Bool} (h : (!b) = false) : b = true := by simpa using h
/-- Is a seat valid? -/
def seatOkB (s : St) : Bool := withinB s.life 0 9999 && (([s.p0, s.p1, s.p2, s.p3].all fun n => withinB n 0 99) && (withinB s.mull 0 7 && withinB s.acts 0 255))
def midBad (b : Bd) : Bool := ((!withinB b.passes 0 2 || decide ((b.objs.length : Int) > 500)) || decide ((b.stack.length : Int) > 200)) || decide ((b.queue.length : Int) > 200)
/-- Is a board valid? -/
def validBd (b : Bd) : Bool := withinB b.active 0 1 && (withinB b.turn 0 1000 && (withinB b.phase 0 10 && (withinB b.holder (-1) 1 && (!midBad b && (seatOkB b.s0 && (seatOkB b.s1 &&
 (!(b.stack.any fun x => !fineB x false) && (!(b.queue.any fun x => !fineB x true) && (placedB validO b && fightsBd b)))))))))
theorem c_board_Valid {H : Heap} {O : Own} {v : BV12} {b : Bd} (h : BdR H O v b) : RetO PP F_board_Valid [.agg (boardC v b).toArray] H O (.bool (validBd b)) := by
 refine run_board_Valid (vs := boardC v b) (by kernel_rfl) (boardC_ones h) ?_
 simp only [T_board_Valid]
 refine newbox_den fun r0 => ?_
 refine chkN_den (call_retO (c_within b.active 0 1 H O) rfl ⟨rfl, trivial⟩ fun H1 l1 => pure_den _ (not_eq' _) (br_den (fun hb => ret_denO ⟨?_, rfl⟩) (fun hb => ?_)))
 ·have kf : withinB b.active 0 1 = false := notT hb
  simp only [validBd, kf, Bool.true_and, Bool.false_and, Bool.and_false]
 have k1 : withinB b.active 0 1 = true := notF hb
 replace h := h.le l1
 clear hb
 refine chkN_den (call_retO (c_within b.turn 0 1000 H1 O) rfl ⟨rfl, trivial⟩ fun H2 l2 => pure_den _ (not_eq' _) (br_den (fun hb => ret_denO ⟨?_, rfl⟩) (fun hb => ?_)))
 ·have kf : withinB b.turn 0 1000 = false := notT hb
  simp only [validBd, k1, kf, Bool.true_and, Bool.false_and, Bool.and_false]
 have k2 : withinB b.turn 0 1000 = true := notF hb
 replace h := h.le l2
 clear hb
 refine chkN_den (call_retO (c_within b.phase 0 10 H2 O) rfl ⟨rfl, trivial⟩ fun H3 l3 => pure_den _ (not_eq' _) (br_den (fun hb => ret_denO ⟨?_, rfl⟩) (fun hb => ?_)))
 ·have kf : withinB b.phase 0 10 = false := notT hb
  simp only [validBd, k1, k2, kf, Bool.true_and, Bool.false_and, Bool.and_false]
 have k3 : withinB b.phase 0 10 = true := notF hb
 replace h := h.le l3
 clear hb
 refine chkN_den (call_retO (c_within b.holder (-1) 1 H3 O) rfl ⟨rfl, trivial⟩ fun H4 l4 => pure_den _ (not_eq' _) (br_den (fun hb => ret_denO ⟨?_, rfl⟩) (fun hb => ?_)))
 ·have kf : withinB b.holder (-1) 1 = false := notT hb
  simp only [validBd, k1, k2, k3, kf, Bool.true_and, Bool.false_and, Bool.and_false]
 have k4 : withinB b.holder (-1) 1 = true := notF hb
 replace h := h.le l4
 clear hb
 refine chkN_den (call_retO (c_within b.passes 0 2 H4 O) rfl ⟨rfl, trivial⟩ fun H5 l5 => pure_den _ (not_eq' _) ?_)
 replace h := h.le l5
 have lo := h.objs.len
 rw [List.length_map] at lo
 repeat (first | refine chkN_den ?_ | refine chkV_den ?_)
 refine pure_den _ (lo) (chkV_den (pure_den _ (gtr_eq _ _) (chkV_den (pure_den _ (pick_or _ _) ?_))))
 repeat (first | refine chkN_den ?_ | refine chkV_den ?_)
 refine pure_den _ (ItsR.len h.stack) (chkV_den (pure_den _ (gtr_eq _ _) (chkV_den (pure_den _ (pick_or _ _) ?_))))
 repeat (first | refine chkN_den ?_ | refine chkV_den ?_)
 refine pure_den _ (ItsR.len h.queue) (chkV_den (pure_den _ (gtr_eq _ _) (chkV_den (pure_den _ (pick_or _ _) ?_))))
 refine br_den (fun hb => ret_denO ⟨?_, rfl⟩) (fun hb => ?_)
 ·have kf : midBad b = true := hb
  simp only [validBd, k1, k2, k3, k4, kf, Bool.true_and, Bool.not_true, Bool.false_and]
 have kmid : midBad b = false := hb
 clear hb
 refine chkN_den (newbox_den fun r1 => chkN_den ?_)
 refine chkN_den (call_retO (c_within b.s0.life 0 9999 H5 O) rfl ⟨rfl, trivial⟩ fun H6 l6 => pure_den _ (not_eq' _) (br_den (fun hb => ret_denO ⟨?_, rfl⟩) (fun hb => ?_)))
 ·have kf : withinB b.s0.life 0 9999 = false := notT hb
  simp only [validBd, seatOkB, k1, k2, k3, k4, kmid, kf, Bool.true_and, Bool.false_and, Bool.and_false, Bool.not_false]
 have k6 : withinB b.s0.life 0 9999 = true := notF hb
 replace h := h.le l6
 clear hb
 refine chkN_den (call_retO (c_mana_Valid b.s0.p0 b.s0.p1 b.s0.p2 b.s0.p3 H6 O) rfl ⟨rfl, trivial⟩ fun H7 l7 => pure_den _ (not_eq' _) (br_den (fun hb => ret_denO ⟨?_, rfl⟩) (fun hb => ?_)))
 ·have kf : ([b.s0.p0, b.s0.p1, b.s0.p2, b.s0.p3].all fun n => withinB n 0 99) = false := notT hb
  simp only [validBd, seatOkB, k1, k2, k3, k4, kmid, k6, kf, Bool.true_and, Bool.false_and, Bool.and_false, Bool.not_false]
 have k7 : ([b.s0.p0, b.s0.p1, b.s0.p2, b.s0.p3].all fun n => withinB n 0 99) = true := notF hb
 replace h := h.le l7
 clear hb
 refine chkN_den (call_retO (c_within b.s0.mull 0 7 H7 O) rfl ⟨rfl, trivial⟩ fun H8 l8 => pure_den _ (not_eq' _) (br_den (fun hb => ret_denO ⟨?_, rfl⟩) (fun hb => ?_)))
 ·have kf : withinB b.s0.mull 0 7 = false := notT hb
  simp only [validBd, seatOkB, k1, k2, k3, k4, kmid, k6, k7, kf, Bool.true_and, Bool.false_and, Bool.and_false, Bool.not_false]
 have k8 : withinB b.s0.mull 0 7 = true := notF hb
 replace h := h.le l8
 clear hb
 refine chkN_den (call_retO (c_within b.s0.acts 0 255 H8 O) rfl ⟨rfl, trivial⟩ fun H9 l9 => pure_den _ (not_eq' _) (br_den (fun hb => ret_denO ⟨?_, rfl⟩) (fun hb => ?_)))
 ·have kf : withinB b.s0.acts 0 255 = false := notT hb
  simp only [validBd, seatOkB, k1, k2, k3, k4, kmid, k6, k7, k8, kf, Bool.true_and, Bool.false_and, Bool.and_false, Bool.not_false]
 have k9 : withinB b.s0.acts 0 255 = true := notF hb
 replace h := h.le l9
 clear hb
 refine newbox_den fun r2 => chkN_den ?_
 refine chkN_den (call_retO (c_within b.s1.life 0 9999 H9 O) rfl ⟨rfl, trivial⟩ fun H10 l10 => pure_den _ (not_eq' _) (br_den (fun hb => ret_denO ⟨?_, rfl⟩) (fun hb => ?_)))
 ·have kf : withinB b.s1.life 0 9999 = false := notT hb
  simp only [validBd, seatOkB, k1, k2, k3, k4, kmid, k6, k7, k8, k9, kf, Bool.true_and, Bool.false_and, Bool.and_false, Bool.not_false]
 have k10 : withinB b.s1.life 0 9999 = true := notF hb
 replace h := h.le l10
 clear hb
 refine chkN_den (call_retO (c_mana_Valid b.s1.p0 b.s1.p1 b.s1.p2 b.s1.p3 H10 O) rfl ⟨rfl, trivial⟩ fun H11 l11 => pure_den _ (not_eq' _) (br_den (fun hb => ret_denO ⟨?_, rfl⟩) (fun hb => ?_)))
 ·have kf : ([b.s1.p0, b.s1.p1, b.s1.p2, b.s1.p3].all fun n => withinB n 0 99) = false := notT hb
  simp only [validBd, seatOkB, k1, k2, k3, k4, kmid, k6, k7, k8, k9, k10, kf, Bool.true_and, Bool.false_and, Bool.and_false, Bool.not_false]
 have k11 : ([b.s1.p0, b.s1.p1, b.s1.p2, b.s1.p3].all fun n => withinB n 0 99) = true := notF hb
 replace h := h.le l11
 clear hb
 refine chkN_den (call_retO (c_within b.s1.mull 0 7 H11 O) rfl ⟨rfl, trivial⟩ fun H12 l12 => pure_den _ (not_eq' _) (br_den (fun hb => ret_denO ⟨?_, rfl⟩) (fun hb => ?_)))
 ·have kf : withinB b.s1.mull 0 7 = false := notT hb
  simp only [validBd, seatOkB, k1, k2, k3, k4, kmid, k6, k7, k8, k9, k10, k11, kf, Bool.true_and, Bool.false_and, Bool.and_false, Bool.not_false]
 have k12 : withinB b.s1.mull 0 7 = true := notF hb
 replace h := h.le l12
 clear hb
 refine chkN_den (call_retO (c_within b.s1.acts 0 255 H12 O) rfl ⟨rfl, trivial⟩ fun H13 l13 => pure_den _ (not_eq' _) (br_den (fun hb => ret_denO ⟨?_, rfl⟩) (fun hb => ?_)))
 ·have kf : withinB b.s1.acts 0 255 = false := notT hb
  simp only [validBd, seatOkB, k1, k2, k3, k4, kmid, k6, k7, k8, k9, k10, k11, k12, kf, Bool.true_and, Bool.false_and, Bool.and_false, Bool.not_false]
 have k13 : withinB b.s1.acts 0 255 = true := notF hb
 replace h := h.le l13
 clear hb
 refine chkN_den (call_retO (c_ContainsFunc_Item (p := fun x => !fineB x false) h.stack rfl (okFn_of okL_ok (by decide)) fun H' _ row x hx => c_Valid_1 hx) rfl ⟨rfl, trivial⟩ fun H20 l20 => br_den (fun hb => ret_denO ⟨?_, rfl⟩) (fun hb => ?_))
 ·simp only [validBd, seatOkB, k1, k2, k3, k4, kmid, k6, k7, k8, k9, k10, k11, k12, k13, hb, Bool.true_and, Bool.not_true, Bool.not_false, Bool.false_and]
 replace h := h.le l20
 refine chkN_den (call_retO (c_ContainsFunc_Item (p := fun x => !fineB x true) h.queue rfl (okFn_of okL_ok (by decide)) fun H' _ row x hx => c_Valid_2 hx) rfl ⟨rfl, trivial⟩ fun H21 l21 => pure_den _ (not_eq' _) (br_den (fun hq => ?_) (fun hq => ret_denO ⟨?_, rfl⟩)))
 ·replace h := h.le l21
  simp only [Bool.not_eq_true'] at hq
  have hfin : validBd b = (placedB validO b && fightsBd b) := by simp only [validBd, seatOkB, k1, k2, k3, k4, kmid, k6, k7, k8, k9, k10, k11, k12, k13, hb, hq, Bool.true_and, Bool.not_false]
  refine chkN_den (call_retO (c_placed h) rfl ⟨rfl, trivial⟩ fun H22 l22 => br_den (fun hp => ?_) (fun hp => ret_denO ⟨?_, rfl⟩))
  ·replace h := h.le l22
   have ha : b.active = 0 ∨ b.active = 1 := by have := k1; simp only [withinB, decide_eq_true_eq] at this; omega
   refine chkN_den (call_retO (c_fights h ha (placed_pos hp)) rfl ⟨rfl, trivial⟩ fun H23 l23 => ret_denO ⟨?_, rfl⟩)
   rw [hfin, hp, Bool.true_and]; rfl
  ·rw [hfin, hp]; rfl
 ·simp only [Bool.not_eq_false'] at hq
  simp only [validBd, seatOkB, k1, k2, k3, k4, kmid, k6, k7, k8, k9, k10, k11, k12, k13, hb, hq, Bool.true_and, Bool.not_false, Bool.not_true, Bool.false_and]
end Go.Proofs.YtieaihgbjikggaaGreat
namespace Go.Proofs.YtieaihgbjikggaaGreat
open Go Go.Sx
set_option maxRecDepth 100000
set_option maxHeartbeats 1000000
theorem boolV {a b : Bool} (h : a = true ↔ b = true) : (Value.bool a : Value) = .bool b := by rw [Bool.eq_iff_iff.2 h]
theorem r_Small (n : Int) (H : Heap) (O : Own) : RetO PP F_zeitnotref14_Small [iV n] H O (.bool (withinB n 0 99)) := by
 refine run_zeitnotref14_Small (vs := [iV n]) (by kernel_rfl) ⟨rfl, trivial⟩ ?_
 simp only [T_zeitnotref14_Small]
 repeat (first | refine chkN_den ?_ | refine chkV_den ?_ | refine newbox_den fun _ => ?_ | refine pure_den _ (lss_eq _ _) ?_ | refine pure_den _ (gtr_eq _ _) ?_ | refine pure_den _ (leq_eq _ _) ?_ | refine pure_den _ (geq_eq _ _) ?_ | refine pure_den _ (eql_eq _ _) ?_ | refine pure_den _ (neq_eq _ _) ?_ | refine pure_den _ (pick_and _ _) ?_ | refine pure_den _ (pick_or _ _) ?_ | refine pure_den _ (not_eq' _) ?_ | refine pure_den _ (beql_eq _ _) ?_ | refine pure_den _ (bneq_eq _ _) ?_)
 refine ret_denO ⟨boolV ?_, rfl⟩
 simp [withinB]
theorem validO_iff (o : Ob) : validO o = true ↔ ((0 ≤ o.power ∧ o.power ≤ 99) ∧ (0 ≤ o.tough ∧ o.tough ≤ 99) ∧ (0 ≤ o.dmg ∧ o.dmg ≤ 99) ∧ (0 ≤ o.cnt ∧ o.cnt ≤ 99) ∧ (0 ≤ o.pp ∧ o.pp ≤ 99) ∧ (0 ≤ o.pt ∧ o.pt ≤ 99)) ∧
  (o.card = -1 ∨ (o.power = 0 ∧ o.tough = 0)) ∧ 1 ≤ o.id ∧ o.id ≤ 500 ∧ -1 ≤ o.card ∧ o.card < 400 ∧ (o.owner = 0 ∨ o.owner = 1) := by
 simp only [validO, withinB, List.all_cons, List.all_nil, Bool.and_true, Bool.and_eq_true, Bool.or_eq_true, decide_eq_true_eq, beq_iff_eq, ge_iff_le]
 omega
theorem r_object_Valid (o : Ob) (H : Heap) (O : Own) : RetO PP F_zeitnotref14_Valid [.agg o.row.toArray] H O (.bool (validO o)) := by
 refine run_zeitnotref14_Valid (vs := o.row) (by kernel_rfl) (by simp [Ob.row, Ones, Value.oneCell']) ?_
 simp only [T_zeitnotref14_Valid]
 repeat (first | refine chkN_den ?_ | refine chkV_den ?_ | refine newbox_den fun _ => ?_ | refine pure_den _ (lss_eq _ _) ?_ | refine pure_den _ (gtr_eq _ _) ?_ | refine pure_den _ (leq_eq _ _) ?_ | refine pure_den _ (geq_eq _ _) ?_ | refine pure_den _ (eql_eq _ _) ?_ | refine pure_den _ (neq_eq _ _) ?_ | refine pure_den _ (pick_and _ _) ?_ | refine pure_den _ (pick_or _ _) ?_ | refine pure_den _ (not_eq' _) ?_ | refine pure_den _ (beql_eq _ _) ?_ | refine pure_den _ (bneq_eq _ _) ?_)
 refine br_den (fun h1 => ret_denO ⟨boolV ?_, rfl⟩) (fun h1 => ?_)
 ·rw [validO_iff]; simp at h1 ⊢; omega
 repeat (first | refine chkN_den ?_ | refine chkV_den ?_ | refine newbox_den fun _ => ?_ | refine pure_den _ (lss_eq _ _) ?_ | refine pure_den _ (gtr_eq _ _) ?_ | refine pure_den _ (leq_eq _ _) ?_ | refine pure_den _ (geq_eq _ _) ?_ | refine pure_den _ (eql_eq _ _) ?_ | refine pure_den _ (neq_eq _ _) ?_ | refine pure_den _ (pick_and _ _) ?_ | refine pure_den _ (pick_or _ _) ?_ | refine pure_den _ (not_eq' _) ?_ | refine pure_den _ (beql_eq _ _) ?_ | refine pure_den _ (bneq_eq _ _) ?_)
 refine br_den (fun h2 => ret_denO ⟨boolV ?_, rfl⟩) (fun h2 => ?_)
 ·rw [validO_iff]; simp at h1 h2 ⊢; omega
 have key : ∀ (x : Bool), (x = true ↔ ((0 ≤ o.power ∧ o.power ≤ 99) ∧ (0 ≤ o.tough ∧ o.tough ≤ 99) ∧ (0 ≤ o.dmg ∧ o.dmg ≤ 99) ∧ (0 ≤ o.cnt ∧ o.cnt ≤ 99) ∧ (0 ≤ o.pp ∧ o.pp ≤ 99) ∧ (0 ≤ o.pt ∧ o.pt ≤ 99))) → (Value.bool x : Value) = .bool (validO o) := by
  intro x hx
  refine boolV ?_
  rw [hx, validO_iff]
  simp at h1 h2 ⊢; omega
 refine chkN_den (call_retO (r_Small o.power H O) rfl ⟨rfl, trivial⟩ fun H1 _ => br_den (fun k1 => ?_) (fun k1 => ret_denO ⟨key _ ?_, rfl⟩))
 rotate_left
 ·simp [withinB] at k1 ⊢; omega
 refine chkN_den (call_retO (r_Small o.tough H1 O) rfl ⟨rfl, trivial⟩ fun H2 _ => br_den (fun k2 => ?_) (fun k2 => ret_denO ⟨key _ ?_, rfl⟩))
 rotate_left
 ·simp [withinB] at k2 ⊢; omega
 refine chkN_den (call_retO (r_Small o.dmg H2 O) rfl ⟨rfl, trivial⟩ fun H3 _ => br_den (fun k3 => ?_) (fun k3 => ret_denO ⟨key _ ?_, rfl⟩))
 rotate_left
 ·simp [withinB] at k3 ⊢; omega
 refine chkN_den (call_retO (r_Small o.cnt H3 O) rfl ⟨rfl, trivial⟩ fun H4 _ => br_den (fun k4 => ?_) (fun k4 => ret_denO ⟨key _ ?_, rfl⟩))
 rotate_left
 ·simp [withinB] at k4 ⊢; omega
 refine chkN_den (call_retO (r_Small o.pp H4 O) rfl ⟨rfl, trivial⟩ fun H5 _ => br_den (fun k5 => ?_) (fun k5 => ret_denO ⟨key _ ?_, rfl⟩))
 rotate_left
 ·simp [withinB] at k5 ⊢; omega
 refine chkN_den (call_retO (r_Small o.pt H5 O) rfl ⟨rfl, trivial⟩ fun H6 _ => ret_denO ⟨key _ ?_, rfl⟩)
 simp [withinB] at k1 k2 k3 k4 k5 ⊢; omega
theorem r_seat {vl vh vf vg : Value} (s : St) (hl : vl.oneCell' = true) (hh : vh.oneCell' = true) (hf : vf.oneCell' = true) (hg : vg.oneCell' = true) (H : Heap) (O : Own) :
  RetO PP F_zeitnotref15_seat [.agg (seatC vl vh vf vg s).toArray] H O (.bool (seatOkB s)) := by
 refine run_zeitnotref15_seat (vs := seatC vl vh vf vg s) (by kernel_rfl) ⟨rfl, rfl, rfl, rfl, rfl, hl, hh, hf, hg, rfl, rfl, rfl, rfl, rfl, trivial⟩ ?_
 simp only [T_zeitnotref15_seat]
 have key : ∀ (x : Bool), (x = true ↔ ((0 ≤ s.life ∧ s.life ≤ 9999) ∧ (0 ≤ s.p0 ∧ s.p0 ≤ 99) ∧ (0 ≤ s.p1 ∧ s.p1 ≤ 99) ∧ (0 ≤ s.p2 ∧ s.p2 ≤ 99) ∧ (0 ≤ s.p3 ∧ s.p3 ≤ 99) ∧ (0 ≤ s.mull ∧ s.mull ≤ 7) ∧ (0 ≤ s.acts ∧ s.acts ≤ 255))) → (Value.bool x : Value) = .bool (seatOkB s) := by
  intro x hx
  refine boolV ?_
  rw [hx]
  simp only [seatOkB, withinB, List.all_cons, List.all_nil, Bool.and_true, Bool.and_eq_true, decide_eq_true_eq]
  omega
 repeat (first | refine chkN_den ?_ | refine chkV_den ?_ | refine newbox_den fun _ => ?_ | refine pure_den _ (lss_eq _ _) ?_ | refine pure_den _ (gtr_eq _ _) ?_ | refine pure_den _ (leq_eq _ _) ?_ | refine pure_den _ (geq_eq _ _) ?_ | refine pure_den _ (eql_eq _ _) ?_ | refine pure_den _ (neq_eq _ _) ?_ | refine pure_den _ (pick_and _ _) ?_ | refine pure_den _ (pick_or _ _) ?_ | refine pure_den _ (not_eq' _) ?_ | refine pure_den _ (beql_eq _ _) ?_ | refine pure_den _ (bneq_eq _ _) ?_)
 refine br_den (fun h1 => ret_denO ⟨key _ ?_, rfl⟩) (fun h1 => ?_)
 ·simp at h1 ⊢; omega
 repeat (first | refine chkN_den ?_ | refine chkV_den ?_ | refine newbox_den fun _ => ?_ | refine pure_den _ (lss_eq _ _) ?_ | refine pure_den _ (gtr_eq _ _) ?_ | refine pure_den _ (leq_eq _ _) ?_ | refine pure_den _ (geq_eq _ _) ?_ | refine pure_den _ (eql_eq _ _) ?_ | refine pure_den _ (neq_eq _ _) ?_ | refine pure_den _ (pick_and _ _) ?_ | refine pure_den _ (pick_or _ _) ?_ | refine pure_den _ (not_eq' _) ?_ | refine pure_den _ (beql_eq _ _) ?_ | refine pure_den _ (bneq_eq _ _) ?_)
 refine br_den (fun h2 => ret_denO ⟨key _ ?_, rfl⟩) (fun h2 => ?_)
 ·simp at h2 ⊢; omega
 repeat (first | refine chkN_den ?_ | refine chkV_den ?_ | refine newbox_den fun _ => ?_ | refine pure_den _ (lss_eq _ _) ?_ | refine pure_den _ (gtr_eq _ _) ?_ | refine pure_den _ (leq_eq _ _) ?_ | refine pure_den _ (geq_eq _ _) ?_ | refine pure_den _ (eql_eq _ _) ?_ | refine pure_den _ (neq_eq _ _) ?_ | refine pure_den _ (pick_and _ _) ?_ | refine pure_den _ (pick_or _ _) ?_ | refine pure_den _ (not_eq' _) ?_ | refine pure_den _ (beql_eq _ _) ?_ | refine pure_den _ (bneq_eq _ _) ?_)
 refine br_den (fun h3 => ret_denO ⟨key _ ?_, rfl⟩) (fun h3 => ?_)
 ·simp at h3 ⊢; omega
 repeat (first | refine chkN_den ?_ | refine chkV_den ?_ | refine newbox_den fun _ => ?_ | refine pure_den _ (lss_eq _ _) ?_ | refine pure_den _ (gtr_eq _ _) ?_ | refine pure_den _ (leq_eq _ _) ?_ | refine pure_den _ (geq_eq _ _) ?_ | refine pure_den _ (eql_eq _ _) ?_ | refine pure_den _ (neq_eq _ _) ?_ | refine pure_den _ (pick_and _ _) ?_ | refine pure_den _ (pick_or _ _) ?_ | refine pure_den _ (not_eq' _) ?_ | refine pure_den _ (beql_eq _ _) ?_ | refine pure_den _ (bneq_eq _ _) ?_)
 refine br_den (fun h4 => ret_denO ⟨key _ ?_, rfl⟩) (fun h4 => ?_)
 ·simp at h4 ⊢; omega
 repeat (first | refine chkN_den ?_ | refine chkV_den ?_ | refine newbox_den fun _ => ?_ | refine pure_den _ (lss_eq _ _) ?_ | refine pure_den _ (gtr_eq _ _) ?_ | refine pure_den _ (leq_eq _ _) ?_ | refine pure_den _ (geq_eq _ _) ?_ | refine pure_den _ (eql_eq _ _) ?_ | refine pure_den _ (neq_eq _ _) ?_ | refine pure_den _ (pick_and _ _) ?_ | refine pure_den _ (pick_or _ _) ?_ | refine pure_den _ (not_eq' _) ?_ | refine pure_den _ (beql_eq _ _) ?_ | refine pure_den _ (bneq_eq _ _) ?_)
 refine ret_denO ⟨key _ ?_, rfl⟩
 simp at h1 h2 h3 h4 ⊢; omega
end Go.Proofs.YtieaihgbjikggaaGreat
namespace Go.Proofs.YtieaihgbjikggaaGreat
open Go Go.Sx
set_option maxRecDepth 100000
set_option maxHeartbeats 1000000
/-- A loop whose second number counts up to n, beside another value. -/
abbrev IY (n : Nat) (R : Nat → Value → Heap → Own → Prop) : List Value → Heap → Own → Prop := fun vs H O => ∃ (i : Nat) (x : Value), vs = [x, iV i] ∧ i ≤ n ∧ R i x H O
abbrev MY (n : Nat) : List Value → Heap → Own → Nat := fun vs _ _ => match g vs 1 with | .int _ k => n - k.toNat | _ => 0
theorem countY_den {P : Program} {lab key : Nat} {x0 : Value} {body : (List Value → Heap → Own → Prop) → List Value → Tree} {H : Heap} {O : Own} {Q : Value → Heap → Own → Prop} (n : Nat) (R : Nat → Value → Heap → Own → Prop)
  (h0 : R 0 x0 H O) (step : ∀ i x H' O', i ≤ n → Heap.le H H' → R i x H' O' → (body (Back (IY n R) (MY n) (n - i)) [x, iV i]).den P Q H' O') :
  (Tree.loop lab key [x0, .int .i64 0] body).den P Q H O := by
 refine loop_den (IY n R) (MY n) ⟨0, x0, rfl, Nat.zero_le _, h0⟩ ?_
 rintro vs H' O' _ _ hle ⟨i, x, rfl, hi, hr⟩
 exact step i x H' O' hi hle hr
theorem countY_cont {P : Program} {lab n i : Nat} {R : Nat → Value → Heap → Own → Prop} {x : Value} {eqs : List (List Value × List Value)} {H : Heap} {O : Own} {Q : Value → Heap → Own → Prop} (he : Eqs eqs) (hi : i < n) (hr : R (i + 1) x H O) :
  (Tree.cont lab (Back (IY n R) (MY n) (n - i)) [x, iV ((i + 1 : Nat) : Int)] eqs).den P Q H O := by
 refine cont_den he ⟨i + 1, x, rfl, hi, hr⟩ ?_
 show n - ((i + 1 : Nat) : Int).toNat < n - i
 simp; omega
theorem take_count {α : Type} [BEq α] [LawfulBEq α] {l : List α} {i : Nat} (h : i < l.length) (n : α) : (l.take (i + 1)).count n = (l.take i).count n + (if l[i] == n then 1 else 0) := by
 rw [List.take_add_one, List.getElem?_eq_getElem h, Option.toList_some, List.count_append, List.count_singleton]
theorem r_Count {H : Heap} {O : Own} {v : Value} {l : List Int} (h : RSl H O 1 v (ints l)) (n : Int) : RetO PP F_zeitnotref15_Count [v, iV n] H O (iV ((l.count n : Nat) : Int)) := by
 refine run_zeitnotref15_Count (vs := [v, iV n]) (by kernel_rfl) ⟨h.one, rfl, trivial⟩ ?_
 simp only [T_zeitnotref15_Count]
 have hlen := h.len
 rw [ints, List.length_map] at hlen
 have hB := h.lenB
 simp only [ints, List.length_map] at hB
 refine countY_den l.length (fun i x H' O' => O' = O ∧ Heap.le H H' ∧ x = iV (((l.take i).count n : Nat) : Int)) ⟨rfl, Heap.le_refl H, by simp⟩ ?_
 rintro i x H' O' hi - ⟨rfl, hle, rfl⟩
 have hci : (l.take i).count n ≤ i := Nat.le_trans List.count_le_length (by simp; omega)
 refine pure_den _ hlen (pure_den _ (lss_eq _ _) (br_den (fun hb => ?_) (fun hb => ?_)))
 ·have hlt : i < l.length := by simpa using hb
  obtain ⟨a, h1, h2, _, h3, h4⟩ := (h.le hle).idx .i64 i [iV l[i]] (by simp [ints, hlt])
  refine pure_den _ h1 (load_denR h2 h3 h4 (pure_den _ (eql_eq _ _) (br_den (fun hb => ?_) (fun hb => ?_))))
  ·refine pure_den _ (add_one (by omega)) (pure_den _ (add_one (by omega)) (countY_cont (by simp [Eqs]) hlt ⟨rfl, hle, ?_⟩))
   rw [take_count hlt, hb]; rfl
  ·refine pure_den _ (add_one (by omega)) (countY_cont (by simp [Eqs]) hlt ⟨rfl, hle, ?_⟩)
   rw [take_count hlt, hb]; rfl
 ·have : l.length ≤ i := by simpa using hb
  refine ret_denO ⟨?_, rfl⟩
  rw [List.take_of_length_le this]; rfl
def idxO (b : Bd) (id : Int) : Int := idxP (fun o => o.id == id) b.objs 0
theorem r_Index {H : Heap} {O : Own} {v : BV12} {b : Bd} (h : BdR H O v b) (id : Int) : RetO PP F_zeitnotref15_Index [.agg (boardC v b).toArray, iV id] H O (iV (idxO b id)) := by
 refine run_zeitnotref15_Index (vs := boardC v b ++ [iV id]) (by kernel_rfl) (ones_app (boardC_ones h) ⟨rfl, trivial⟩) ?_
 simp only [T_zeitnotref15_Index]
 have lo := h.objs.len
 have hB := h.objs.lenB
 rw [List.length_map] at lo hB
 refine newbox_den fun r0 => count_den b.objs.length (fun i H' O' => O' = O ∧ Heap.le H H' ∧ idxO b id = idxP (fun o => o.id == id) (b.objs.drop i) i) ⟨rfl, Heap.le_refl H, by simp [idxO]⟩ ?_
 rintro i H' O' hi - ⟨rfl, hle, hor⟩
 refine chkN_den (pure_den _ lo (pure_den _ (lss_eq _ _) (br_den (fun hb => ?_) (fun hb => ?_))))
 ·have hlt : i < b.objs.length := by simpa using hb
  obtain ⟨a, h1, h2, h5, h3, h4⟩ := (h.objs.le hle).idx .i64 i (Ob.row b.objs[i]) (by simp [hlt])
  have hr : Reads H' O' (.pointer (some a)) 1 [iV b.objs[i].id] := by
   have := h5 0 1 (by omega)
   have e : ptrAdd (.pointer (some a)) 0 = .pointer (some a) := by simp [ptrAdd, Addr.add]
   rwa [e] at this
  refine chkN_den (pure_den _ h1 (chkP_den rfl (load_denR hr rfl ⟨rfl, trivial⟩ (pure_den _ (eql_eq _ _) (br_den (fun hb => ?_) (fun hb => ?_))))))
  ·refine ret_denO ⟨?_, rfl⟩
   rw [hor, List.drop_eq_getElem_cons hlt, idxP, if_pos hb]; rfl
  ·refine pure_den _ (add_one (by omega)) (count_cont (by simp [Eqs]) hlt ⟨rfl, hle, ?_⟩)
   rw [hor, List.drop_eq_getElem_cons hlt, idxP, if_neg (by rw [hb]; simp)]; rfl
 ·have hge : b.objs.length ≤ i := by simpa using hb
  refine ret_denO ⟨?_, rfl⟩
  rw [hor, List.drop_of_length_le hge]; rfl
theorem r_Item {H : Heap} {O : Own} {row : List Value} {x : It} (h : ItR H O row x) (q : Bool) : RetO PP F_zeitnotref15_Item [.agg row.toArray, .bool q] H O (.bool (fineB x q)) := by
 obtain ⟨s, rfl, hs⟩ := h
 refine run_zeitnotref15_Item (vs := [iV x.player, iV x.id, iV x.card, iV x.trig, s, .bool q]) (by kernel_rfl) ⟨rfl, rfl, rfl, rfl, hs.one, rfl, trivial⟩ ?_
 simp only [T_zeitnotref15_Item]
 have lt := hs.len
 have hB := hs.lenB
 rw [List.length_map] at lt hB
 have e4 : ∀ {k : Value → Tree} {Q : Value → Heap → Own → Prop} {H' : Heap} {O' : Own}, (k (iV x.tgs.length)).den PP Q H' O' → (Tree.pure [] .len [g [iV x.player, iV x.id, iV x.card, iV x.trig, s, Value.bool q] 4] k).den PP Q H' O' := fun hk => pure_den _ lt hk
 repeat (first | refine chkN_den ?_ | refine chkV_den ?_ | refine newbox_den fun _ => ?_ | refine pure_den _ (lss_eq _ _) ?_ | refine pure_den _ (gtr_eq _ _) ?_ | refine pure_den _ (leq_eq _ _) ?_ | refine pure_den _ (geq_eq _ _) ?_ | refine pure_den _ (eql_eq _ _) ?_ | refine pure_den _ (neq_eq _ _) ?_ | refine pure_den _ (pick_and _ _) ?_ | refine pure_den _ (pick_or _ _) ?_ | refine pure_den _ (not_eq' _) ?_ | refine pure_den _ (beql_eq _ _) ?_ | refine pure_den _ (bneq_eq _ _) ?_)
 refine e4 ?_
 repeat (first | refine chkN_den ?_ | refine chkV_den ?_ | refine newbox_den fun _ => ?_ | refine pure_den _ (lss_eq _ _) ?_ | refine pure_den _ (gtr_eq _ _) ?_ | refine pure_den _ (leq_eq _ _) ?_ | refine pure_den _ (geq_eq _ _) ?_ | refine pure_den _ (eql_eq _ _) ?_ | refine pure_den _ (neq_eq _ _) ?_ | refine pure_den _ (pick_and _ _) ?_ | refine pure_den _ (pick_or _ _) ?_ | refine pure_den _ (not_eq' _) ?_ | refine pure_den _ (beql_eq _ _) ?_ | refine pure_den _ (bneq_eq _ _) ?_)
 have fiff : fineB x q = true ↔ (0 ≤ x.player ∧ x.player ≤ 1) ∧ (1 ≤ x.id ∧ x.id ≤ 500) ∧ (0 ≤ x.card ∧ x.card ≤ 399) ∧ (-1 ≤ x.trig ∧ x.trig ≤ 1) ∧ (x.tgs.length ≤ 4 ∧ ¬ (0 ≤ x.trig ∧ 0 < x.tgs.length) ∧ ¬ (q = true ∧ x.trig < 0)) ∧ (x.tgs.any fun t => !aimedB t) = false := by
  simp only [fineB, withinB, Bool.and_eq_true, Bool.not_eq_true', Bool.or_eq_false_iff, Bool.and_eq_false_iff, decide_eq_true_eq, decide_eq_false_iff_not]
  generalize (x.tgs.any fun t => !aimedB t) = c
  cases q <;> simp only [Bool.false_eq_true, false_and, true_and, not_false_eq_true, and_true, reduceCtorEq, or_false, false_or, true_or] <;> constructor <;> intro e <;> (try obtain ⟨e1, e2, e3, e4, e5, e6⟩ := e) <;> (try refine ⟨?_, ?_, ?_, ?_, ?_, ?_⟩) <;> first | omega | assumption
 refine br_den (fun h1 => ret_denO ⟨boolV ?_, rfl⟩) (fun h1 => ?_)
 ·rw [fiff]
  simp only [Bool.or_eq_true, decide_eq_true_eq] at h1
  refine ⟨fun e => (by cases e), fun ⟨e1, e2, e3, e4, e5, e6⟩ => ?_⟩
  omega
 simp only [Bool.or_eq_false_iff, decide_eq_false_iff_not] at h1
 repeat (first | refine chkN_den ?_ | refine chkV_den ?_ | refine newbox_den fun _ => ?_ | refine pure_den _ (lss_eq _ _) ?_ | refine pure_den _ (gtr_eq _ _) ?_ | refine pure_den _ (leq_eq _ _) ?_ | refine pure_den _ (geq_eq _ _) ?_ | refine pure_den _ (eql_eq _ _) ?_ | refine pure_den _ (neq_eq _ _) ?_ | refine pure_den _ (pick_and _ _) ?_ | refine pure_den _ (pick_or _ _) ?_ | refine pure_den _ (not_eq' _) ?_ | refine pure_den _ (beql_eq _ _) ?_ | refine pure_den _ (bneq_eq _ _) ?_)
 refine e4 ?_
 repeat (first | refine chkN_den ?_ | refine chkV_den ?_ | refine newbox_den fun _ => ?_ | refine pure_den _ (lss_eq _ _) ?_ | refine pure_den _ (gtr_eq _ _) ?_ | refine pure_den _ (leq_eq _ _) ?_ | refine pure_den _ (geq_eq _ _) ?_ | refine pure_den _ (eql_eq _ _) ?_ | refine pure_den _ (neq_eq _ _) ?_ | refine pure_den _ (pick_and _ _) ?_ | refine pure_den _ (pick_or _ _) ?_ | refine pure_den _ (not_eq' _) ?_ | refine pure_den _ (beql_eq _ _) ?_ | refine pure_den _ (bneq_eq _ _) ?_)
 refine br_den (fun h2 => ret_denO ⟨boolV ?_, rfl⟩) (fun h2 => ?_)
 ·rw [fiff]
  simp only [Bool.or_eq_true, Bool.and_eq_true, decide_eq_true_eq] at h2
  refine ⟨fun e => (by cases e), fun ⟨e1, e2, e3, e4, ⟨e5, e6, e7⟩, e8⟩ => ?_⟩
  rcases h2 with h2 | h2
  ·omega
  ·exact absurd h2 e7
 simp only [Bool.or_eq_false_iff, Bool.and_eq_false_iff, decide_eq_false_iff_not] at h2
 have hfin : (Value.bool (!(x.tgs.any fun t => !aimedB t)) : Value) = .bool (fineB x q) := by
  refine boolV ?_
  rw [fiff, Bool.not_eq_true']
  refine ⟨fun e => ⟨by omega, by omega, by omega, by omega, ⟨by omega, by omega, fun e' => ?_⟩, e⟩, fun e => e.2.2.2.2.2⟩
  rcases h2.2 with h3 | h3
  ·rw [h3] at e'; cases e'.1
  ·exact h3 e'.2
 refine count_den x.tgs.length (fun i H' O' => O' = O ∧ Heap.le H H' ∧ (x.tgs.any fun t => !aimedB t) = ((x.tgs.drop i).any fun t => !aimedB t)) ⟨rfl, Heap.le_refl H, rfl⟩ ?_
 rintro i H' O' hi - ⟨rfl, hle, hor⟩
 refine chkN_den (e4 (pure_den _ (lss_eq _ _) (br_den (fun hb => ?_) (fun hb => ?_))))
 ·have hlt : i < x.tgs.length := by simpa using hb
  obtain ⟨a, k1, k2, _, k3, k4⟩ := (hs.le hle).idx .i64 i (Tg.row x.tgs[i]) (by simp [hlt])
  refine chkN_den (pure_den _ k1 (load_denR k2 k3 k4 ?_))
  repeat (first | refine chkN_den ?_ | refine chkV_den ?_ | refine newbox_den fun _ => ?_ | refine pure_den _ (lss_eq _ _) ?_ | refine pure_den _ (gtr_eq _ _) ?_ | refine pure_den _ (leq_eq _ _) ?_ | refine pure_den _ (geq_eq _ _) ?_ | refine pure_den _ (eql_eq _ _) ?_ | refine pure_den _ (neq_eq _ _) ?_ | refine pure_den _ (pick_and _ _) ?_ | refine pure_den _ (pick_or _ _) ?_ | refine pure_den _ (not_eq' _) ?_ | refine pure_den _ (beql_eq _ _) ?_ | refine pure_den _ (bneq_eq _ _) ?_)
  have hst : ((x.tgs.drop i).any fun t => !aimedB t) = (!aimedB x.tgs[i] || ((x.tgs.drop (i + 1)).any fun t => !aimedB t)) := by rw [List.drop_eq_getElem_cons hlt, List.any_cons]
  refine br_den (fun hb => ret_denO ⟨?_, rfl⟩) (fun hb => ?_)
  ·have : aimedB x.tgs[i] = false := by simp [aimedB, withinB] at hb ⊢; omega
   rw [← hfin, hor, hst, this]; rfl
  ·have : aimedB x.tgs[i] = true := by simp [aimedB, withinB] at hb ⊢; omega
   refine pure_den _ (add_one (by omega)) (count_cont (by simp [Eqs]) hlt ⟨rfl, hle, ?_⟩)
   rw [hor, hst, this]; rfl
 ·have hge : x.tgs.length ≤ i := by simpa using hb
  refine ret_denO ⟨?_, rfl⟩
  rw [← hfin, hor, List.drop_of_length_le hge]; rfl
end Go.Proofs.YtieaihgbjikggaaGreat
namespace Go.Proofs.YtieaihgbjikggaaGreat
open Go Go.Sx
set_option maxRecDepth 100000
set_option maxHeartbeats 1000000
/-- No list of a board is longer than this. -/
def stFit (s : St) : Prop := s.lib.length ≤ 100000 ∧ s.hand.length ≤ 100000 ∧ s.field.length ≤ 100000 ∧ s.grave.length ≤ 100000
def bdFit (b : Bd) : Prop := stFit b.s0 ∧ stFit b.s1 ∧ b.stack.length ≤ 100000
def onStack (p id : Int) (x : It) : Bool := (x.trig == -1 && x.id == id) && x.player == p
def zonesN (s : St) (id : Int) : Nat := ((s.lib.count id + s.hand.count id) + s.field.count id) + s.grave.count id
def placesN (b : Bd) (p id : Int) : Nat := (if p = 0 then zonesN b.s0 id else zonesN b.s1 id) + b.stack.countP (onStack p id)
theorem take_countP {α : Type} {l : List α} {i : Nat} (h : i < l.length) (p : α → Bool) : (l.take (i + 1)).countP p = (l.take i).countP p + (if p l[i] then 1 else 0) := by
 rw [List.take_add_one, List.getElem?_eq_getElem h, Option.toList_some, List.countP_append, List.countP_singleton]
theorem add_nat0 {n : Nat} (h : n < 2 ^ 63) : evalPure (.bin .add .int) [iV 0, iV (n : Int)] = some (iV (n : Int)) := by
 have := add_nat (i := 0) (n := n) (by omega)
 simpa using this
theorem r_places {H : Heap} {O : Own} {v : BV12} {b : Bd} (h : BdR H O v b) (hfit : bdFit b) {p : Int} (hp : p = 0 ∨ p = 1) (id : Int) :
  RetO PP F_zeitnotref15_places [.agg (boardC v b).toArray, iV p, iV id] H O (iV ((placesN b p id : Nat) : Int)) := by
 refine run_zeitnotref15_places (vs := boardC v b ++ [iV p, iV id]) (by kernel_rfl) (ones_app (boardC_ones h) ⟨rfl, rfl, trivial⟩) ?_
 simp only [T_zeitnotref15_places]
 obtain ⟨⟨f1, f2, f3, f4⟩, ⟨f5, f6, f7, f8⟩, f9⟩ := hfit
 refine newbox_den fun r0 => ?_
 have e38 : g (boardC v b ++ [iV p, iV id]) 38 = iV p := rfl
 rw [e38]
 rcases hp with rfl | rfl
 ·refine ⟨.i64, 0, rfl, fun _ => ?_, fun e => absurd rfl e⟩
  obtain ⟨z1, z2, z3, z4⟩ := stR_ones h.s0
  have c1 : b.s0.lib.count id ≤ b.s0.lib.length := List.count_le_length
  have c2 : b.s0.hand.count id ≤ b.s0.hand.length := List.count_le_length
  have c3 : b.s0.field.count id ≤ b.s0.field.length := List.count_le_length
  have c4 : b.s0.grave.count id ≤ b.s0.grave.length := List.count_le_length
  refine chkN_den (call_retO (r_Zones b.s0 z1 z2 z3 z4 H O) rfl ⟨z1, z2, z3, z4, trivial⟩ fun H1 l1 => ?_)
  replace h := h.le l1
  refine call_retO (r_Count h.s0.lib id) rfl ⟨rfl, trivial⟩ fun H2 l2 => pure_den _ (add_nat0 (by omega)) ?_
  replace h := h.le l2
  refine call_retO (r_Count h.s0.hand id) rfl ⟨rfl, trivial⟩ fun H3 l3 => pure_den _ (add_nat (by omega)) ?_
  replace h := h.le l3
  refine call_retO (r_Count h.s0.field id) rfl ⟨rfl, trivial⟩ fun H4 l4 => pure_den _ (add_nat (by omega)) ?_
  replace h := h.le l4
  refine call_retO (r_Count h.s0.grave id) rfl ⟨rfl, trivial⟩ fun H5 l5 => pure_den _ (add_nat (by omega)) ?_
  replace h := h.le l5
  have hz : ((b.s0.lib.count id + b.s0.hand.count id) + b.s0.field.count id) + b.s0.grave.count id = zonesN b.s0 id := rfl
  have hzb : zonesN b.s0 id ≤ 400000 := by unfold zonesN; omega
  rw [hz]
  obtain ⟨rows, hrs, hrl, hit⟩ := h.stack
  have hsl : evalPure .len [v.s] = some (iV b.stack.length) := ItsR.len h.stack
  refine countY_den b.stack.length (fun i x H' O' => O' = O ∧ Heap.le H5 H' ∧ x = iV ((zonesN b.s0 id + (b.stack.take i).countP (onStack 0 id) : Nat) : Int)) ⟨rfl, Heap.le_refl _, by simp⟩ ?_
  rintro i x H' O' hi - ⟨rfl, hle, rfl⟩
  have hci : (b.stack.take i).countP (onStack 0 id) ≤ i := Nat.le_trans List.countP_le_length (by simp; omega)
  refine chkN_den (pure_den _ hsl (pure_den _ (lss_eq _ _) (br_den (fun hb => ?_) (fun hb => ?_))))
  ·have hlt : i < b.stack.length := by simpa using hb
   obtain ⟨a, h1, h2, _, h3, h4⟩ := (hrs.le hle).idx .i64 i rows[i] (by simp [hrl, hlt])
   obtain ⟨s, hrow, _⟩ := hit i rows[i] b.stack[i] (by simp [hrl, hlt]) (by simp [hlt])
   rw [hrow] at h2 h3 h4
   refine chkN_den (pure_den _ h1 (load_denR h2 h3 h4 ?_))
   repeat (first | refine chkN_den ?_ | refine chkV_den ?_ | refine newbox_den fun _ => ?_ | refine pure_den _ (lss_eq _ _) ?_ | refine pure_den _ (gtr_eq _ _) ?_ | refine pure_den _ (leq_eq _ _) ?_ | refine pure_den _ (geq_eq _ _) ?_ | refine pure_den _ (eql_eq _ _) ?_ | refine pure_den _ (neq_eq _ _) ?_ | refine pure_den _ (pick_and _ _) ?_ | refine pure_den _ (pick_or _ _) ?_ | refine pure_den _ (not_eq' _) ?_ | refine pure_den _ (beql_eq _ _) ?_ | refine pure_den _ (bneq_eq _ _) ?_)
   refine br_den (fun hb => ?_) (fun hb => ?_)
   ·refine pure_den _ (add_one (by omega)) (pure_den _ (add_one (by omega)) (countY_cont (by simp [Eqs]) hlt ⟨rfl, hle, ?_⟩))
    have : onStack 0 id b.stack[i] = true := hb
    rw [take_countP hlt, this]; rfl
   ·refine pure_den _ (add_one (by omega)) (countY_cont (by simp [Eqs]) hlt ⟨rfl, hle, ?_⟩)
    have : onStack 0 id b.stack[i] = false := hb
    rw [take_countP hlt, this]; rfl
  ·have : b.stack.length ≤ i := by simpa using hb
   refine ret_denO ⟨?_, rfl⟩
   rw [List.take_of_length_le this]; rfl
 ·refine ⟨.i64, 1, rfl, fun e => absurd e (by omega), fun _ => ⟨.i64, 1, rfl, fun _ => ?_, fun e => absurd rfl e⟩⟩
  obtain ⟨z1, z2, z3, z4⟩ := stR_ones h.s1
  have c1 : b.s1.lib.count id ≤ b.s1.lib.length := List.count_le_length
  have c2 : b.s1.hand.count id ≤ b.s1.hand.length := List.count_le_length
  have c3 : b.s1.field.count id ≤ b.s1.field.length := List.count_le_length
  have c4 : b.s1.grave.count id ≤ b.s1.grave.length := List.count_le_length
  refine chkN_den (call_retO (r_Zones b.s1 z1 z2 z3 z4 H O) rfl ⟨z1, z2, z3, z4, trivial⟩ fun H1 l1 => ?_)
  replace h := h.le l1
  refine call_retO (r_Count h.s1.lib id) rfl ⟨rfl, trivial⟩ fun H2 l2 => pure_den _ (add_nat0 (by omega)) ?_
  replace h := h.le l2
  refine call_retO (r_Count h.s1.hand id) rfl ⟨rfl, trivial⟩ fun H3 l3 => pure_den _ (add_nat (by omega)) ?_
  replace h := h.le l3
  refine call_retO (r_Count h.s1.field id) rfl ⟨rfl, trivial⟩ fun H4 l4 => pure_den _ (add_nat (by omega)) ?_
  replace h := h.le l4
  refine call_retO (r_Count h.s1.grave id) rfl ⟨rfl, trivial⟩ fun H5 l5 => pure_den _ (add_nat (by omega)) ?_
  replace h := h.le l5
  have hz : ((b.s1.lib.count id + b.s1.hand.count id) + b.s1.field.count id) + b.s1.grave.count id = zonesN b.s1 id := rfl
  have hzb : zonesN b.s1 id ≤ 400000 := by unfold zonesN; omega
  rw [hz]
  obtain ⟨rows, hrs, hrl, hit⟩ := h.stack
  have hsl : evalPure .len [v.s] = some (iV b.stack.length) := ItsR.len h.stack
  refine countY_den b.stack.length (fun i x H' O' => O' = O ∧ Heap.le H5 H' ∧ x = iV ((zonesN b.s1 id + (b.stack.take i).countP (onStack 1 id) : Nat) : Int)) ⟨rfl, Heap.le_refl _, by simp⟩ ?_
  rintro i x H' O' hi - ⟨rfl, hle, rfl⟩
  have hci : (b.stack.take i).countP (onStack 1 id) ≤ i := Nat.le_trans List.countP_le_length (by simp; omega)
  refine chkN_den (pure_den _ hsl (pure_den _ (lss_eq _ _) (br_den (fun hb => ?_) (fun hb => ?_))))
  ·have hlt : i < b.stack.length := by simpa using hb
   obtain ⟨a, h1, h2, _, h3, h4⟩ := (hrs.le hle).idx .i64 i rows[i] (by simp [hrl, hlt])
   obtain ⟨s, hrow, _⟩ := hit i rows[i] b.stack[i] (by simp [hrl, hlt]) (by simp [hlt])
   rw [hrow] at h2 h3 h4
   refine chkN_den (pure_den _ h1 (load_denR h2 h3 h4 ?_))
   repeat (first | refine chkN_den ?_ | refine chkV_den ?_ | refine newbox_den fun _ => ?_ | refine pure_den _ (lss_eq _ _) ?_ | refine pure_den _ (gtr_eq _ _) ?_ | refine pure_den _ (leq_eq _ _) ?_ | refine pure_den _ (geq_eq _ _) ?_ | refine pure_den _ (eql_eq _ _) ?_ | refine pure_den _ (neq_eq _ _) ?_ | refine pure_den _ (pick_and _ _) ?_ | refine pure_den _ (pick_or _ _) ?_ | refine pure_den _ (not_eq' _) ?_ | refine pure_den _ (beql_eq _ _) ?_ | refine pure_den _ (bneq_eq _ _) ?_)
   refine br_den (fun hb => ?_) (fun hb => ?_)
   ·refine pure_den _ (add_one (by omega)) (pure_den _ (add_one (by omega)) (countY_cont (by simp [Eqs]) hlt ⟨rfl, hle, ?_⟩))
    have : onStack 1 id b.stack[i] = true := hb
    rw [take_countP hlt, this]; rfl
   ·refine pure_den _ (add_one (by omega)) (countY_cont (by simp [Eqs]) hlt ⟨rfl, hle, ?_⟩)
    have : onStack 1 id b.stack[i] = false := hb
    rw [take_countP hlt, this]; rfl
  ·have : b.stack.length ≤ i := by simpa using hb
   refine ret_denO ⟨?_, rfl⟩
   rw [List.take_of_length_le this]; rfl
end Go.Proofs.YtieaihgbjikggaaGreat
namespace Go.Proofs.YtieaihgbjikggaaGreat
open Go Go.Sx
set_option maxRecDepth 100000
set_option maxHeartbeats 1000000
theorem idxP_spec {α : Type} (p : α → Bool) : ∀ (l : List α) (i : Int), 0 ≤ i → (idxP p l i = -1 ∧ ∀ x ∈ l, p x = false) ∨ ∃ (k : Nat) (x : α), l[k]? = some x ∧ p x = true ∧ idxP p l i = i + k
 | [], i, _ => .inl ⟨rfl, by simp⟩
 | a :: l, i, h => by
  simp only [idxP]
  by_cases hp : p a = true
  ·right; exact ⟨0, a, rfl, hp, by rw [if_pos hp]; simp⟩
  ·rw [if_neg hp]
   rcases idxP_spec p l (i + 1) (by omega) with ⟨h1, h2⟩ | ⟨k, x, h1, h2, h3⟩
   ·left
    refine ⟨h1, fun x hx => ?_⟩
    rcases List.mem_cons.1 hx with rfl | hx
    ·simpa using hp
    ·exact h2 x hx
   ·right; exact ⟨k + 1, x, by simpa using h1, h2, by rw [h3]; omega⟩
def cardAt (b : Bd) (i : Int) : Int := (b.objs[i.toNat]?.map (·.card)).getD 0
/-- A card on the stack has its object. -/
def stItem (b : Bd) (x : It) : Bool := decide (x.trig ≥ 0) || !(decide (idxO b x.id < 0) || (cardAt b (idxO b x.id) != x.card))
def isCard (x : It) : Bool := !decide (x.trig ≥ 0)
def manyS (b : Bd) : Nat := b.s0.lib.length + b.s0.hand.length + b.s0.field.length + b.s0.grave.length + b.s1.lib.length + b.s1.hand.length + b.s1.field.length + b.s1.grave.length
def objsGoR (b : Bd) : Option Int → List Ob → Bool
 | _, [] => true
 | prev, o :: r => (!(!validO o || prevBad prev o.id) && (((placesN b o.owner o.id : Nat) : Int) == 1)) && objsGoR b (some o.id) r
def foundR (b : Bd) : Bool := b.stack.all (stItem b) && (objsGoR b none b.objs && (((manyS b + b.stack.countP isCard : Nat) : Int) == (b.objs.length : Int)))
theorem validO_owner {o : Ob} (h : validO o = true) : o.owner = 0 ∨ o.owner = 1 := ((validO_iff o).1 h).2.2.2.2.2.2
theorem r_found {H : Heap} {O : Own} {v : BV12} {b : Bd} (h : BdR H O v b) (hfit : bdFit b) : RetO PP F_zeitnotref15_found [.agg (boardC v b).toArray] H O (.bool (foundR b)) := by
 refine run_zeitnotref15_found (vs := boardC v b) (by kernel_rfl) (boardC_ones h) ?_
 simp only [T_zeitnotref15_found]
 have hfit' := hfit
 obtain ⟨⟨f1, f2, f3, f4⟩, ⟨f5, f6, f7, f8⟩, f9⟩ := hfit
 have len1 : ∀ {H' : Heap} {O' : Own} {w : Value} {l : List Int}, RSl H' O' 1 w (ints l) → evalPure .len [w] = some (iV l.length) := fun h => by have := h.len; rwa [ints, List.length_map] at this
 obtain ⟨z1, z2, z3, z4⟩ := stR_ones h.s0
 obtain ⟨z5, z6, z7, z8⟩ := stR_ones h.s1
 refine newbox_den fun r0 => chkN_den (call_retO (r_Zones b.s0 z1 z2 z3 z4 H O) rfl ⟨z1, z2, z3, z4, trivial⟩ fun H1 l1 => ?_)
 replace h := h.le l1
 refine pure_den _ (len1 h.s0.lib) (pure_den _ (add_nat0 (by omega)) (pure_den _ (len1 h.s0.hand) (pure_den _ (add_nat (by omega)) (pure_den _ (len1 h.s0.field) (pure_den _ (add_nat (by omega)) (pure_den _ (len1 h.s0.grave) (pure_den _ (add_nat (by omega)) ?_)))))))
 refine chkN_den (call_retO (r_Zones b.s1 z5 z6 z7 z8 H1 O) rfl ⟨z5, z6, z7, z8, trivial⟩ fun H2 l2 => ?_)
 replace h := h.le l2
 refine pure_den _ (len1 h.s1.lib) (pure_den _ (add_nat (by omega)) (pure_den _ (len1 h.s1.hand) (pure_den _ (add_nat (by omega)) (pure_den _ (len1 h.s1.field) (pure_den _ (add_nat (by omega)) (pure_den _ (len1 h.s1.grave) (pure_den _ (add_nat (by omega)) ?_)))))))
 have hz : b.s0.lib.length + b.s0.hand.length + b.s0.field.length + b.s0.grave.length + b.s1.lib.length + b.s1.hand.length + b.s1.field.length + b.s1.grave.length = manyS b := rfl
 have hzb : manyS b ≤ 800000 := by unfold manyS; omega
 rw [hz]
 have hsl : evalPure .len [v.s] = some (iV b.stack.length) := ItsR.len h.stack
 have stk := h.stack
 obtain ⟨rows, hrs, hrl, hit⟩ := stk
 have lo := h.objs.len
 have lob := h.objs.lenB
 rw [List.length_map] at lo lob
 refine countY_den b.stack.length (fun i x H' O' => O' = O ∧ Heap.le H2 H' ∧ x = iV ((manyS b + (b.stack.take i).countP isCard : Nat) : Int) ∧ b.stack.all (stItem b) = (b.stack.drop i).all (stItem b)) ⟨rfl, Heap.le_refl _, by simp, rfl⟩ ?_
 rintro i x H' O' hi - ⟨rfl, hle, rfl, hor⟩
 have hci : (b.stack.take i).countP isCard ≤ i := Nat.le_trans List.countP_le_length (by simp; omega)
 refine chkN_den (pure_den _ hsl (pure_den _ (lss_eq _ _) (br_den (fun hb => ?_) (fun hb => ?_))))
 ·have hlt : i < b.stack.length := by simpa using hb
  obtain ⟨a, h1, h2, _, h3, h4⟩ := (hrs.le hle).idx .i64 i rows[i] (by simp [hrl, hlt])
  obtain ⟨s, hrow, _⟩ := hit i rows[i] b.stack[i] (by simp [hrl, hlt]) (by simp [hlt])
  rw [hrow] at h2 h3 h4
  have hst : (b.stack.drop i).all (stItem b) = (stItem b b.stack[i] && (b.stack.drop (i + 1)).all (stItem b)) := by rw [List.drop_eq_getElem_cons hlt, List.all_cons]
  refine chkN_den (pure_den _ h1 (load_denR h2 h3 h4 ?_))
  repeat (first | refine chkN_den ?_ | refine chkV_den ?_ | refine newbox_den fun _ => ?_ | refine pure_den _ (lss_eq _ _) ?_ | refine pure_den _ (gtr_eq _ _) ?_ | refine pure_den _ (leq_eq _ _) ?_ | refine pure_den _ (geq_eq _ _) ?_ | refine pure_den _ (eql_eq _ _) ?_ | refine pure_den _ (neq_eq _ _) ?_ | refine pure_den _ (pick_and _ _) ?_ | refine pure_den _ (pick_or _ _) ?_ | refine pure_den _ (not_eq' _) ?_ | refine pure_den _ (beql_eq _ _) ?_ | refine pure_den _ (bneq_eq _ _) ?_)
  refine br_den (fun hb => ?_) (fun hb => ?_)
  ·refine pure_den _ (add_one (by omega)) (countY_cont (by simp [Eqs]) hlt ⟨rfl, hle, ?_, ?_⟩)
   ·have : isCard b.stack[i] = false := by simp only [isCard, hb, Bool.not_true]
    rw [take_countP hlt, this]; rfl
   ·rw [hor, hst]
    have : stItem b b.stack[i] = true := by simp only [stItem, hb, Bool.true_or]
    rw [this, Bool.true_and]
  ·refine pure_den _ (add_one (by omega)) (chkN_den (chkN_den (call_retO (r_Index (h.le hle) b.stack[i].id) rfl ⟨rfl, trivial⟩ fun H3 l3 => pure_den _ (lss_eq _ _) ?_)))
   repeat (first | refine chkN_den ?_ | refine chkV_den ?_)
   have hpv : ∃ pv : Value, pv.oneCell' = true ∧ (¬ (idxO b b.stack[i].id < 0) → evalPure (.idx 12) [v.o, iV (idxO b b.stack[i].id)] = some pv ∧ isPtr pv = true ∧ Reads H3 O' (ptrAdd pv 1) 1 [iV (cardAt b (idxO b b.stack[i].id))]) := by
    rcases idxP_spec (fun o => o.id == b.stack[i].id) b.objs 0 (by omega) with ⟨e, _⟩ | ⟨k, o, e1, _, e3⟩
    ·refine ⟨iV 0, rfl, fun hn => ?_⟩
     exfalso; apply hn
     show idxO b b.stack[i].id < 0
     unfold idxO; omega
    ·have e3 : idxO b b.stack[i].id = (k : Int) := by unfold idxO; omega
     obtain ⟨a, k1, k2, k3, _⟩ := ((h.objs.le (Heap.le_trans hle l3))).idx .i64 k (Ob.row o) (by rw [List.getElem?_map, e1]; rfl)
     refine ⟨.pointer (some a), rfl, fun _ => ⟨by rw [e3]; exact k1, rfl, ?_⟩⟩
     have := k3 1 1 (by omega)
     rw [e3]
     have ec : cardAt b (k : Int) = o.card := by simp [cardAt, e1]
     rw [ec]; exact this
   obtain ⟨pv, hpone, hpv⟩ := hpv
   have hon : On [((.bool (decide (idxO b b.stack[i].id < 0)) : Value), false)] → ¬ (idxO b b.stack[i].id < 0) := fun h => by
    have := h.1
    simp at this
    omega
   refine ⟨pv, fun ho => (hpv (hon ho)).1, .inr hpone, ?_⟩
   refine ⟨fun ho => (hpv (hon ho)).2.1, ?_⟩
   repeat (first | refine chkN_den ?_ | refine chkV_den ?_)
   refine ⟨[iV (cardAt b (idxO b b.stack[i].id))], rfl, ⟨rfl, trivial⟩, fun ho => (hpv (hon ho)).2.2, ?_⟩
   repeat (first | refine chkN_den ?_ | refine chkV_den ?_ | refine newbox_den fun _ => ?_ | refine pure_den _ (lss_eq _ _) ?_ | refine pure_den _ (gtr_eq _ _) ?_ | refine pure_den _ (leq_eq _ _) ?_ | refine pure_den _ (geq_eq _ _) ?_ | refine pure_den _ (eql_eq _ _) ?_ | refine pure_den _ (neq_eq _ _) ?_ | refine pure_den _ (pick_and _ _) ?_ | refine pure_den _ (pick_or _ _) ?_ | refine pure_den _ (not_eq' _) ?_ | refine pure_den _ (beql_eq _ _) ?_ | refine pure_den _ (bneq_eq _ _) ?_)
   have hsi : stItem b b.stack[i] = !(decide (idxO b b.stack[i].id < 0) || (cardAt b (idxO b b.stack[i].id) != b.stack[i].card)) := by simp only [stItem, hb, Bool.false_or]
   refine br_den (fun hc => ret_denO ⟨?_, rfl⟩) (fun hc => ?_)
   ·have : b.stack.all (stItem b) = false := by rw [hor, hst, hsi, show (decide (idxO b b.stack[i].id < 0) || (cardAt b (idxO b b.stack[i].id) != b.stack[i].card)) = true from hc]; rfl
    rw [foundR, this]; rfl
   ·refine pure_den _ (add_one (by omega)) (countY_cont (by simp [Eqs]) hlt ⟨rfl, Heap.le_trans hle l3, ?_, ?_⟩)
    ·have : isCard b.stack[i] = true := by simp only [isCard, hb, Bool.not_false]
     rw [take_countP hlt, this]; rfl
    ·rw [hor, hst, hsi, show (decide (idxO b b.stack[i].id < 0) || (cardAt b (idxO b b.stack[i].id) != b.stack[i].card)) = false from hc]; rfl
 ·have hge : b.stack.length ≤ i := by simpa using hb
  rw [List.take_of_length_le hge] at hci ⊢
  rw [List.drop_of_length_le hge] at hor
  have hfr : foundR b = (objsGoR b none b.objs && (((manyS b + b.stack.countP isCard : Nat) : Int) == (b.objs.length : Int))) := by rw [foundR, hor]; rfl
  replace h := h.le hle
  refine count_den b.objs.length (fun i H'' O'' => O'' = O' ∧ Heap.le H' H'' ∧ objsGoR b none b.objs = objsGoR b (prevId b.objs i) (b.objs.drop i)) ⟨rfl, Heap.le_refl _, by simp [prevId]⟩ ?_
  rintro j H'' O'' hj - ⟨rfl, hle2, hor2⟩
  refine chkN_den (pure_den _ lo (pure_den _ (lss_eq _ _) (br_den (fun hb => ?_) (fun hb => ?_))))
  ·have hlt : j < b.objs.length := by simpa using hb
   obtain ⟨a, h1, h2, _, h3, h4⟩ := (h.objs.le hle2).idx .i64 j (Ob.row b.objs[j]) (by simp [hlt])
   refine chkN_den (pure_den _ h1 (load_denR h2 h3 h4 (newbox_den fun r2 => chkN_den (chkN_den (call_retO (r_object_Valid b.objs[j] H'' O'') rfl ⟨rfl, trivial⟩ fun H4 l4 => ?_)))))
   have l4' := Heap.le_trans hle2 l4
   have hp : ∃ (pv : Value) (x : Int), pv.oneCell' = true ∧ (0 < j → evalPure (.idx 12) [v.o, iV ((j : Int) - 1)] = some pv ∧ isPtr pv = true ∧ Reads H4 O'' pv 1 [iV x]) ∧ prevBad (prevId b.objs j) b.objs[j].id = (decide ((j : Int) > 0) && decide (x ≥ b.objs[j].id)) := by
    rcases Nat.eq_zero_or_pos j with rfl | hpos
    ·exact ⟨iV 0, 0, rfl, fun h => absurd h (Nat.lt_irrefl 0), by simp [prevId, prevBad]⟩
    ·obtain ⟨j', rfl⟩ : ∃ j', j = j' + 1 := ⟨j - 1, by omega⟩
     have hj' : j' < b.objs.length := by omega
     obtain ⟨a, k1, k2, k3, _⟩ := (h.objs.le l4').idx .i64 j' (Ob.row b.objs[j']) (by simp [hj'])
     refine ⟨.pointer (some a), b.objs[j'].id, rfl, fun _ => ⟨?_, rfl, ?_⟩, ?_⟩
     ·have e : ((j' + 1 : Nat) : Int) - 1 = (j' : Int) := by omega
      rw [e]; exact k1
     ·have := k3 0 1 (by omega)
      have e : ptrAdd (.pointer (some a)) 0 = .pointer (some a) := by simp [ptrAdd, Addr.add]
      rwa [e] at this
     ·rw [prev_succ hj']
      have : ((j' + 1 : Nat) : Int) > 0 := by omega
      simp only [prevBad, this, decide_true, Bool.true_and]
   obtain ⟨pv, x, hpone, hpv, hprev⟩ := hp
   have hsub1 : evalPure (.bin .sub .int) [iV j, iV 1] = some (iV ((j : Int) - 1)) := by
    simp only [evalPure, evalBin, evalInt, if_true]
    rw [wrap_id (by omega) (by omega)]
   have hon : ∀ {u : Bool}, On [((.bool (decide ((j : Int) > 0)) : Value), true), (.bool u, false)] → 0 < j := fun h => by
    have := h.1
    simp at this
    omega
   refine pure_den _ (not_eq' _) (chkV_den (pure_den _ (gtr_eq _ _) ?_))
   repeat (first | refine chkN_den ?_ | refine chkV_den ?_ | refine pure_den _ hsub1 ?_)
   refine ⟨pv, fun ho => (hpv (hon ho)).1, .inr hpone, ?_⟩
   refine ⟨fun ho => (hpv (hon ho)).2.1, ?_⟩
   repeat (first | refine chkN_den ?_ | refine chkV_den ?_)
   refine ⟨[iV x], rfl, ⟨rfl, trivial⟩, fun ho => (hpv (hon ho)).2.2, ?_⟩
   repeat (first | refine chkN_den ?_ | refine chkV_den ?_ | refine newbox_den fun _ => ?_ | refine pure_den _ (lss_eq _ _) ?_ | refine pure_den _ (gtr_eq _ _) ?_ | refine pure_den _ (leq_eq _ _) ?_ | refine pure_den _ (geq_eq _ _) ?_ | refine pure_den _ (eql_eq _ _) ?_ | refine pure_den _ (neq_eq _ _) ?_ | refine pure_den _ (pick_and _ _) ?_ | refine pure_den _ (pick_or _ _) ?_ | refine pure_den _ (not_eq' _) ?_ | refine pure_den _ (beql_eq _ _) ?_ | refine pure_den _ (bneq_eq _ _) ?_)
   have hstep : objsGoR b (prevId b.objs j) (b.objs.drop j) = ((!(!validO b.objs[j] || prevBad (prevId b.objs j) b.objs[j].id) && (((placesN b b.objs[j].owner b.objs[j].id : Nat) : Int) == 1)) && objsGoR b (some b.objs[j].id) (b.objs.drop (j + 1))) := by
    rw [List.drop_eq_getElem_cons hlt, objsGoR]
   refine br_den (fun hc => ret_denO ⟨?_, rfl⟩) (fun hc => ?_)
   ·rw [hfr, hor2, hstep, hprev, show (!validO b.objs[j] || (decide ((j : Int) > 0) && decide (x ≥ b.objs[j].id))) = true from hc]; rfl
   have hc' : (!validO b.objs[j] || (decide ((j : Int) > 0) && decide (x ≥ b.objs[j].id))) = false := hc
   have hval : validO b.objs[j] = true := by
    have := (Bool.or_eq_false_iff.1 hc').1
    simpa using this
   refine chkN_den (chkN_den (chkN_den (call_retO (r_places (h.le l4') hfit' (validO_owner hval) b.objs[j].id) rfl ⟨rfl, trivial⟩ fun H5 l5 => pure_den _ (neq_eq _ _) (br_den (fun hd => ret_denO ⟨?_, rfl⟩) (fun hd => ?_)))))
   ·have : (((placesN b b.objs[j].owner b.objs[j].id : Nat) : Int) == 1) = false := by simpa using hd
    rw [hfr, hor2, hstep, this]; simp
   ·have : (((placesN b b.objs[j].owner b.objs[j].id : Nat) : Int) == 1) = true := by simpa using hd
    refine pure_den _ (add_one (by omega)) (count_cont (by simp [Eqs]) hlt ⟨rfl, Heap.le_trans l4' l5, ?_⟩)
    rw [hor2, hstep, hprev, hc', this, prev_succ hlt]; rfl
  ·have hge : b.objs.length ≤ j := by simpa using hb
   rw [List.drop_of_length_le hge] at hor2
   refine chkN_den (pure_den _ lo (pure_den _ (eql_eq _ _) (ret_denO ⟨?_, rfl⟩)))
   rw [hfr, hor2]; rfl
end Go.Proofs.YtieaihgbjikggaaGreat
namespace Go.Proofs.YtieaihgbjikggaaGreat
open Go Go.Sx
set_option maxRecDepth 100000
set_option maxHeartbeats 1000000
def attR (own att : List Int) (x : Int) : Bool := ((((att.count x : Nat) : Int) == 1) && (((own.count x : Nat) : Int) == 1))
def crossB (x y : Bl) : Bool := (y.attacker == x.attacker) || (y.blocker == x.blocker)
def blkOne (att other : List Int) (done : List Bl) (x : Bl) : Bool := (((att.count x.attacker : Nat) : Int) == 1) && ((((other.count x.blocker : Nat) : Int) == 1) && done.all fun y => !crossB x y)
def blkR (att other : List Int) : List Bl → List Bl → Bool
 | _, [] => true
 | done, x :: r => blkOne att other done x && blkR att other (done ++ [x]) r
def fightsRf (own other att : List Int) (bl : List Bl) : Bool := att.all (attR own att) && blkR att other [] bl
def fightsRB (b : Bd) : Bool := if b.active = 0 then fightsRf b.s0.field b.s1.field b.att b.blocks else fightsRf b.s1.field b.s0.field b.att b.blocks
theorem count1 {l : List Int} {x : Int} {c : Bool} (h : (((l.count x : Nat) : Int) != 1) = c) : (((l.count x : Nat) : Int) == 1) = !c := by rw [← h, bne, Bool.not_not]
theorem r_fights {H : Heap} {O : Own} {v : BV12} {b : Bd} (h : BdR H O v b) (ha : b.active = 0 ∨ b.active = 1) : RetO PP F_zeitnotref15_fights [.agg (boardC v b).toArray] H O (.bool (fightsRB b)) := by
 refine run_zeitnotref15_fights (vs := boardC v b) (by kernel_rfl) (boardC_ones h) ?_
 simp only [T_zeitnotref15_fights]
 have e34 : g (boardC v b) 34 = iV b.active := rfl
 rw [e34]
 have hs : ∀ n : Int, n = 0 ∨ n = 1 → evalPure (.bin .sub .int) [iV 1, iV n] = some (iV (1 - n)) := by
  rintro n (rfl | rfl) <;> rfl
 have la := h.att.len
 have laB := h.att.lenB
 have lb := h.blocks.len
 have lbB := h.blocks.lenB
 simp only [ints, List.length_map] at la laB lb lbB
 rcases ha with ha | ha
 ·rw [ha]
  have hF : fightsRB b = (b.att.all (attR b.s0.field b.att) && blkR b.att b.s1.field [] b.blocks) := by simp [fightsRB, fightsRf, ha]
  refine newbox_den fun r0 => count_den b.att.length (fun i H' O' => O' = O ∧ Heap.le H H' ∧ b.att.all (attR b.s0.field b.att) = (b.att.drop i).all (attR b.s0.field b.att)) ⟨rfl, Heap.le_refl H, rfl⟩ ?_
  rintro i H' O' hi - ⟨rfl, hle, hor⟩
  refine chkN_den (pure_den _ la (pure_den _ (lss_eq _ _) (br_den (fun hb => ?_) (fun hb => ?_))))
  ·have hlt : i < b.att.length := by simpa using hb
   have hst : (b.att.drop i).all (attR b.s0.field b.att) = (attR b.s0.field b.att b.att[i] && (b.att.drop (i + 1)).all (attR b.s0.field b.att)) := by rw [List.drop_eq_getElem_cons hlt, List.all_cons]
   obtain ⟨a, h1, h2, _, h3, h4⟩ := (h.att.le hle).idx .i64 i [iV b.att[i]] (by simp [ints, hlt])
   refine chkN_den (chkN_den (pure_den _ h1 (load_denR h2 h3 h4 (call_retO (r_Count (h.att.le hle) b.att[i]) rfl ⟨rfl, trivial⟩ fun H1 l1 => pure_den _ (neq_eq _ _) (br_den (fun hc => ret_denO ⟨?_, rfl⟩) (fun hc => chkN_den ?_))))))
   ·rw [hF, hor, hst, attR, count1 hc]; rfl
   refine ⟨.i64, 0, rfl, fun _ => ?_, fun e => absurd rfl e⟩
   have l1' := Heap.le_trans hle l1
   obtain ⟨a, h1, h2, _, h3, h4⟩ := (h.att.le l1').idx .i64 i [iV b.att[i]] (by simp [ints, hlt])
   refine chkN_den (chkN_den (pure_den _ h1 (load_denR h2 h3 h4 (call_retO (r_Count (h.s0.field.le l1') b.att[i]) rfl ⟨rfl, trivial⟩ fun H2 l2 => pure_den _ (neq_eq _ _) (br_den (fun hd => ret_denO ⟨?_, rfl⟩) (fun hd => ?_))))))
   ·rw [hF, hor, hst, attR, count1 hc, count1 hd]; rfl
   ·refine pure_den _ (add_one (by omega)) (count_cont (by simp [Eqs]) hlt ⟨rfl, Heap.le_trans l1' l2, ?_⟩)
    rw [hor, hst, attR, count1 hc, count1 hd]; rfl
  ·have hge : b.att.length ≤ i := by simpa using hb
   rw [List.drop_of_length_le hge] at hor
   have hF2 : fightsRB b = blkR b.att b.s1.field [] b.blocks := by rw [hF, hor]; rfl
   refine count_den b.blocks.length (fun j H'' O'' => O'' = O' ∧ Heap.le H' H'' ∧ blkR b.att b.s1.field [] b.blocks = blkR b.att b.s1.field (b.blocks.take j) (b.blocks.drop j)) ⟨rfl, Heap.le_refl _, rfl⟩ ?_
   rintro j H'' O'' hj - ⟨rfl, hle2, hor2⟩
   have hle2 := Heap.le_trans hle hle2
   refine chkN_den (pure_den _ lb (pure_den _ (lss_eq _ _) (br_den (fun hb => ?_) (fun hb => ?_))))
   ·have hlt : j < b.blocks.length := by simpa using hb
    obtain ⟨a, h1, h2, _, h3, h4⟩ := (h.blocks.le hle2).idx .i64 j (Bl.row b.blocks[j]) (by simp [hlt])
    have hst : blkR b.att b.s1.field (b.blocks.take j) (b.blocks.drop j) = (blkOne b.att b.s1.field (b.blocks.take j) b.blocks[j] && blkR b.att b.s1.field (b.blocks.take (j + 1)) (b.blocks.drop (j + 1))) := by
     rw [List.drop_eq_getElem_cons hlt, blkR, List.take_add_one, List.getElem?_eq_getElem hlt]; rfl
    refine chkN_den (pure_den _ h1 (load_denR h2 h3 h4 (newbox_den fun r1 => chkN_den (chkN_den (chkN_den (call_retO (r_Count (h.att.le hle2) b.blocks[j].attacker) rfl ⟨rfl, trivial⟩ fun H1 l1 => pure_den _ (neq_eq _ _) (br_den (fun hc => ret_denO ⟨?_, rfl⟩) (fun hc => chkN_den (pure_den _ (hs _ (.inl rfl)) ?_)))))))))
    ·rw [hF2, hor2, hst, blkOne, count1 hc]; rfl
    refine ⟨.i64, 1, rfl, fun e => absurd e (by omega), fun _ => ⟨.i64, 1, rfl, fun _ => ?_, fun e => absurd rfl e⟩⟩
    have l1' := Heap.le_trans hle2 l1
    refine chkN_den (chkN_den (call_retO (r_Count (h.s1.field.le l1') b.blocks[j].blocker) rfl ⟨rfl, trivial⟩ fun H2 l2 => pure_den _ (neq_eq _ _) (br_den (fun hd => ret_denO ⟨?_, rfl⟩) (fun hd => ?_))))
    ·rw [hF2, hor2, hst, blkOne, count1 hc, count1 hd]; rfl
    have l2' := Heap.le_trans l1' l2
    have hone : blkOne b.att b.s1.field (b.blocks.take j) b.blocks[j] = (b.blocks.take j).all fun y => !crossB b.blocks[j] y := by rw [blkOne, count1 hc, count1 hd]; rfl
    refine count_den j (fun k H3 O3 => O3 = O'' ∧ Heap.le H2 H3 ∧ ((b.blocks.take j).all fun y => !crossB b.blocks[j] y) = (((b.blocks.take j).drop k).all fun y => !crossB b.blocks[j] y)) ⟨rfl, Heap.le_refl _, rfl⟩ ?_
    rintro k H3 O3 hk - ⟨rfl, hle3, hor3⟩
    have hle3 := Heap.le_trans l2' hle3
    refine pure_den _ (lss_eq _ _) (br_den (fun hb => ?_) (fun hb => ?_))
    ·have hltk : k < j := by simpa using hb
     have hltb : k < b.blocks.length := by omega
     have hst3 : (((b.blocks.take j).drop k).all fun y => !crossB b.blocks[j] y) = (!crossB b.blocks[j] b.blocks[k] && (((b.blocks.take j).drop (k + 1)).all fun y => !crossB b.blocks[j] y)) := by
      rw [List.drop_eq_getElem_cons (by simp; omega), List.all_cons, List.getElem_take]
     obtain ⟨a, k1, _, k3, _⟩ := (h.blocks.le hle3).idx .i64 k (Bl.row b.blocks[k]) (by simp [hltb])
     have hr1 : Reads H3 O3 (ptrAdd (.pointer (some a)) 1) 1 [iV b.blocks[k].attacker] := k3 1 1 (by omega)
     have hr0 : Reads H3 O3 (.pointer (some a)) 1 [iV b.blocks[k].blocker] := by
      have := k3 0 1 (by omega)
      have e : ptrAdd (.pointer (some a)) 0 = .pointer (some a) := by simp [ptrAdd, Addr.add]
      rwa [e] at this
     refine chkN_den (pure_den _ k1 (chkP_den rfl (load_denR hr1 rfl ⟨rfl, trivial⟩ (chkN_den (pure_den _ (eql_eq _ _) ?_)))))
     repeat (first | refine chkN_den ?_ | refine chkV_den ?_)
     refine pure_denG k1 rfl (chkP_den rfl ?_)
     repeat (first | refine chkN_den ?_ | refine chkV_den ?_)
     refine ⟨[iV b.blocks[k].blocker], rfl, ⟨rfl, trivial⟩, fun _ => hr0, ?_⟩
     repeat (first | refine chkN_den ?_ | refine chkV_den ?_ | refine newbox_den fun _ => ?_ | refine pure_den _ (lss_eq _ _) ?_ | refine pure_den _ (gtr_eq _ _) ?_ | refine pure_den _ (leq_eq _ _) ?_ | refine pure_den _ (geq_eq _ _) ?_ | refine pure_den _ (eql_eq _ _) ?_ | refine pure_den _ (neq_eq _ _) ?_ | refine pure_den _ (pick_and _ _) ?_ | refine pure_den _ (pick_or _ _) ?_ | refine pure_den _ (not_eq' _) ?_ | refine pure_den _ (beql_eq _ _) ?_ | refine pure_den _ (bneq_eq _ _) ?_)
     refine br_den (fun hx => ret_denO ⟨?_, rfl⟩) (fun hx => ?_)
     ·rw [hF2, hor2, hst, hone, hor3, hst3, show crossB b.blocks[j] b.blocks[k] = true from hx]; rfl
     ·refine pure_den _ (add_one (by omega)) (count_cont (by simp [Eqs]) hltk ⟨rfl, Heap.le_trans (Heap.le_refl _) ?_, ?_⟩)
      ·assumption
      ·rw [hor3, hst3, show crossB b.blocks[j] b.blocks[k] = false from hx]; rfl
    ·have hke : (b.blocks.take j).length ≤ k := by
      have : j ≤ k := by simpa using hb
      simp; omega
     rw [List.drop_of_length_le hke] at hor3
     refine pure_den _ (add_one (by omega)) (count_cont (by simp [Eqs]) hlt ⟨rfl, ?_, ?_⟩)
     ·exact Heap.le_trans (by assumption) (Heap.le_trans l1 (Heap.le_trans l2 (by assumption)))
     ·rw [hor2, hst, hone, hor3]; rfl
   ·have hge2 : b.blocks.length ≤ j := by simpa using hb
    refine ret_denO ⟨?_, rfl⟩
    rw [hF2, hor2, List.drop_of_length_le hge2]; rfl
 ·rw [ha]
  have hF : fightsRB b = (b.att.all (attR b.s1.field b.att) && blkR b.att b.s0.field [] b.blocks) := by simp [fightsRB, fightsRf, ha]
  refine newbox_den fun r0 => count_den b.att.length (fun i H' O' => O' = O ∧ Heap.le H H' ∧ b.att.all (attR b.s1.field b.att) = (b.att.drop i).all (attR b.s1.field b.att)) ⟨rfl, Heap.le_refl H, rfl⟩ ?_
  rintro i H' O' hi - ⟨rfl, hle, hor⟩
  refine chkN_den (pure_den _ la (pure_den _ (lss_eq _ _) (br_den (fun hb => ?_) (fun hb => ?_))))
  ·have hlt : i < b.att.length := by simpa using hb
   have hst : (b.att.drop i).all (attR b.s1.field b.att) = (attR b.s1.field b.att b.att[i] && (b.att.drop (i + 1)).all (attR b.s1.field b.att)) := by rw [List.drop_eq_getElem_cons hlt, List.all_cons]
   obtain ⟨a, h1, h2, _, h3, h4⟩ := (h.att.le hle).idx .i64 i [iV b.att[i]] (by simp [ints, hlt])
   refine chkN_den (chkN_den (pure_den _ h1 (load_denR h2 h3 h4 (call_retO (r_Count (h.att.le hle) b.att[i]) rfl ⟨rfl, trivial⟩ fun H1 l1 => pure_den _ (neq_eq _ _) (br_den (fun hc => ret_denO ⟨?_, rfl⟩) (fun hc => chkN_den ?_))))))
   ·rw [hF, hor, hst, attR, count1 hc]; rfl
   refine ⟨.i64, 1, rfl, fun e => absurd e (by omega), fun _ => ⟨.i64, 1, rfl, fun _ => ?_, fun e => absurd rfl e⟩⟩
   have l1' := Heap.le_trans hle l1
   obtain ⟨a, h1, h2, _, h3, h4⟩ := (h.att.le l1').idx .i64 i [iV b.att[i]] (by simp [ints, hlt])
   refine chkN_den (chkN_den (pure_den _ h1 (load_denR h2 h3 h4 (call_retO (r_Count (h.s1.field.le l1') b.att[i]) rfl ⟨rfl, trivial⟩ fun H2 l2 => pure_den _ (neq_eq _ _) (br_den (fun hd => ret_denO ⟨?_, rfl⟩) (fun hd => ?_))))))
   ·rw [hF, hor, hst, attR, count1 hc, count1 hd]; rfl
   ·refine pure_den _ (add_one (by omega)) (count_cont (by simp [Eqs]) hlt ⟨rfl, Heap.le_trans l1' l2, ?_⟩)
    rw [hor, hst, attR, count1 hc, count1 hd]; rfl
  ·have hge : b.att.length ≤ i := by simpa using hb
   rw [List.drop_of_length_le hge] at hor
   have hF2 : fightsRB b = blkR b.att b.s0.field [] b.blocks := by rw [hF, hor]; rfl
   refine count_den b.blocks.length (fun j H'' O'' => O'' = O' ∧ Heap.le H' H'' ∧ blkR b.att b.s0.field [] b.blocks = blkR b.att b.s0.field (b.blocks.take j) (b.blocks.drop j)) ⟨rfl, Heap.le_refl _, rfl⟩ ?_
   rintro j H'' O'' hj - ⟨rfl, hle2, hor2⟩
   have hle2 := Heap.le_trans hle hle2
   refine chkN_den (pure_den _ lb (pure_den _ (lss_eq _ _) (br_den (fun hb => ?_) (fun hb => ?_))))
   ·have hlt : j < b.blocks.length := by simpa using hb
    obtain ⟨a, h1, h2, _, h3, h4⟩ := (h.blocks.le hle2).idx .i64 j (Bl.row b.blocks[j]) (by simp [hlt])
    have hst : blkR b.att b.s0.field (b.blocks.take j) (b.blocks.drop j) = (blkOne b.att b.s0.field (b.blocks.take j) b.blocks[j] && blkR b.att b.s0.field (b.blocks.take (j + 1)) (b.blocks.drop (j + 1))) := by
     rw [List.drop_eq_getElem_cons hlt, blkR, List.take_add_one, List.getElem?_eq_getElem hlt]; rfl
    refine chkN_den (pure_den _ h1 (load_denR h2 h3 h4 (newbox_den fun r1 => chkN_den (chkN_den (chkN_den (call_retO (r_Count (h.att.le hle2) b.blocks[j].attacker) rfl ⟨rfl, trivial⟩ fun H1 l1 => pure_den _ (neq_eq _ _) (br_den (fun hc => ret_denO ⟨?_, rfl⟩) (fun hc => chkN_den (pure_den _ (hs _ (.inr rfl)) ?_)))))))))
    ·rw [hF2, hor2, hst, blkOne, count1 hc]; rfl
    refine ⟨.i64, 0, rfl, fun _ => ?_, fun e => absurd rfl e⟩
    have l1' := Heap.le_trans hle2 l1
    refine chkN_den (chkN_den (call_retO (r_Count (h.s0.field.le l1') b.blocks[j].blocker) rfl ⟨rfl, trivial⟩ fun H2 l2 => pure_den _ (neq_eq _ _) (br_den (fun hd => ret_denO ⟨?_, rfl⟩) (fun hd => ?_))))
    ·rw [hF2, hor2, hst, blkOne, count1 hc, count1 hd]; rfl
    have l2' := Heap.le_trans l1' l2
    have hone : blkOne b.att b.s0.field (b.blocks.take j) b.blocks[j] = (b.blocks.take j).all fun y => !crossB b.blocks[j] y := by rw [blkOne, count1 hc, count1 hd]; rfl
    refine count_den j (fun k H3 O3 => O3 = O'' ∧ Heap.le H2 H3 ∧ ((b.blocks.take j).all fun y => !crossB b.blocks[j] y) = (((b.blocks.take j).drop k).all fun y => !crossB b.blocks[j] y)) ⟨rfl, Heap.le_refl _, rfl⟩ ?_
    rintro k H3 O3 hk - ⟨rfl, hle3, hor3⟩
    have hle3 := Heap.le_trans l2' hle3
    refine pure_den _ (lss_eq _ _) (br_den (fun hb => ?_) (fun hb => ?_))
    ·have hltk : k < j := by simpa using hb
     have hltb : k < b.blocks.length := by omega
     have hst3 : (((b.blocks.take j).drop k).all fun y => !crossB b.blocks[j] y) = (!crossB b.blocks[j] b.blocks[k] && (((b.blocks.take j).drop (k + 1)).all fun y => !crossB b.blocks[j] y)) := by
      rw [List.drop_eq_getElem_cons (by simp; omega), List.all_cons, List.getElem_take]
     obtain ⟨a, k1, _, k3, _⟩ := (h.blocks.le hle3).idx .i64 k (Bl.row b.blocks[k]) (by simp [hltb])
     have hr1 : Reads H3 O3 (ptrAdd (.pointer (some a)) 1) 1 [iV b.blocks[k].attacker] := k3 1 1 (by omega)
     have hr0 : Reads H3 O3 (.pointer (some a)) 1 [iV b.blocks[k].blocker] := by
      have := k3 0 1 (by omega)
      have e : ptrAdd (.pointer (some a)) 0 = .pointer (some a) := by simp [ptrAdd, Addr.add]
      rwa [e] at this
     refine chkN_den (pure_den _ k1 (chkP_den rfl (load_denR hr1 rfl ⟨rfl, trivial⟩ (chkN_den (pure_den _ (eql_eq _ _) ?_)))))
     repeat (first | refine chkN_den ?_ | refine chkV_den ?_)
     refine pure_denG k1 rfl (chkP_den rfl ?_)
     repeat (first | refine chkN_den ?_ | refine chkV_den ?_)
     refine ⟨[iV b.blocks[k].blocker], rfl, ⟨rfl, trivial⟩, fun _ => hr0, ?_⟩
     repeat (first | refine chkN_den ?_ | refine chkV_den ?_ | refine newbox_den fun _ => ?_ | refine pure_den _ (lss_eq _ _) ?_ | refine pure_den _ (gtr_eq _ _) ?_ | refine pure_den _ (leq_eq _ _) ?_ | refine pure_den _ (geq_eq _ _) ?_ | refine pure_den _ (eql_eq _ _) ?_ | refine pure_den _ (neq_eq _ _) ?_ | refine pure_den _ (pick_and _ _) ?_ | refine pure_den _ (pick_or _ _) ?_ | refine pure_den _ (not_eq' _) ?_ | refine pure_den _ (beql_eq _ _) ?_ | refine pure_den _ (bneq_eq _ _) ?_)
     refine br_den (fun hx => ret_denO ⟨?_, rfl⟩) (fun hx => ?_)
     ·rw [hF2, hor2, hst, hone, hor3, hst3, show crossB b.blocks[j] b.blocks[k] = true from hx]; rfl
     ·refine pure_den _ (add_one (by omega)) (count_cont (by simp [Eqs]) hltk ⟨rfl, Heap.le_trans (Heap.le_refl _) ?_, ?_⟩)
      ·assumption
      ·rw [hor3, hst3, show crossB b.blocks[j] b.blocks[k] = false from hx]; rfl
    ·have hke : (b.blocks.take j).length ≤ k := by
      have : j ≤ k := by simpa using hb
      simp; omega
     rw [List.drop_of_length_le hke] at hor3
     refine pure_den _ (add_one (by omega)) (count_cont (by simp [Eqs]) hlt ⟨rfl, ?_, ?_⟩)
     ·exact Heap.le_trans (by assumption) (Heap.le_trans l1 (Heap.le_trans l2 (by assumption)))
     ·rw [hor2, hst, hone, hor3]; rfl
   ·have hge2 : b.blocks.length ≤ j := by simpa using hb
    refine ret_denO ⟨?_, rfl⟩
    rw [hF2, hor2, List.drop_of_length_le hge2]; rfl
end Go.Proofs.YtieaihgbjikggaaGreat
namespace Go.Proofs.YtieaihgbjikggaaGreat
open Go Go.Sx
set_option maxRecDepth 100000
set_option maxHeartbeats 1000000
def numsR (b : Bd) : Bool := decide ((0 ≤ b.active ∧ b.active ≤ 1) ∧ (0 ≤ b.turn ∧ b.turn ≤ 1000) ∧ (0 ≤ b.phase ∧ b.phase ≤ 10) ∧ (-1 ≤ b.holder ∧ b.holder ≤ 1) ∧ (0 ≤ b.passes ∧ b.passes ≤ 2) ∧ b.objs.length ≤ 500 ∧ b.stack.length ≤ 200 ∧ b.queue.length ≤ 200)
def validRB (b : Bd) : Bool := numsR b && (b.stack.all (fun x => fineB x false) && (b.queue.all (fun x => fineB x true) && (seatOkB b.s0 && (seatOkB b.s1 && (foundR b && fightsRB b)))))
theorem r_Valid {H : Heap} {O : Own} {v : BV12} {b : Bd} (h : BdR H O v b) (hfit : bdFit b) : RetO PP F_zeitnotref15_Valid [.agg (boardC v b).toArray] H O (.bool (validRB b)) := by
 refine run_zeitnotref15_Valid (vs := boardC v b) (by kernel_rfl) (boardC_ones h) ?_
 simp only [T_zeitnotref15_Valid]
 have lo := h.objs.len
 rw [List.length_map] at lo
 have ls := ItsR.len h.stack
 have lq := ItsR.len h.queue
 refine newbox_den fun r0 => ?_
 repeat (first | refine chkN_den ?_ | refine chkV_den ?_ | refine newbox_den fun _ => ?_ | refine pure_den _ (lss_eq _ _) ?_ | refine pure_den _ (gtr_eq _ _) ?_ | refine pure_den _ (leq_eq _ _) ?_ | refine pure_den _ (geq_eq _ _) ?_ | refine pure_den _ (eql_eq _ _) ?_ | refine pure_den _ (neq_eq _ _) ?_ | refine pure_den _ (pick_and _ _) ?_ | refine pure_den _ (pick_or _ _) ?_ | refine pure_den _ (not_eq' _) ?_ | refine pure_den _ (beql_eq _ _) ?_ | refine pure_den _ (bneq_eq _ _) ?_)
 refine pure_den _ lo ?_
 repeat (first | refine chkN_den ?_ | refine chkV_den ?_ | refine newbox_den fun _ => ?_ | refine pure_den _ (lss_eq _ _) ?_ | refine pure_den _ (gtr_eq _ _) ?_ | refine pure_den _ (leq_eq _ _) ?_ | refine pure_den _ (geq_eq _ _) ?_ | refine pure_den _ (eql_eq _ _) ?_ | refine pure_den _ (neq_eq _ _) ?_ | refine pure_den _ (pick_and _ _) ?_ | refine pure_den _ (pick_or _ _) ?_ | refine pure_den _ (not_eq' _) ?_ | refine pure_den _ (beql_eq _ _) ?_ | refine pure_den _ (bneq_eq _ _) ?_)
 refine pure_den _ ls ?_
 repeat (first | refine chkN_den ?_ | refine chkV_den ?_ | refine newbox_den fun _ => ?_ | refine pure_den _ (lss_eq _ _) ?_ | refine pure_den _ (gtr_eq _ _) ?_ | refine pure_den _ (leq_eq _ _) ?_ | refine pure_den _ (geq_eq _ _) ?_ | refine pure_den _ (eql_eq _ _) ?_ | refine pure_den _ (neq_eq _ _) ?_ | refine pure_den _ (pick_and _ _) ?_ | refine pure_den _ (pick_or _ _) ?_ | refine pure_den _ (not_eq' _) ?_ | refine pure_den _ (beql_eq _ _) ?_ | refine pure_den _ (bneq_eq _ _) ?_)
 refine pure_den _ lq ?_
 repeat (first | refine chkN_den ?_ | refine chkV_den ?_ | refine newbox_den fun _ => ?_ | refine pure_den _ (lss_eq _ _) ?_ | refine pure_den _ (gtr_eq _ _) ?_ | refine pure_den _ (leq_eq _ _) ?_ | refine pure_den _ (geq_eq _ _) ?_ | refine pure_den _ (eql_eq _ _) ?_ | refine pure_den _ (neq_eq _ _) ?_ | refine pure_den _ (pick_and _ _) ?_ | refine pure_den _ (pick_or _ _) ?_ | refine pure_den _ (not_eq' _) ?_ | refine pure_den _ (beql_eq _ _) ?_ | refine pure_den _ (bneq_eq _ _) ?_)
 refine br_den (fun hn => ret_denO ⟨?_, rfl⟩) (fun hn => ?_)
 ·have : numsR b = false := by
   simp only [Bool.or_eq_true, decide_eq_true_eq] at hn
   simp only [numsR, decide_eq_false_iff_not]
   omega
  rw [validRB, this]; rfl
 have hnum : numsR b = true := by
  simp only [Bool.or_eq_false_iff, decide_eq_false_iff_not] at hn
  simp only [numsR, decide_eq_true_eq]
  omega
 have stk := h.stack
 obtain ⟨rows, hrs, hrl, hit⟩ := stk
 have hsB := hrs.lenB
 refine count_den b.stack.length (fun i H' O' => O' = O ∧ Heap.le H H' ∧ b.stack.all (fun x => fineB x false) = (b.stack.drop i).all (fun x => fineB x false)) ⟨rfl, Heap.le_refl H, rfl⟩ ?_
 rintro i H' O' hi - ⟨rfl, hle, hor⟩
 refine chkN_den (pure_den _ ls (pure_den _ (lss_eq _ _) (br_den (fun hb => ?_) (fun hb => ?_))))
 ·have hlt : i < b.stack.length := by simpa using hb
  obtain ⟨a, h1, h2, _, h3, h4⟩ := (hrs.le hle).idx .i64 i rows[i] (by simp [hrl, hlt])
  have hI := (hit i rows[i] b.stack[i] (by simp [hrl, hlt]) (by simp [hlt])).le hle
  obtain ⟨s, hrow, hs⟩ := hI
  rw [hrow] at h2 h3 h4
  have hst : (b.stack.drop i).all (fun x => fineB x false) = (fineB b.stack[i] false && (b.stack.drop (i + 1)).all (fun x => fineB x false)) := by rw [List.drop_eq_getElem_cons hlt, List.all_cons]
  refine chkN_den (pure_den _ h1 (load_denR h2 h3 h4 (call_retO (r_Item ⟨s, rfl, hs⟩ false) rfl ⟨rfl, trivial⟩ fun H1 l1 => pure_den _ (not_eq' _) (br_den (fun hc => ret_denO ⟨?_, rfl⟩) (fun hc => ?_)))))
  ·rw [validRB, hor, hst, notT hc]; simp
  ·refine pure_den _ (add_one (by omega)) (count_cont (by simp [Eqs]) hlt ⟨rfl, Heap.le_trans hle l1, ?_⟩)
   rw [hor, hst, notF hc]; rfl
 ·have hge : b.stack.length ≤ i := by simpa using hb
  rw [List.drop_of_length_le hge] at hor
  have hall : b.stack.all (fun x => fineB x false) = true := by rw [hor]; rfl
  have que := h.queue
  obtain ⟨rows2, hrs2, hrl2, hit2⟩ := que
  have hqB := hrs2.lenB
  refine count_den b.queue.length (fun j H'' O'' => O'' = O' ∧ Heap.le H' H'' ∧ b.queue.all (fun x => fineB x true) = (b.queue.drop j).all (fun x => fineB x true)) ⟨rfl, Heap.le_refl _, rfl⟩ ?_
  rintro j H'' O'' hj - ⟨rfl, hle2, hor2⟩
  have hle2 := Heap.le_trans hle hle2
  refine chkN_den (pure_den _ lq (pure_den _ (lss_eq _ _) (br_den (fun hb => ?_) (fun hb => ?_))))
  ·have hlt : j < b.queue.length := by simpa using hb
   obtain ⟨a, h1, h2, _, h3, h4⟩ := (hrs2.le hle2).idx .i64 j rows2[j] (by simp [hrl2, hlt])
   have hI := (hit2 j rows2[j] b.queue[j] (by simp [hrl2, hlt]) (by simp [hlt])).le hle2
   obtain ⟨s, hrow, hs⟩ := hI
   rw [hrow] at h2 h3 h4
   have hst : (b.queue.drop j).all (fun x => fineB x true) = (fineB b.queue[j] true && (b.queue.drop (j + 1)).all (fun x => fineB x true)) := by rw [List.drop_eq_getElem_cons hlt, List.all_cons]
   refine chkN_den (pure_den _ h1 (load_denR h2 h3 h4 (call_retO (r_Item ⟨s, rfl, hs⟩ true) rfl ⟨rfl, trivial⟩ fun H1 l1 => pure_den _ (not_eq' _) (br_den (fun hc => ret_denO ⟨?_, rfl⟩) (fun hc => ?_)))))
   ·rw [validRB, hor2, hst, notT hc]; simp
   ·refine pure_den _ (add_one (by omega)) (count_cont (by simp [Eqs]) hlt ⟨rfl, ?_, ?_⟩)
    ·exact Heap.le_trans (by assumption) l1
    ·rw [hor2, hst, notF hc]; rfl
  ·have hge2 : b.queue.length ≤ j := by simpa using hb
   rw [List.drop_of_length_le hge2] at hor2
   have hall2 : b.queue.all (fun x => fineB x true) = true := by rw [hor2]; rfl
   have hF : validRB b = (seatOkB b.s0 && (seatOkB b.s1 && (foundR b && fightsRB b))) := by rw [validRB, hnum, hall, hall2]; rfl
   replace h := h.le hle2
   obtain ⟨z1, z2, z3, z4⟩ := stR_ones h.s0
   obtain ⟨z5, z6, z7, z8⟩ := stR_ones h.s1
   refine chkN_den (call_retO (r_seat b.s0 z1 z2 z3 z4 H'' O'') rfl ⟨rfl, trivial⟩ fun H1 l1 => br_den (fun k1 => ?_) (fun k1 => ret_denO ⟨?_, rfl⟩))
   rotate_left
   ·rw [hF, k1]; rfl
   replace h := h.le l1
   refine chkN_den (call_retO (r_seat b.s1 z5 z6 z7 z8 H1 O'') rfl ⟨rfl, trivial⟩ fun H2 l2 => br_den (fun k2 => ?_) (fun k2 => ret_denO ⟨?_, rfl⟩))
   rotate_left
   ·rw [hF, k1, k2]; rfl
   replace h := h.le l2
   refine chkN_den (call_retO (r_found h hfit) rfl ⟨rfl, trivial⟩ fun H3 l3 => br_den (fun k3 => ?_) (fun k3 => ret_denO ⟨?_, rfl⟩))
   rotate_left
   ·rw [hF, k1, k2, k3]; rfl
   replace h := h.le l3
   have ha : b.active = 0 ∨ b.active = 1 := by
    simp only [numsR, decide_eq_true_eq] at hnum
    omega
   refine chkN_den (call_retO (r_fights h ha) rfl ⟨rfl, trivial⟩ fun H4 l4 => ret_denO ⟨?_, rfl⟩)
   rw [hF, k1, k2, k3]; rfl
end Go.Proofs.YtieaihgbjikggaaGreat
namespace Go.Proofs.YtieaihgbjikggaaGreat
open Go Go.Sx
set_option maxRecDepth 100000
set_option maxHeartbeats 1000000
theorem nodup_perm {α : Type} [DecidableEq α] : ∀ {l r : List α}, l.Nodup → (∀ x ∈ l, x ∈ r) → r.length ≤ l.length → r.Perm l
 | [], r, _, _, h => by
  have : r = [] := List.eq_nil_of_length_eq_zero (by simpa using h)
  subst this; exact List.Perm.refl _
 | a :: l, r, hn, hs, h => by
  rw [List.nodup_cons] at hn
  have har : a ∈ r := hs a (by simp)
  have h1 := nodup_perm (l := l) (r := r.erase a) hn.2 (fun x hx => (List.mem_erase_of_ne (fun e => hn.1 (by subst e; exact hx))).2 (hs x (by simp [hx]))) (by
   rw [List.length_erase_of_mem har]; simp only [List.length_cons] at h; omega)
  exact (List.perm_cons_erase har).trans (h1.cons a)
theorem nodup_of_map {α β : Type} (f : α → β) : ∀ {l : List α}, (l.map f).Nodup → l.Nodup
 | [], _ => List.nodup_nil
 | a :: l, h => by
  rw [List.map_cons, List.nodup_cons] at h
  exact List.nodup_cons.2 ⟨fun hm => h.1 (List.mem_map.2 ⟨a, hm, rfl⟩), nodup_of_map f h.2⟩
def ordP : Option Int → List Ob → Bool
 | _, [] => true
 | prev, o :: r => !prevBad prev o.id && ordP (some o.id) r
def ok1 (ps cs : List (Int × Int)) (o : Ob) : Bool := validO o && ((lookI ps o.id).isSome && (((lookI ps o.id).getD 0 == o.owner) && !((lookI cs o.id).isSome && ((lookI cs o.id).getD 0 != o.card))))
def ok2 (b : Bd) (o : Ob) : Bool := validO o && (((placesN b o.owner o.id : Nat) : Int) == 1)
theorem objsGo_eq {ps cs : List (Int × Int)} : ∀ (l : List Ob) (prev : Option Int), objsGo validO ps cs prev l = (ordP prev l && l.all (ok1 ps cs))
 | [], _ => rfl
 | o :: r, prev => by
  simp only [objsGo, objBad, ordP, List.all_cons, ok1, objsGo_eq r (some o.id), bne]
  cases validO o <;> cases prevBad prev o.id <;> cases lookI ps o.id <;> cases lookI cs o.id <;> simp [Bool.and_assoc, Bool.and_comm, Bool.and_left_comm]
theorem objsGoR_eq {b : Bd} : ∀ (l : List Ob) (prev : Option Int), objsGoR b prev l = (ordP prev l && l.all (ok2 b))
 | [], _ => rfl
 | o :: r, prev => by
  simp only [objsGoR, ordP, List.all_cons, ok2, objsGoR_eq r (some o.id)]
  cases validO o <;> cases prevBad prev o.id <;> simp [Bool.and_assoc, Bool.and_comm, Bool.and_left_comm]
theorem ordP_spec : ∀ {l : List Ob} {prev : Option Int}, ordP prev l = true → (∀ o ∈ l, ∀ p, prev = some p → p < o.id) ∧ (l.map (·.id)).Nodup
 | [], _, _ => ⟨by simp, by simp⟩
 | o :: r, prev, h => by
  simp only [ordP, Bool.and_eq_true, Bool.not_eq_true'] at h
  obtain ⟨k1, k2⟩ := ordP_spec h.2
  have hp : ∀ p, prev = some p → p < o.id := by
   rintro p rfl
   have := h.1
   simp only [prevBad, decide_eq_false_iff_not] at this
   omega
  refine ⟨fun x hx p e => ?_, ?_⟩
  ·rcases List.mem_cons.1 hx with rfl | hx
   ·exact hp p e
   ·have := k1 x hx _ rfl; have := hp p e; omega
  ·rw [List.map_cons, List.nodup_cons]
   refine ⟨fun hm => ?_, k2⟩
   obtain ⟨x, hx, e⟩ := List.mem_map.1 hm
   have := k1 x hx _ rfl
   omega
theorem ids_inj {l : List Ob} (h : (l.map (·.id)).Nodup) : ∀ {x y : Ob}, x ∈ l → y ∈ l → x.id = y.id → x = y := by
 induction l with
 | nil => intro x y hx; cases hx
 | cons a l ih =>
  intro x y hx hy e
  rw [List.map_cons, List.nodup_cons] at h
  rcases List.mem_cons.1 hx with k1 | k1 <;> rcases List.mem_cons.1 hy with k2 | k2
  ·rw [k1, k2]
  ·exact absurd (List.mem_map.2 ⟨y, k2, by rw [← e, k1]⟩) h.1
  ·exact absurd (List.mem_map.2 ⟨x, k1, by rw [e, k2]⟩) h.1
  ·exact ih h.2 k1 k2 e
theorem count_pair (l : List Int) (p q id : Int) : (l.map fun i => (i, p)).count (id, q) = if p = q then l.count id else 0 := by
 induction l with
 | nil => simp
 | cons a l ih =>
  simp only [List.map_cons, List.count_cons, ih, beq_iff_eq, Prod.mk.injEq]
  by_cases hp : p = q
  ·simp [hp]
  ·simp [hp]
theorem count_owned {l : List It} (ht : ∀ x ∈ l, x.trig < 0 → x.trig = -1) (p id : Int) : (owned l).count (id, p) = l.countP (onStack p id) := by
 induction l with
 | nil => rfl
 | cons x l ih =>
  have ih := ih fun y hy => ht y (by simp [hy])
  have hx := ht x (by simp)
  rw [show x :: l = [x] ++ l from rfl, owned_append, List.count_append, List.countP_append, ih]
  congr 1
  by_cases h : x.trig < 0
  ·rw [owned_one h, List.count_singleton, List.countP_singleton]
   have h1 := hx h
   have e : ((x.id, x.player) == (id, p)) = onStack p id x := by
    simp only [onStack, h1, beq_self_eq_true, Bool.true_and]
    rw [Bool.eq_iff_iff]
    simp [Prod.ext_iff]
   rw [e]
  ·rw [owned_none h, List.countP_singleton]
   have : onStack p id x = false := by
    have : x.trig ≠ -1 := by omega
    simp [onStack, this]
   rw [this]; rfl
theorem len_owned (l : List It) : (owned l).length = l.countP isCard := by
 rw [owned, List.length_map, cardsOn, List.countP_eq_length_filter]
 congr 2
 funext x
 simp only [isCard]
 by_cases h : x.trig < 0
 ·have : ¬ x.trig ≥ 0 := by omega
  simp [h, this]
 ·have : x.trig ≥ 0 := by omega
  simp [h, this]
theorem len_pairs (b : Bd) : (pairsB b).length = manyS b + b.stack.countP isCard := by
 simp only [pairsB, pairsS, List.length_append, List.length_map, len_owned, manyS]
 omega
theorem count_pairs {b : Bd} (ht : ∀ x ∈ b.stack, x.trig < 0 → x.trig = -1) {p : Int} (hp : p = 0 ∨ p = 1) (id : Int) : (pairsB b).count (id, p) = placesN b p id := by
 simp only [pairsB, pairsS, List.count_append, count_pair, count_owned ht, placesN, zonesN]
 rcases hp with rfl | rfl
 ·simp; omega
 ·simp; omega
theorem found_placed {b : Bd} (ht : ∀ x ∈ b.stack, x.trig < 0 → x.trig = -1) : foundR b = placedB validO b := by
 simp only [foundR, placedB, objsGo_eq, objsGoR_eq]
 have hl : ((((manyS b + b.stack.countP isCard : Nat) : Int) == (b.objs.length : Int)) = decide ((pairsB b).length = b.objs.length)) := by
  rw [len_pairs, Bool.eq_iff_iff]
  simp only [beq_iff_eq, decide_eq_true_eq]
  omega
 rw [hl, Bool.eq_iff_iff]
 simp only [Bool.and_eq_true, List.all_eq_true, decide_eq_true_eq]
 constructor
 ·rintro ⟨hst, ⟨hord, hok⟩, hlen⟩
  obtain ⟨_, hnd⟩ := ordP_spec hord
  have hL : (b.objs.map fun o => (o.id, o.owner)).Nodup := by
   have e : (b.objs.map fun o => (o.id, o.owner)).map (·.1) = b.objs.map (·.id) := by rw [List.map_map]; rfl
   exact nodup_of_map (·.1) (by rw [e]; exact hnd)
  have hsub : ∀ x ∈ (b.objs.map fun o => (o.id, o.owner)), x ∈ pairsB b := by
   intro x hx
   obtain ⟨o, ho, rfl⟩ := List.mem_map.1 hx
   have h2 := hok o ho
   simp only [ok2, Bool.and_eq_true, beq_iff_eq] at h2
   have hc := count_pairs ht (validO_owner h2.1) o.id
   refine List.count_pos_iff.1 ?_
   rw [hc]; omega
  have hperm := nodup_perm hL hsub (by simp [hlen])
  have hfst : ((pairsB b).map (·.1)).Perm (b.objs.map (·.id)) := by
   have := hperm.map (·.1)
   rwa [List.map_map] at this
  have hnp : ((pairsB b).map (·.1)).Nodup := hfst.nodup_iff.2 hnd
  refine ⟨hnp, ⟨hord, fun o ho => ?_⟩, hlen⟩
  have h2 := hok o ho
  simp only [ok2, Bool.and_eq_true, beq_iff_eq] at h2
  have hlk : lookI (pairsB b) o.id = some o.owner := (lookI_some hnp).2 (hsub _ (List.mem_map.2 ⟨o, ho, rfl⟩))
  simp only [ok1, h2.1, hlk, Option.isSome_some, Option.getD_some, beq_self_eq_true, Bool.true_and, Bool.not_eq_true']
  cases hc : lookI (carded b.stack) o.id with
  | none => rfl
  | some c =>
   simp only [Option.isSome_some, Option.getD_some, Bool.true_and, bne_eq_false_iff_eq]
   -- the card on the stack
   have hmem : (o.id, c) ∈ carded b.stack := by
    simp only [lookI, Option.map_eq_some_iff] at hc
    obtain ⟨⟨k, c'⟩, hf, rfl⟩ := hc
    have h3 := List.find?_some hf
    have h4 := List.mem_of_find?_eq_some hf
    simp only [beq_iff_eq] at h3
    rw [h3]; exact h4
   simp only [carded, cardsOn, List.mem_map, List.mem_filter, decide_eq_true_eq, Prod.mk.injEq] at hmem
   obtain ⟨x, ⟨hx, hxt⟩, e1, e2⟩ := hmem
   have hsx := hst x hx
   have hn : decide (x.trig ≥ 0) = false := by simp; omega
   simp only [stItem, hn, Bool.false_or, Bool.not_eq_true', Bool.or_eq_false_iff, decide_eq_false_iff_not, bne_eq_false_iff_eq] at hsx
   rcases idxP_spec (fun o => o.id == x.id) b.objs 0 (by omega) with ⟨e, _⟩ | ⟨k, o', k1, k2, k3⟩
   ·exfalso; apply hsx.1; show idxO b x.id < 0; unfold idxO; omega
   ·have k3 : idxO b x.id = (k : Int) := by unfold idxO; omega
    have hca : cardAt b (idxO b x.id) = o'.card := by rw [k3]; simp [cardAt, k1]
    simp only [beq_iff_eq] at k2
    have : o' = o := ids_inj hnd (List.mem_of_getElem? k1) ho (by rw [k2, e1])
    rw [← e2, ← hsx.2, hca, this]
 ·rintro ⟨hnp, ⟨hord, hok⟩, hlen⟩
  obtain ⟨_, hnd⟩ := ordP_spec hord
  have hids := nodup_back (l := b.objs.map (·.id)) (r := (pairsB b).map (·.1)) hnd (fun y hy => by
   obtain ⟨o, ho, rfl⟩ := List.mem_map.1 hy
   have h2 := hok o ho
   simp only [ok1, Bool.and_eq_true] at h2
   rcases Classical.em (o.id ∈ (pairsB b).map (·.1)) with h | h
   ·exact h
   ·have h3 := h2.2.1; rw [lookI_none.2 h] at h3; cases h3) (by simp [hlen])
  refine ⟨fun x hx => ?_, ⟨hord, fun o ho => ?_⟩, hlen⟩
  ·by_cases hxt : x.trig < 0
   ·have hn : decide (x.trig ≥ 0) = false := by simp; omega
    have hxp : x.id ∈ (pairsB b).map (·.1) := by
     simp only [pairsB, List.map_append, List.mem_append]
     right; right
     simp only [owned, cardsOn, List.mem_map, List.mem_filter, decide_eq_true_eq]
     exact ⟨_, ⟨x, ⟨hx, hxt⟩, rfl⟩, rfl⟩
    obtain ⟨o, ho, hoid⟩ := List.mem_map.1 (hids _ hxp)
    simp only [stItem, hn, Bool.false_or, Bool.not_eq_true', Bool.or_eq_false_iff, decide_eq_false_iff_not, bne_eq_false_iff_eq]
    rcases idxP_spec (fun o => o.id == x.id) b.objs 0 (by omega) with ⟨_, e⟩ | ⟨k, o', k1, k2, k3⟩
    ·have := e o ho; simp [hoid] at this
    ·have k3 : idxO b x.id = (k : Int) := by unfold idxO; omega
     refine ⟨by omega, ?_⟩
     rw [k3]
     simp only [beq_iff_eq] at k2
     have h2 := hok o' (List.mem_of_getElem? k1)
     simp only [ok1, Bool.and_eq_true, Bool.not_eq_true'] at h2
     have hcn : ((carded b.stack).map (·.1)).Nodup := by
      have e : (carded b.stack).map (·.1) = (owned b.stack).map (·.1) := by simp only [carded, owned, List.map_map]; rfl
      rw [e]
      simp only [pairsB, List.map_append] at hnp
      exact (List.nodup_append.1 (List.nodup_append.1 hnp).2.1).2.1
     have hlk : lookI (carded b.stack) x.id = some x.card := (lookI_some hcn).2 (by
      simp only [carded, cardsOn, List.mem_map, List.mem_filter, decide_eq_true_eq]
      exact ⟨x, ⟨hx, hxt⟩, rfl⟩)
     have h3 := h2.2.2.2
     rw [k2, hlk] at h3
     simp only [Option.isSome_some, Option.getD_some, Bool.true_and, bne_eq_false_iff_eq] at h3
     simp only [cardAt, Int.toNat_natCast, k1, Option.map_some, Option.getD_some]
     exact h3.symm
   ·have hn : decide (x.trig ≥ 0) = true := by simp; omega
    simp only [stItem, hn, Bool.true_or]
  ·have h2 := hok o ho
   simp only [ok1, Bool.and_eq_true, beq_iff_eq] at h2
   obtain ⟨v1, v2, v3, _⟩ := h2
   have hlk : lookI (pairsB b) o.id = some o.owner := by
    cases e : lookI (pairsB b) o.id with
    | none => rw [e] at v2; cases v2
    | some c => rw [e] at v3; rw [← v3]; rfl
   have hmem := (lookI_some hnp).1 hlk
   have hnp' : (pairsB b).Nodup := nodup_of_map (·.1) hnp
   have hc := count_pairs ht (validO_owner v1) o.id
   have h1 : (pairsB b).count (o.id, o.owner) = 1 := by
    have a1 := List.count_pos_iff.2 hmem
    have a2 := List.nodup_iff_count.1 hnp' (o.id, o.owner)
    omega
   simp only [ok2, v1, Bool.true_and, beq_iff_eq]
   rw [hc] at h1; omega
end Go.Proofs.YtieaihgbjikggaaGreat
namespace Go.Proofs.YtieaihgbjikggaaGreat
open Go Go.Sx
set_option maxRecDepth 100000
set_option maxHeartbeats 1000000
theorem count_one {l : List Int} (h : l.Nodup) (x : Int) : (((l.count x : Nat) : Int) == 1) = l.contains x := by
 have h1 := List.nodup_iff_count.1 h x
 by_cases hm : x ∈ l
 ·have h2 := List.count_pos_iff.2 hm
  have : l.count x = 1 := by omega
  simp [this, hm]
 ·have : l.count x = 0 := List.count_eq_zero.2 hm
  simp [this, hm]
theorem att_eq {own att : List Int} (ho : own.Nodup) : att.all (attR own att) = (decide att.Nodup && att.all fun x => own.contains x) := by
 rw [Bool.eq_iff_iff]
 simp only [Bool.and_eq_true, List.all_eq_true, decide_eq_true_eq, attR, count_one ho, beq_iff_eq]
 constructor
 ·intro h
  refine ⟨List.nodup_iff_count.2 fun x => ?_, fun x hx => (h x hx).2⟩
  by_cases hm : x ∈ att
  ·have := (h x hm).1; omega
  ·have := List.count_eq_zero.2 hm; omega
 ·rintro ⟨h1, h2⟩ x hx
  refine ⟨?_, h2 x hx⟩
  have := List.nodup_iff_count.1 h1 x
  have := List.count_pos_iff.2 hx
  omega
theorem blk_eq {att other : List Int} (ha : att.Nodup) (ho : other.Nodup) : ∀ (l done : List Bl) (ua ub : List Int), (∀ a, a ∈ ua ↔ ∃ y ∈ done, y.attacker = a) → (∀ a, a ∈ ub ↔ ∃ y ∈ done, y.blocker = a) → blkGo att other ua ub l = blkR att other done l
 | [], _, _, _, _, _ => rfl
 | x :: r, done, ua, ub, h1, h2 => by
  rw [blkGo, blkR, blk_eq ha ho r (done ++ [x]) (x.attacker :: ua) (x.blocker :: ub)]
  ·congr 1
   rw [blkOne, count_one ha, count_one ho, Bool.eq_iff_iff]
   simp only [Bool.and_eq_true, Bool.not_eq_true', List.all_eq_true, crossB, Bool.or_eq_false_iff, beq_eq_false_iff_ne, List.contains_iff_mem]
   have e1 : ua.contains x.attacker = false ↔ ∀ y ∈ done, y.attacker ≠ x.attacker := by
    rw [← Bool.not_eq_true, List.contains_iff_mem, h1]
    exact ⟨fun h y hy e => h ⟨y, hy, e⟩, fun h ⟨y, hy, e⟩ => h y hy e⟩
   have e2 : ub.contains x.blocker = false ↔ ∀ y ∈ done, y.blocker ≠ x.blocker := by
    rw [← Bool.not_eq_true, List.contains_iff_mem, h2]
    exact ⟨fun h y hy e => h ⟨y, hy, e⟩, fun h ⟨y, hy, e⟩ => h y hy e⟩
   rw [e1, e2]
   exact ⟨fun ⟨⟨a, b⟩, c, d⟩ => ⟨b, d, fun y hy => ⟨a y hy, c y hy⟩⟩, fun ⟨b, d, e⟩ => ⟨⟨fun y hy => (e y hy).1, b⟩, fun y hy => (e y hy).2, d⟩⟩
  ·intro a
   simp only [List.mem_cons, h1, List.mem_append, List.mem_singleton]
   constructor
   ·rintro (rfl | ⟨y, hy, e⟩)
    ·exact ⟨x, .inr (.inl rfl), rfl⟩
    ·exact ⟨y, .inl hy, e⟩
   ·rintro ⟨y, hy | hy, e⟩
    ·exact .inr ⟨y, hy, e⟩
    ·rcases hy with rfl | hy
     ·exact .inl e.symm
     ·cases hy
  ·intro a
   simp only [List.mem_cons, h2, List.mem_append, List.mem_singleton]
   constructor
   ·rintro (rfl | ⟨y, hy, e⟩)
    ·exact ⟨x, .inr (.inl rfl), rfl⟩
    ·exact ⟨y, .inl hy, e⟩
   ·rintro ⟨y, hy | hy, e⟩
    ·exact .inr ⟨y, hy, e⟩
    ·rcases hy with rfl | hy
     ·exact .inl e.symm
     ·cases hy
theorem fights_eq {own other att : List Int} {bl : List Bl} (ho : own.Nodup) (ht : other.Nodup) : fightsRf own other att bl = fightsB own other att bl := by
 rw [fightsRf, fightsB, att_eq ho]
 by_cases ha : att.Nodup
 ·rw [blk_eq ha ht bl [] [] [] (by simp) (by simp), Bool.and_assoc]
 ·simp [ha]
theorem placed_field {b : Bd} (h : placedB validO b = true) : b.s0.field.Nodup ∧ b.s1.field.Nodup := by
 simp only [placedB, Bool.and_eq_true, decide_eq_true_eq] at h
 have h1 := h.1
 have e : ∀ (l : List Int) (p : Int), (l.map fun i => (i, p)).map (·.1) = l := fun l p => by rw [List.map_map]; simp [Function.comp_def]
 simp only [pairsB, pairsS, List.map_append, e] at h1
 have h2 := List.nodup_append.1 h1
 have h3 := List.nodup_append.1 h2.2.1
 have f : ∀ {a b c d : List Int}, (a ++ (b ++ (c ++ d))).Nodup → c.Nodup := fun h => (List.nodup_append.1 (List.nodup_append.1 (List.nodup_append.1 h).2.1).2.1).1
 exact ⟨f h2.1, f h3.1⟩
theorem fightsB_eq {b : Bd} (h : placedB validO b = true) : fightsRB b = fightsBd b := by
 obtain ⟨h0, h1⟩ := placed_field h
 rw [fightsRB, fightsBd, fights_eq h0 h1, fights_eq h1 h0]
theorem fine_trig {x : It} {q : Bool} (h : fineB x q = true) : x.trig < 0 → x.trig = -1 := by
 simp only [fineB, withinB, Bool.and_eq_true, decide_eq_true_eq] at h
 omega
theorem valid_eq (b : Bd) : validRB b = validBd b := by
 rw [Bool.eq_iff_iff]
 have hall : ∀ (l : List It) (q : Bool), l.all (fun x => fineB x q) = !(l.any fun x => !fineB x q) := fun l q => by
  induction l with
  | nil => rfl
  | cons a l ih => simp [ih]
 have hnum : numsR b = (withinB b.active 0 1 && (withinB b.turn 0 1000 && (withinB b.phase 0 10 && (withinB b.holder (-1) 1 && !midBad b)))) := by
  rw [Bool.eq_iff_iff]
  simp only [numsR, withinB, midBad, Bool.and_eq_true, Bool.not_eq_true', Bool.or_eq_false_iff, decide_eq_true_eq, decide_eq_false_iff_not, Bool.not_eq_false']
  omega
 have key : ∀ (x y : Bool), (b.stack.all (fun x => fineB x false) = true → x = y) → ((b.stack.all (fun x => fineB x false) && x) = true ↔ (b.stack.all (fun x => fineB x false) && y) = true) := by
  intro x y h
  cases hs : b.stack.all (fun x => fineB x false) with
  | false => simp
  | true => rw [h hs]
 have hf : b.stack.all (fun x => fineB x false) = true → (foundR b && fightsRB b) = (placedB validO b && fightsBd b) := by
  intro hs
  rw [List.all_eq_true] at hs
  rw [found_placed fun x hx => fine_trig (hs x hx)]
  cases hp : placedB validO b with
  | false => rfl
  | true => rw [fightsB_eq hp]
 have e1 : validRB b = (numsR b && (b.queue.all (fun x => fineB x true) && (seatOkB b.s0 && (seatOkB b.s1 && (b.stack.all (fun x => fineB x false) && (foundR b && fightsRB b)))))) := by
  rw [validRB]
  cases b.stack.all (fun x => fineB x false) <;> simp
 have e2 : validBd b = (numsR b && (b.queue.all (fun x => fineB x true) && (seatOkB b.s0 && (seatOkB b.s1 && (b.stack.all (fun x => fineB x false) && (placedB validO b && fightsBd b)))))) := by
  rw [validBd, hnum, hall, hall]
  cases withinB b.active 0 1 <;> cases withinB b.turn 0 1000 <;> cases withinB b.phase 0 10 <;> cases withinB b.holder (-1) 1 <;> cases midBad b <;> cases seatOkB b.s0 <;> cases seatOkB b.s1 <;> cases (b.stack.any fun x => !fineB x false) <;> cases (b.queue.any fun x => !fineB x true) <;> rfl
 rw [e1, e2]
 simp only [Bool.and_eq_true]
 have := key _ _ hf
 simp only [Bool.and_eq_true] at this
 rw [this]
end Go.Proofs.YtieaihgbjikggaaGreat
namespace Go.Proofs.YtieaihgbjikggaaGreat
open Go Go.Sx
set_option maxRecDepth 100000
set_option maxHeartbeats 1000000
end Go.Proofs.YtieaihgbjikggaaGreat
