/- Which boards are valid: what the program says. -/
import Derived.Test.YtjaegdkkiefchaaGreatDoorC7
namespace Go.Proofs.YtjaegdkkiefchaaGreatDoor
open Go Go.Sx
set_option maxRecDepth 100000
set_option maxHeartbeats 1000000

theorem nodup_le {α : Type} [DecidableEq α] : ∀ {l r : List α}, l.Nodup → (∀ x ∈ l, x ∈ r) → l.length ≤ r.length
  | [], _, _, _ => Nat.zero_le _
  | a :: l, r, hn, hs => by
    rw [List.nodup_cons] at hn
    have har : a ∈ r := hs a (by simp)
    have h1 := nodup_le (r := r.erase a) hn.2 fun x hx => by
      have : x ≠ a := fun e => hn.1 (e ▸ hx)
      exact (List.mem_erase_of_ne this).2 (hs x (by simp [hx]))
    rw [List.length_erase_of_mem har] at h1
    have := List.length_pos_of_mem har
    simp only [List.length_cons]; omega
theorem nodup_back {α : Type} [DecidableEq α] {l r : List α} (hn : l.Nodup) (hs : ∀ x ∈ l, x ∈ r) (hl : r.length ≤ l.length) : ∀ x ∈ r, x ∈ l := by
  intro x hx
  rcases Classical.em (x ∈ l) with h | h
  · exact h
  · have := nodup_le (l := x :: l) (r := r) (List.nodup_cons.2 ⟨h, hn⟩) (fun y hy => by
      rcases List.mem_cons.1 hy with rfl | hy
      · exact hx
      · exact hs y hy)
    simp only [List.length_cons] at this; omega
theorem objs_spec {val : Ob → Bool} {ps cs : List (Int × Int)} : ∀ {l : List Ob} {prev : Option Int}, objsGo val ps cs prev l = true →
    (∀ o ∈ l, val o = true ∧ (lookI ps o.id).isSome = true ∧ ∀ p, prev = some p → p < o.id) ∧ (l.map (·.id)).Nodup
  | [], _, _ => ⟨by simp, by simp⟩
  | o :: r, prev, h => by
    simp only [objsGo, objBad, Bool.and_eq_true, Bool.not_eq_true', Bool.or_eq_false_iff, Bool.not_eq_false'] at h
    obtain ⟨⟨⟨⟨⟨h1, h2⟩, h3⟩, _⟩, _⟩, h6⟩ := h
    obtain ⟨k1, k2⟩ := objs_spec h6
    have hp : ∀ p, prev = some p → p < o.id := by
      rintro p rfl
      simp only [prevBad, decide_eq_false_iff_not] at h2
      omega
    refine ⟨?_, ?_⟩
    · intro x hx
      rcases List.mem_cons.1 hx with rfl | hx
      · refine ⟨h1, ?_, hp⟩
        cases hl : lookI ps x.id with
        | none => rw [hl] at h3; cases h3
        | some v => rfl
      · obtain ⟨a1, a2, a3⟩ := k1 x hx
        exact ⟨a1, a2, fun p e => by have := a3 _ rfl; have := hp p e; omega⟩
    · rw [List.map_cons, List.nodup_cons]
      refine ⟨?_, k2⟩
      intro hm
      obtain ⟨x, hx, e⟩ := List.mem_map.1 hm
      have := (k1 x hx).2.2 _ rfl
      omega
/-- The pairs' numbers are those of the objects. -/
theorem placed_ids {val : Ob → Bool} {b : Bd} (h : placedB val b = true) : ∀ x ∈ (pairsB b).map (·.1), ∃ o ∈ b.objs, o.id = x ∧ val o = true := by
  simp only [placedB, Bool.and_eq_true, decide_eq_true_eq] at h
  obtain ⟨_, h2, h3⟩ := h
  obtain ⟨k1, k2⟩ := objs_spec h2
  intro x hx
  have := nodup_back (l := b.objs.map (·.id)) (r := (pairsB b).map (·.1)) k2 (fun y hy => by
    obtain ⟨o, ho, rfl⟩ := List.mem_map.1 hy
    have := (k1 o ho).2.1
    rcases Classical.em (o.id ∈ (pairsB b).map (·.1)) with h | h
    · exact h
    · rw [lookI_none.2 h] at this; cases this) (by simp [h3]) x hx
  obtain ⟨o, ho, rfl⟩ := List.mem_map.1 this
  exact ⟨o, ho, rfl, (k1 o ho).1⟩
theorem validO_id {o : Ob} (h : validO o = true) : 1 ≤ o.id ∧ o.id ≤ 500 := by
  simp only [validO, Bool.and_eq_true, decide_eq_true_eq] at h
  exact ⟨h.1.2.1.1.1.2, h.1.2.1.1.2⟩
theorem placed_pos {b : Bd} (h : placedB validO b = true) : ∀ x, x ∈ b.s0.field ∨ x ∈ b.s1.field → 0 < x ∧ x ≤ 500 := by
  intro x hx
  obtain ⟨o, _, rfl, ho⟩ := placed_ids h x (by
    simp only [pairsB, pairsS, List.map_append, List.map_map, List.mem_append, List.mem_map, Function.comp]
    rcases hx with hx | hx
    · left; right; right; left; exact ⟨x, hx, rfl⟩
    · right; left; right; right; left; exact ⟨x, hx, rfl⟩)
  have := validO_id ho
  omega
def fightsBd (b : Bd) : Bool := if b.active = 0 then fightsB b.s0.field b.s1.field b.att b.blocks else fightsB b.s1.field b.s0.field b.att b.blocks
theorem c_fights {H : Heap} {O : Own} {v : BV12} {b : Bd} (h : BdR H O v b) (ha : b.active = 0 ∨ b.active = 1) (hp : ∀ x, x ∈ b.s0.field ∨ x ∈ b.s1.field → 0 < x ∧ x ≤ 500) :
    RetO PP F_board_fights [.agg (boardC v b).toArray] H O (.bool (fightsBd b)) := by
  refine run_board_fights (vs := boardC v b) (by kernel_rfl) (boardC_ones h) ?_
  simp only [T_board_fights]
  refine newbox_den fun r0 => chkN_den ?_
  have e34 : g (boardC v b) 34 = iV b.active := rfl
  rw [e34]
  have hs : ∀ n : Int, n = 0 ∨ n = 1 → evalPure (.bin .sub .int) [iV 1, iV n] = some (iV (1 - n)) := by
    rintro n (rfl | rfl) <;> rfl
  rcases ha with ha | ha
  · rw [ha]
    refine ⟨.i64, 0, rfl, fun _ => chkN_den (chkN_den (pure_den _ (hs 0 (.inl rfl)) ⟨.i64, 1, rfl, fun e => absurd e (by omega), fun _ => ⟨.i64, 1, rfl, fun _ => ?_, fun e => absurd rfl e⟩⟩)), fun e => absurd rfl e⟩
    refine chkN_den ?_
    refine fights_den h.s0.field h.s1.field h.att h.blocks (fun x hx => (hp x (.inl hx)).1) (fun x hx => hp x (.inr hx)) ?_ ?_ ?_
    · intros; simp [Eqs]
    · intros; simp [Eqs]
    · exact fun H' _ => ⟨by simp [fightsBd, ha], rfl⟩
  · rw [ha]
    refine ⟨.i64, 1, rfl, fun e => absurd e (by omega), fun _ => ⟨.i64, 1, rfl, fun _ => chkN_den (chkN_den (pure_den _ (hs 1 (.inr rfl)) ⟨.i64, 0, rfl, fun _ => ?_, fun e => absurd rfl e⟩)), fun e => absurd rfl e⟩⟩
    refine chkN_den ?_
    refine fights_den h.s1.field h.s0.field h.att h.blocks (fun x hx => (hp x (.inr hx)).1) (fun x hx => hp x (.inl hx)) ?_ ?_ ?_
    · intros; simp [Eqs]
    · intros; simp [Eqs]
    · exact fun H' _ => ⟨by simp [fightsBd, ha], rfl⟩
theorem notT {b : Bool} (h : (!b) = true) : b = false := by simpa using h
theorem notF {b : Bool} (h : (!b) = false) : b = true := by simpa using h
/-- Is a seat valid? -/
def seatOkB (s : St) : Bool := withinB s.life 0 9999 && (([s.p0, s.p1, s.p2, s.p3].all fun n => withinB n 0 99) && (withinB s.mull 0 7 && withinB s.acts 0 255))
def midBad (b : Bd) : Bool := ((!withinB b.passes 0 2 || decide ((b.objs.length : Int) > 500)) || decide ((b.stack.length : Int) > 200)) || decide ((b.queue.length : Int) > 200)
/-- Is a board valid? -/
def validBd (b : Bd) : Bool := withinB b.active 0 1 && (withinB b.turn 0 1000 && (withinB b.phase 0 10 && (withinB b.holder (-1) 1 && (!midBad b && (seatOkB b.s0 && (seatOkB b.s1 &&
  (!(b.stack.any fun x => !fineB x false) && (!(b.queue.any fun x => !fineB x true) && (placedB validO b && fightsBd b)))))))))
theorem c_board_Valid {H : Heap} {O : Own} {v : BV12} {b : Bd} (h : BdR H O v b) : RetO PP F_board_Valid [.agg (boardC v b).toArray] H O (.bool (validBd b)) := by
  refine run_board_Valid (vs := boardC v b) (by kernel_rfl) (boardC_ones h) ?_
  simp only [T_board_Valid]
  refine newbox_den fun r0 => ?_
  refine chkN_den (call_retO (c_within b.active 0 1 H O) rfl ⟨rfl, trivial⟩ fun H1 l1 => pure_den _ (not_eq' _) (br_den (fun hb => ret_denO ⟨?_, rfl⟩) (fun hb => ?_)))
  · have kf : withinB b.active 0 1 = false := notT hb
    simp only [validBd, kf, Bool.true_and, Bool.false_and, Bool.and_false]
  have k1 : withinB b.active 0 1 = true := notF hb
  replace h := h.le l1
  clear hb
  refine chkN_den (call_retO (c_within b.turn 0 1000 H1 O) rfl ⟨rfl, trivial⟩ fun H2 l2 => pure_den _ (not_eq' _) (br_den (fun hb => ret_denO ⟨?_, rfl⟩) (fun hb => ?_)))
  · have kf : withinB b.turn 0 1000 = false := notT hb
    simp only [validBd, k1, kf, Bool.true_and, Bool.false_and, Bool.and_false]
  have k2 : withinB b.turn 0 1000 = true := notF hb
  replace h := h.le l2
  clear hb
  refine chkN_den (call_retO (c_within b.phase 0 10 H2 O) rfl ⟨rfl, trivial⟩ fun H3 l3 => pure_den _ (not_eq' _) (br_den (fun hb => ret_denO ⟨?_, rfl⟩) (fun hb => ?_)))
  · have kf : withinB b.phase 0 10 = false := notT hb
    simp only [validBd, k1, k2, kf, Bool.true_and, Bool.false_and, Bool.and_false]
  have k3 : withinB b.phase 0 10 = true := notF hb
  replace h := h.le l3
  clear hb
  refine chkN_den (call_retO (c_within b.holder (-1) 1 H3 O) rfl ⟨rfl, trivial⟩ fun H4 l4 => pure_den _ (not_eq' _) (br_den (fun hb => ret_denO ⟨?_, rfl⟩) (fun hb => ?_)))
  · have kf : withinB b.holder (-1) 1 = false := notT hb
    simp only [validBd, k1, k2, k3, kf, Bool.true_and, Bool.false_and, Bool.and_false]
  have k4 : withinB b.holder (-1) 1 = true := notF hb
  replace h := h.le l4
  clear hb
  refine chkN_den (call_retO (c_within b.passes 0 2 H4 O) rfl ⟨rfl, trivial⟩ fun H5 l5 => pure_den _ (not_eq' _) ?_)
  replace h := h.le l5
  have lo := h.objs.len
  rw [List.length_map] at lo
  repeat (first | refine chkN_den ?_ | refine chkV_den ?_)
  refine pure_den _ (lo) (chkV_den (pure_den _ (gtr_eq _ _) (chkV_den (pure_den _ (pick_or _ _) ?_))))
  repeat (first | refine chkN_den ?_ | refine chkV_den ?_)
  refine pure_den _ (ItsR.len h.stack) (chkV_den (pure_den _ (gtr_eq _ _) (chkV_den (pure_den _ (pick_or _ _) ?_))))
  repeat (first | refine chkN_den ?_ | refine chkV_den ?_)
  refine pure_den _ (ItsR.len h.queue) (chkV_den (pure_den _ (gtr_eq _ _) (chkV_den (pure_den _ (pick_or _ _) ?_))))
  refine br_den (fun hb => ret_denO ⟨?_, rfl⟩) (fun hb => ?_)
  · have kf : midBad b = true := hb
    simp only [validBd, k1, k2, k3, k4, kf, Bool.true_and, Bool.not_true, Bool.false_and]
  have kmid : midBad b = false := hb
  clear hb
  refine chkN_den (newbox_den fun r1 => chkN_den ?_)
  refine chkN_den (call_retO (c_within b.s0.life 0 9999 H5 O) rfl ⟨rfl, trivial⟩ fun H6 l6 => pure_den _ (not_eq' _) (br_den (fun hb => ret_denO ⟨?_, rfl⟩) (fun hb => ?_)))
  · have kf : withinB b.s0.life 0 9999 = false := notT hb
    simp only [validBd, seatOkB, k1, k2, k3, k4, kmid, kf, Bool.true_and, Bool.false_and, Bool.and_false, Bool.not_false]
  have k6 : withinB b.s0.life 0 9999 = true := notF hb
  replace h := h.le l6
  clear hb
  refine chkN_den (call_retO (c_mana_Valid b.s0.p0 b.s0.p1 b.s0.p2 b.s0.p3 H6 O) rfl ⟨rfl, trivial⟩ fun H7 l7 => pure_den _ (not_eq' _) (br_den (fun hb => ret_denO ⟨?_, rfl⟩) (fun hb => ?_)))
  · have kf : ([b.s0.p0, b.s0.p1, b.s0.p2, b.s0.p3].all fun n => withinB n 0 99) = false := notT hb
    simp only [validBd, seatOkB, k1, k2, k3, k4, kmid, k6, kf, Bool.true_and, Bool.false_and, Bool.and_false, Bool.not_false]
  have k7 : ([b.s0.p0, b.s0.p1, b.s0.p2, b.s0.p3].all fun n => withinB n 0 99) = true := notF hb
  replace h := h.le l7
  clear hb
  refine chkN_den (call_retO (c_within b.s0.mull 0 7 H7 O) rfl ⟨rfl, trivial⟩ fun H8 l8 => pure_den _ (not_eq' _) (br_den (fun hb => ret_denO ⟨?_, rfl⟩) (fun hb => ?_)))
  · have kf : withinB b.s0.mull 0 7 = false := notT hb
    simp only [validBd, seatOkB, k1, k2, k3, k4, kmid, k6, k7, kf, Bool.true_and, Bool.false_and, Bool.and_false, Bool.not_false]
  have k8 : withinB b.s0.mull 0 7 = true := notF hb
  replace h := h.le l8
  clear hb
  refine chkN_den (call_retO (c_within b.s0.acts 0 255 H8 O) rfl ⟨rfl, trivial⟩ fun H9 l9 => pure_den _ (not_eq' _) (br_den (fun hb => ret_denO ⟨?_, rfl⟩) (fun hb => ?_)))
  · have kf : withinB b.s0.acts 0 255 = false := notT hb
    simp only [validBd, seatOkB, k1, k2, k3, k4, kmid, k6, k7, k8, kf, Bool.true_and, Bool.false_and, Bool.and_false, Bool.not_false]
  have k9 : withinB b.s0.acts 0 255 = true := notF hb
  replace h := h.le l9
  clear hb
  refine newbox_den fun r2 => chkN_den ?_
  refine chkN_den (call_retO (c_within b.s1.life 0 9999 H9 O) rfl ⟨rfl, trivial⟩ fun H10 l10 => pure_den _ (not_eq' _) (br_den (fun hb => ret_denO ⟨?_, rfl⟩) (fun hb => ?_)))
  · have kf : withinB b.s1.life 0 9999 = false := notT hb
    simp only [validBd, seatOkB, k1, k2, k3, k4, kmid, k6, k7, k8, k9, kf, Bool.true_and, Bool.false_and, Bool.and_false, Bool.not_false]
  have k10 : withinB b.s1.life 0 9999 = true := notF hb
  replace h := h.le l10
  clear hb
  refine chkN_den (call_retO (c_mana_Valid b.s1.p0 b.s1.p1 b.s1.p2 b.s1.p3 H10 O) rfl ⟨rfl, trivial⟩ fun H11 l11 => pure_den _ (not_eq' _) (br_den (fun hb => ret_denO ⟨?_, rfl⟩) (fun hb => ?_)))
  · have kf : ([b.s1.p0, b.s1.p1, b.s1.p2, b.s1.p3].all fun n => withinB n 0 99) = false := notT hb
    simp only [validBd, seatOkB, k1, k2, k3, k4, kmid, k6, k7, k8, k9, k10, kf, Bool.true_and, Bool.false_and, Bool.and_false, Bool.not_false]
  have k11 : ([b.s1.p0, b.s1.p1, b.s1.p2, b.s1.p3].all fun n => withinB n 0 99) = true := notF hb
  replace h := h.le l11
  clear hb
  refine chkN_den (call_retO (c_within b.s1.mull 0 7 H11 O) rfl ⟨rfl, trivial⟩ fun H12 l12 => pure_den _ (not_eq' _) (br_den (fun hb => ret_denO ⟨?_, rfl⟩) (fun hb => ?_)))
  · have kf : withinB b.s1.mull 0 7 = false := notT hb
    simp only [validBd, seatOkB, k1, k2, k3, k4, kmid, k6, k7, k8, k9, k10, k11, kf, Bool.true_and, Bool.false_and, Bool.and_false, Bool.not_false]
  have k12 : withinB b.s1.mull 0 7 = true := notF hb
  replace h := h.le l12
  clear hb
  refine chkN_den (call_retO (c_within b.s1.acts 0 255 H12 O) rfl ⟨rfl, trivial⟩ fun H13 l13 => pure_den _ (not_eq' _) (br_den (fun hb => ret_denO ⟨?_, rfl⟩) (fun hb => ?_)))
  · have kf : withinB b.s1.acts 0 255 = false := notT hb
    simp only [validBd, seatOkB, k1, k2, k3, k4, kmid, k6, k7, k8, k9, k10, k11, k12, kf, Bool.true_and, Bool.false_and, Bool.and_false, Bool.not_false]
  have k13 : withinB b.s1.acts 0 255 = true := notF hb
  replace h := h.le l13
  clear hb
  refine chkN_den (call_retO (c_ContainsFunc_Item (p := fun x => !fineB x false) h.stack rfl (okFn_of okL_ok (by decide)) fun H' _ row x hx => c_Valid_1 hx) rfl ⟨rfl, trivial⟩ fun H20 l20 => br_den (fun hb => ret_denO ⟨?_, rfl⟩) (fun hb => ?_))
  · simp only [validBd, seatOkB, k1, k2, k3, k4, kmid, k6, k7, k8, k9, k10, k11, k12, k13, hb, Bool.true_and, Bool.not_true, Bool.not_false, Bool.false_and]
  replace h := h.le l20
  refine chkN_den (call_retO (c_ContainsFunc_Item (p := fun x => !fineB x true) h.queue rfl (okFn_of okL_ok (by decide)) fun H' _ row x hx => c_Valid_2 hx) rfl ⟨rfl, trivial⟩ fun H21 l21 => pure_den _ (not_eq' _) (br_den (fun hq => ?_) (fun hq => ret_denO ⟨?_, rfl⟩)))
  · replace h := h.le l21
    simp only [Bool.not_eq_true'] at hq
    have hfin : validBd b = (placedB validO b && fightsBd b) := by simp only [validBd, seatOkB, k1, k2, k3, k4, kmid, k6, k7, k8, k9, k10, k11, k12, k13, hb, hq, Bool.true_and, Bool.not_false]
    refine chkN_den (call_retO (c_placed h) rfl ⟨rfl, trivial⟩ fun H22 l22 => br_den (fun hp => ?_) (fun hp => ret_denO ⟨?_, rfl⟩))
    · replace h := h.le l22
      have ha : b.active = 0 ∨ b.active = 1 := by have := k1; simp only [withinB, decide_eq_true_eq] at this; omega
      refine chkN_den (call_retO (c_fights h ha (placed_pos hp)) rfl ⟨rfl, trivial⟩ fun H23 l23 => ret_denO ⟨?_, rfl⟩)
      rw [hfin, hp, Bool.true_and]; rfl
    · rw [hfin, hp]; rfl
  · simp only [Bool.not_eq_false'] at hq
    simp only [validBd, seatOkB, k1, k2, k3, k4, kmid, k6, k7, k8, k9, k10, k11, k12, k13, hb, hq, Bool.true_and, Bool.not_false, Bool.not_true, Bool.false_and]
end Go.Proofs.YtjaegdkkiefchaaGreatDoor
