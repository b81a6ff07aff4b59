/- Which boards are valid: what the reference says; it says what the program says. -/
import Derived.Test.YtjaegdkkiefchaaGreatDoorC13
namespace Go.Proofs.YtjaegdkkiefchaaGreatDoor
open Go Go.Sx
set_option maxRecDepth 100000
set_option maxHeartbeats 1000000

def numsR (b : Bd) : Bool := decide ((0 ≤ b.active ∧ b.active ≤ 1) ∧ (0 ≤ b.turn ∧ b.turn ≤ 1000) ∧ (0 ≤ b.phase ∧ b.phase ≤ 10) ∧ (-1 ≤ b.holder ∧ b.holder ≤ 1) ∧ (0 ≤ b.passes ∧ b.passes ≤ 2) ∧ b.objs.length ≤ 500 ∧ b.stack.length ≤ 200 ∧ b.queue.length ≤ 200)
def validRB (b : Bd) : Bool := numsR b && (b.stack.all (fun x => fineB x false) && (b.queue.all (fun x => fineB x true) && (seatOkB b.s0 && (seatOkB b.s1 && (foundR b && fightsRB b)))))
theorem r_Valid {H : Heap} {O : Own} {v : BV12} {b : Bd} (h : BdR H O v b) (hfit : bdFit b) : RetO PP F_zeitnotref15_Valid [.agg (boardC v b).toArray] H O (.bool (validRB b)) := by
  refine run_zeitnotref15_Valid (vs := boardC v b) (by kernel_rfl) (boardC_ones h) ?_
  simp only [T_zeitnotref15_Valid]
  have lo := h.objs.len
  rw [List.length_map] at lo
  have ls := ItsR.len h.stack
  have lq := ItsR.len h.queue
  refine newbox_den fun r0 => ?_
  repeat (first | refine chkN_den ?_ | refine chkV_den ?_ | refine newbox_den fun _ => ?_ | refine pure_den _ (lss_eq _ _) ?_ | refine pure_den _ (gtr_eq _ _) ?_ | refine pure_den _ (leq_eq _ _) ?_ | refine pure_den _ (geq_eq _ _) ?_ | refine pure_den _ (eql_eq _ _) ?_ | refine pure_den _ (neq_eq _ _) ?_ | refine pure_den _ (pick_and _ _) ?_ | refine pure_den _ (pick_or _ _) ?_ | refine pure_den _ (not_eq' _) ?_ | refine pure_den _ (beql_eq _ _) ?_ | refine pure_den _ (bneq_eq _ _) ?_)
  refine pure_den _ lo ?_
  repeat (first | refine chkN_den ?_ | refine chkV_den ?_ | refine newbox_den fun _ => ?_ | refine pure_den _ (lss_eq _ _) ?_ | refine pure_den _ (gtr_eq _ _) ?_ | refine pure_den _ (leq_eq _ _) ?_ | refine pure_den _ (geq_eq _ _) ?_ | refine pure_den _ (eql_eq _ _) ?_ | refine pure_den _ (neq_eq _ _) ?_ | refine pure_den _ (pick_and _ _) ?_ | refine pure_den _ (pick_or _ _) ?_ | refine pure_den _ (not_eq' _) ?_ | refine pure_den _ (beql_eq _ _) ?_ | refine pure_den _ (bneq_eq _ _) ?_)
  refine pure_den _ ls ?_
  repeat (first | refine chkN_den ?_ | refine chkV_den ?_ | refine newbox_den fun _ => ?_ | refine pure_den _ (lss_eq _ _) ?_ | refine pure_den _ (gtr_eq _ _) ?_ | refine pure_den _ (leq_eq _ _) ?_ | refine pure_den _ (geq_eq _ _) ?_ | refine pure_den _ (eql_eq _ _) ?_ | refine pure_den _ (neq_eq _ _) ?_ | refine pure_den _ (pick_and _ _) ?_ | refine pure_den _ (pick_or _ _) ?_ | refine pure_den _ (not_eq' _) ?_ | refine pure_den _ (beql_eq _ _) ?_ | refine pure_den _ (bneq_eq _ _) ?_)
  refine pure_den _ lq ?_
  repeat (first | refine chkN_den ?_ | refine chkV_den ?_ | refine newbox_den fun _ => ?_ | refine pure_den _ (lss_eq _ _) ?_ | refine pure_den _ (gtr_eq _ _) ?_ | refine pure_den _ (leq_eq _ _) ?_ | refine pure_den _ (geq_eq _ _) ?_ | refine pure_den _ (eql_eq _ _) ?_ | refine pure_den _ (neq_eq _ _) ?_ | refine pure_den _ (pick_and _ _) ?_ | refine pure_den _ (pick_or _ _) ?_ | refine pure_den _ (not_eq' _) ?_ | refine pure_den _ (beql_eq _ _) ?_ | refine pure_den _ (bneq_eq _ _) ?_)
  refine br_den (fun hn => ret_denO ⟨?_, rfl⟩) (fun hn => ?_)
  · have : numsR b = false := by
      simp only [Bool.or_eq_true, decide_eq_true_eq] at hn
      simp only [numsR, decide_eq_false_iff_not]
      omega
    rw [validRB, this]; rfl
  have hnum : numsR b = true := by
    simp only [Bool.or_eq_false_iff, decide_eq_false_iff_not] at hn
    simp only [numsR, decide_eq_true_eq]
    omega
  have stk := h.stack
  obtain ⟨rows, hrs, hrl, hit⟩ := stk
  have hsB := hrs.lenB
  refine count_den b.stack.length (fun i H' O' => O' = O ∧ Heap.le H H' ∧ b.stack.all (fun x => fineB x false) = (b.stack.drop i).all (fun x => fineB x false)) ⟨rfl, Heap.le_refl H, rfl⟩ ?_
  rintro i H' O' hi - ⟨rfl, hle, hor⟩
  refine chkN_den (pure_den _ ls (pure_den _ (lss_eq _ _) (br_den (fun hb => ?_) (fun hb => ?_))))
  · have hlt : i < b.stack.length := by simpa using hb
    obtain ⟨a, h1, h2, _, h3, h4⟩ := (hrs.le hle).idx .i64 i rows[i] (by simp [hrl, hlt])
    have hI := (hit i rows[i] b.stack[i] (by simp [hrl, hlt]) (by simp [hlt])).le hle
    obtain ⟨s, hrow, hs⟩ := hI
    rw [hrow] at h2 h3 h4
    have hst : (b.stack.drop i).all (fun x => fineB x false) = (fineB b.stack[i] false && (b.stack.drop (i + 1)).all (fun x => fineB x false)) := by rw [List.drop_eq_getElem_cons hlt, List.all_cons]
    refine chkN_den (pure_den _ h1 (load_denR h2 h3 h4 (call_retO (r_Item ⟨s, rfl, hs⟩ false) rfl ⟨rfl, trivial⟩ fun H1 l1 => pure_den _ (not_eq' _) (br_den (fun hc => ret_denO ⟨?_, rfl⟩) (fun hc => ?_)))))
    · rw [validRB, hor, hst, notT hc]; simp
    · refine pure_den _ (add_one (by omega)) (count_cont (by simp [Eqs]) hlt ⟨rfl, Heap.le_trans hle l1, ?_⟩)
      rw [hor, hst, notF hc]; rfl
  · have hge : b.stack.length ≤ i := by simpa using hb
    rw [List.drop_of_length_le hge] at hor
    have hall : b.stack.all (fun x => fineB x false) = true := by rw [hor]; rfl
    have que := h.queue
    obtain ⟨rows2, hrs2, hrl2, hit2⟩ := que
    have hqB := hrs2.lenB
    refine count_den b.queue.length (fun j H'' O'' => O'' = O' ∧ Heap.le H' H'' ∧ b.queue.all (fun x => fineB x true) = (b.queue.drop j).all (fun x => fineB x true)) ⟨rfl, Heap.le_refl _, rfl⟩ ?_
    rintro j H'' O'' hj - ⟨rfl, hle2, hor2⟩
    have hle2 := Heap.le_trans hle hle2
    refine chkN_den (pure_den _ lq (pure_den _ (lss_eq _ _) (br_den (fun hb => ?_) (fun hb => ?_))))
    · have hlt : j < b.queue.length := by simpa using hb
      obtain ⟨a, h1, h2, _, h3, h4⟩ := (hrs2.le hle2).idx .i64 j rows2[j] (by simp [hrl2, hlt])
      have hI := (hit2 j rows2[j] b.queue[j] (by simp [hrl2, hlt]) (by simp [hlt])).le hle2
      obtain ⟨s, hrow, hs⟩ := hI
      rw [hrow] at h2 h3 h4
      have hst : (b.queue.drop j).all (fun x => fineB x true) = (fineB b.queue[j] true && (b.queue.drop (j + 1)).all (fun x => fineB x true)) := by rw [List.drop_eq_getElem_cons hlt, List.all_cons]
      refine chkN_den (pure_den _ h1 (load_denR h2 h3 h4 (call_retO (r_Item ⟨s, rfl, hs⟩ true) rfl ⟨rfl, trivial⟩ fun H1 l1 => pure_den _ (not_eq' _) (br_den (fun hc => ret_denO ⟨?_, rfl⟩) (fun hc => ?_)))))
      · rw [validRB, hor2, hst, notT hc]; simp
      · refine pure_den _ (add_one (by omega)) (count_cont (by simp [Eqs]) hlt ⟨rfl, ?_, ?_⟩)
        · exact Heap.le_trans (by assumption) l1
        · rw [hor2, hst, notF hc]; rfl
    · have hge2 : b.queue.length ≤ j := by simpa using hb
      rw [List.drop_of_length_le hge2] at hor2
      have hall2 : b.queue.all (fun x => fineB x true) = true := by rw [hor2]; rfl
      have hF : validRB b = (seatOkB b.s0 && (seatOkB b.s1 && (foundR b && fightsRB b))) := by rw [validRB, hnum, hall, hall2]; rfl
      replace h := h.le hle2
      obtain ⟨z1, z2, z3, z4⟩ := stR_ones h.s0
      obtain ⟨z5, z6, z7, z8⟩ := stR_ones h.s1
      refine chkN_den (call_retO (r_seat b.s0 z1 z2 z3 z4 H'' O'') rfl ⟨rfl, trivial⟩ fun H1 l1 => br_den (fun k1 => ?_) (fun k1 => ret_denO ⟨?_, rfl⟩))
      rotate_left
      · rw [hF, k1]; rfl
      replace h := h.le l1
      refine chkN_den (call_retO (r_seat b.s1 z5 z6 z7 z8 H1 O'') rfl ⟨rfl, trivial⟩ fun H2 l2 => br_den (fun k2 => ?_) (fun k2 => ret_denO ⟨?_, rfl⟩))
      rotate_left
      · rw [hF, k1, k2]; rfl
      replace h := h.le l2
      refine chkN_den (call_retO (r_found h hfit) rfl ⟨rfl, trivial⟩ fun H3 l3 => br_den (fun k3 => ?_) (fun k3 => ret_denO ⟨?_, rfl⟩))
      rotate_left
      · rw [hF, k1, k2, k3]; rfl
      replace h := h.le l3
      have ha : b.active = 0 ∨ b.active = 1 := by
        simp only [numsR, decide_eq_true_eq] at hnum
        omega
      refine chkN_den (call_retO (r_fights h ha) rfl ⟨rfl, trivial⟩ fun H4 l4 => ret_denO ⟨?_, rfl⟩)
      rw [hF, k1, k2, k3]; rfl
end Go.Proofs.YtjaegdkkiefchaaGreatDoor
