/- Which objects, items and seats are valid: what the reference says. -/
import Derived.Test.YtjaegdkkiefchaaGreatDoorC8
namespace Go.Proofs.YtjaegdkkiefchaaGreatDoor
open Go Go.Sx
set_option maxRecDepth 100000
set_option maxHeartbeats 1000000

theorem boolV {a b : Bool} (h : a = true ↔ b = true) : (Value.bool a : Value) = .bool b := by rw [Bool.eq_iff_iff.2 h]
theorem r_Small (n : Int) (H : Heap) (O : Own) : RetO PP F_zeitnotref14_Small [iV n] H O (.bool (withinB n 0 99)) := by
  refine run_zeitnotref14_Small (vs := [iV n]) (by kernel_rfl) ⟨rfl, trivial⟩ ?_
  simp only [T_zeitnotref14_Small]
  repeat (first | refine chkN_den ?_ | refine chkV_den ?_ | refine newbox_den fun _ => ?_ | refine pure_den _ (lss_eq _ _) ?_ | refine pure_den _ (gtr_eq _ _) ?_ | refine pure_den _ (leq_eq _ _) ?_ | refine pure_den _ (geq_eq _ _) ?_ | refine pure_den _ (eql_eq _ _) ?_ | refine pure_den _ (neq_eq _ _) ?_ | refine pure_den _ (pick_and _ _) ?_ | refine pure_den _ (pick_or _ _) ?_ | refine pure_den _ (not_eq' _) ?_ | refine pure_den _ (beql_eq _ _) ?_ | refine pure_den _ (bneq_eq _ _) ?_)
  refine ret_denO ⟨boolV ?_, rfl⟩
  simp [withinB]
theorem validO_iff (o : Ob) : validO o = true ↔ ((0 ≤ o.power ∧ o.power ≤ 99) ∧ (0 ≤ o.tough ∧ o.tough ≤ 99) ∧ (0 ≤ o.dmg ∧ o.dmg ≤ 99) ∧ (0 ≤ o.cnt ∧ o.cnt ≤ 99) ∧ (0 ≤ o.pp ∧ o.pp ≤ 99) ∧ (0 ≤ o.pt ∧ o.pt ≤ 99)) ∧
    (o.card = -1 ∨ (o.power = 0 ∧ o.tough = 0)) ∧ 1 ≤ o.id ∧ o.id ≤ 500 ∧ -1 ≤ o.card ∧ o.card < 400 ∧ (o.owner = 0 ∨ o.owner = 1) := by
  simp only [validO, withinB, List.all_cons, List.all_nil, Bool.and_true, Bool.and_eq_true, Bool.or_eq_true, decide_eq_true_eq, beq_iff_eq, ge_iff_le]
  omega
theorem r_object_Valid (o : Ob) (H : Heap) (O : Own) : RetO PP F_zeitnotref14_Valid [.agg o.row.toArray] H O (.bool (validO o)) := by
  refine run_zeitnotref14_Valid (vs := o.row) (by kernel_rfl) (by simp [Ob.row, Ones, Value.oneCell']) ?_
  simp only [T_zeitnotref14_Valid]
  repeat (first | refine chkN_den ?_ | refine chkV_den ?_ | refine newbox_den fun _ => ?_ | refine pure_den _ (lss_eq _ _) ?_ | refine pure_den _ (gtr_eq _ _) ?_ | refine pure_den _ (leq_eq _ _) ?_ | refine pure_den _ (geq_eq _ _) ?_ | refine pure_den _ (eql_eq _ _) ?_ | refine pure_den _ (neq_eq _ _) ?_ | refine pure_den _ (pick_and _ _) ?_ | refine pure_den _ (pick_or _ _) ?_ | refine pure_den _ (not_eq' _) ?_ | refine pure_den _ (beql_eq _ _) ?_ | refine pure_den _ (bneq_eq _ _) ?_)
  refine br_den (fun h1 => ret_denO ⟨boolV ?_, rfl⟩) (fun h1 => ?_)
  · rw [validO_iff]; simp at h1 ⊢; omega
  repeat (first | refine chkN_den ?_ | refine chkV_den ?_ | refine newbox_den fun _ => ?_ | refine pure_den _ (lss_eq _ _) ?_ | refine pure_den _ (gtr_eq _ _) ?_ | refine pure_den _ (leq_eq _ _) ?_ | refine pure_den _ (geq_eq _ _) ?_ | refine pure_den _ (eql_eq _ _) ?_ | refine pure_den _ (neq_eq _ _) ?_ | refine pure_den _ (pick_and _ _) ?_ | refine pure_den _ (pick_or _ _) ?_ | refine pure_den _ (not_eq' _) ?_ | refine pure_den _ (beql_eq _ _) ?_ | refine pure_den _ (bneq_eq _ _) ?_)
  refine br_den (fun h2 => ret_denO ⟨boolV ?_, rfl⟩) (fun h2 => ?_)
  · rw [validO_iff]; simp at h1 h2 ⊢; omega
  have key : ∀ (x : Bool), (x = true ↔ ((0 ≤ o.power ∧ o.power ≤ 99) ∧ (0 ≤ o.tough ∧ o.tough ≤ 99) ∧ (0 ≤ o.dmg ∧ o.dmg ≤ 99) ∧ (0 ≤ o.cnt ∧ o.cnt ≤ 99) ∧ (0 ≤ o.pp ∧ o.pp ≤ 99) ∧ (0 ≤ o.pt ∧ o.pt ≤ 99))) → (Value.bool x : Value) = .bool (validO o) := by
    intro x hx
    refine boolV ?_
    rw [hx, validO_iff]
    simp at h1 h2 ⊢; omega
  refine chkN_den (call_retO (r_Small o.power H O) rfl ⟨rfl, trivial⟩ fun H1 _ => br_den (fun k1 => ?_) (fun k1 => ret_denO ⟨key _ ?_, rfl⟩))
  rotate_left
  · simp [withinB] at k1 ⊢; omega
  refine chkN_den (call_retO (r_Small o.tough H1 O) rfl ⟨rfl, trivial⟩ fun H2 _ => br_den (fun k2 => ?_) (fun k2 => ret_denO ⟨key _ ?_, rfl⟩))
  rotate_left
  · simp [withinB] at k2 ⊢; omega
  refine chkN_den (call_retO (r_Small o.dmg H2 O) rfl ⟨rfl, trivial⟩ fun H3 _ => br_den (fun k3 => ?_) (fun k3 => ret_denO ⟨key _ ?_, rfl⟩))
  rotate_left
  · simp [withinB] at k3 ⊢; omega
  refine chkN_den (call_retO (r_Small o.cnt H3 O) rfl ⟨rfl, trivial⟩ fun H4 _ => br_den (fun k4 => ?_) (fun k4 => ret_denO ⟨key _ ?_, rfl⟩))
  rotate_left
  · simp [withinB] at k4 ⊢; omega
  refine chkN_den (call_retO (r_Small o.pp H4 O) rfl ⟨rfl, trivial⟩ fun H5 _ => br_den (fun k5 => ?_) (fun k5 => ret_denO ⟨key _ ?_, rfl⟩))
  rotate_left
  · simp [withinB] at k5 ⊢; omega
  refine chkN_den (call_retO (r_Small o.pt H5 O) rfl ⟨rfl, trivial⟩ fun H6 _ => ret_denO ⟨key _ ?_, rfl⟩)
  simp [withinB] at k1 k2 k3 k4 k5 ⊢; omega
theorem r_seat {vl vh vf vg : Value} (s : St) (hl : vl.oneCell' = true) (hh : vh.oneCell' = true) (hf : vf.oneCell' = true) (hg : vg.oneCell' = true) (H : Heap) (O : Own) :
    RetO PP F_zeitnotref15_seat [.agg (seatC vl vh vf vg s).toArray] H O (.bool (seatOkB s)) := by
  refine run_zeitnotref15_seat (vs := seatC vl vh vf vg s) (by kernel_rfl) ⟨rfl, rfl, rfl, rfl, rfl, hl, hh, hf, hg, rfl, rfl, rfl, rfl, rfl, trivial⟩ ?_
  simp only [T_zeitnotref15_seat]
  have key : ∀ (x : Bool), (x = true ↔ ((0 ≤ s.life ∧ s.life ≤ 9999) ∧ (0 ≤ s.p0 ∧ s.p0 ≤ 99) ∧ (0 ≤ s.p1 ∧ s.p1 ≤ 99) ∧ (0 ≤ s.p2 ∧ s.p2 ≤ 99) ∧ (0 ≤ s.p3 ∧ s.p3 ≤ 99) ∧ (0 ≤ s.mull ∧ s.mull ≤ 7) ∧ (0 ≤ s.acts ∧ s.acts ≤ 255))) → (Value.bool x : Value) = .bool (seatOkB s) := by
    intro x hx
    refine boolV ?_
    rw [hx]
    simp only [seatOkB, withinB, List.all_cons, List.all_nil, Bool.and_true, Bool.and_eq_true, decide_eq_true_eq]
    omega
  repeat (first | refine chkN_den ?_ | refine chkV_den ?_ | refine newbox_den fun _ => ?_ | refine pure_den _ (lss_eq _ _) ?_ | refine pure_den _ (gtr_eq _ _) ?_ | refine pure_den _ (leq_eq _ _) ?_ | refine pure_den _ (geq_eq _ _) ?_ | refine pure_den _ (eql_eq _ _) ?_ | refine pure_den _ (neq_eq _ _) ?_ | refine pure_den _ (pick_and _ _) ?_ | refine pure_den _ (pick_or _ _) ?_ | refine pure_den _ (not_eq' _) ?_ | refine pure_den _ (beql_eq _ _) ?_ | refine pure_den _ (bneq_eq _ _) ?_)
  refine br_den (fun h1 => ret_denO ⟨key _ ?_, rfl⟩) (fun h1 => ?_)
  · simp at h1 ⊢; omega
  repeat (first | refine chkN_den ?_ | refine chkV_den ?_ | refine newbox_den fun _ => ?_ | refine pure_den _ (lss_eq _ _) ?_ | refine pure_den _ (gtr_eq _ _) ?_ | refine pure_den _ (leq_eq _ _) ?_ | refine pure_den _ (geq_eq _ _) ?_ | refine pure_den _ (eql_eq _ _) ?_ | refine pure_den _ (neq_eq _ _) ?_ | refine pure_den _ (pick_and _ _) ?_ | refine pure_den _ (pick_or _ _) ?_ | refine pure_den _ (not_eq' _) ?_ | refine pure_den _ (beql_eq _ _) ?_ | refine pure_den _ (bneq_eq _ _) ?_)
  refine br_den (fun h2 => ret_denO ⟨key _ ?_, rfl⟩) (fun h2 => ?_)
  · simp at h2 ⊢; omega
  repeat (first | refine chkN_den ?_ | refine chkV_den ?_ | refine newbox_den fun _ => ?_ | refine pure_den _ (lss_eq _ _) ?_ | refine pure_den _ (gtr_eq _ _) ?_ | refine pure_den _ (leq_eq _ _) ?_ | refine pure_den _ (geq_eq _ _) ?_ | refine pure_den _ (eql_eq _ _) ?_ | refine pure_den _ (neq_eq _ _) ?_ | refine pure_den _ (pick_and _ _) ?_ | refine pure_den _ (pick_or _ _) ?_ | refine pure_den _ (not_eq' _) ?_ | refine pure_den _ (beql_eq _ _) ?_ | refine pure_den _ (bneq_eq _ _) ?_)
  refine br_den (fun h3 => ret_denO ⟨key _ ?_, rfl⟩) (fun h3 => ?_)
  · simp at h3 ⊢; omega
  repeat (first | refine chkN_den ?_ | refine chkV_den ?_ | refine newbox_den fun _ => ?_ | refine pure_den _ (lss_eq _ _) ?_ | refine pure_den _ (gtr_eq _ _) ?_ | refine pure_den _ (leq_eq _ _) ?_ | refine pure_den _ (geq_eq _ _) ?_ | refine pure_den _ (eql_eq _ _) ?_ | refine pure_den _ (neq_eq _ _) ?_ | refine pure_den _ (pick_and _ _) ?_ | refine pure_den _ (pick_or _ _) ?_ | refine pure_den _ (not_eq' _) ?_ | refine pure_den _ (beql_eq _ _) ?_ | refine pure_den _ (bneq_eq _ _) ?_)
  refine br_den (fun h4 => ret_denO ⟨key _ ?_, rfl⟩) (fun h4 => ?_)
  · simp at h4 ⊢; omega
  repeat (first | refine chkN_den ?_ | refine chkV_den ?_ | refine newbox_den fun _ => ?_ | refine pure_den _ (lss_eq _ _) ?_ | refine pure_den _ (gtr_eq _ _) ?_ | refine pure_den _ (leq_eq _ _) ?_ | refine pure_den _ (geq_eq _ _) ?_ | refine pure_den _ (eql_eq _ _) ?_ | refine pure_den _ (neq_eq _ _) ?_ | refine pure_den _ (pick_and _ _) ?_ | refine pure_den _ (pick_or _ _) ?_ | refine pure_den _ (not_eq' _) ?_ | refine pure_den _ (beql_eq _ _) ?_ | refine pure_den _ (bneq_eq _ _) ?_)
  refine ret_denO ⟨key _ ?_, rfl⟩
  simp at h1 h2 h3 h4 ⊢; omega
end Go.Proofs.YtjaegdkkiefchaaGreatDoor
