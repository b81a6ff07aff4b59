/- Places of an object: what the reference says. -/
import Derived.Test.YtjaegdkkiefchaaGreatDoorC10
namespace Go.Proofs.YtjaegdkkiefchaaGreatDoor
open Go Go.Sx
set_option maxRecDepth 100000
set_option maxHeartbeats 1000000

/-- No list of a board is longer than this. -/
def stFit (s : St) : Prop := s.lib.length ≤ 100000 ∧ s.hand.length ≤ 100000 ∧ s.field.length ≤ 100000 ∧ s.grave.length ≤ 100000
def bdFit (b : Bd) : Prop := stFit b.s0 ∧ stFit b.s1 ∧ b.stack.length ≤ 100000
def onStack (p id : Int) (x : It) : Bool := (x.trig == -1 && x.id == id) && x.player == p
def zonesN (s : St) (id : Int) : Nat := ((s.lib.count id + s.hand.count id) + s.field.count id) + s.grave.count id
def placesN (b : Bd) (p id : Int) : Nat := (if p = 0 then zonesN b.s0 id else zonesN b.s1 id) + b.stack.countP (onStack p id)
theorem take_countP {α : Type} {l : List α} {i : Nat} (h : i < l.length) (p : α → Bool) : (l.take (i + 1)).countP p = (l.take i).countP p + (if p l[i] then 1 else 0) := by
  rw [List.take_add_one, List.getElem?_eq_getElem h, Option.toList_some, List.countP_append, List.countP_singleton]
theorem add_nat0 {n : Nat} (h : n < 2 ^ 63) : evalPure (.bin .add .int) [iV 0, iV (n : Int)] = some (iV (n : Int)) := by
  have := add_nat (i := 0) (n := n) (by omega)
  simpa using this
theorem r_places {H : Heap} {O : Own} {v : BV12} {b : Bd} (h : BdR H O v b) (hfit : bdFit b) {p : Int} (hp : p = 0 ∨ p = 1) (id : Int) :
    RetO PP F_zeitnotref15_places [.agg (boardC v b).toArray, iV p, iV id] H O (iV ((placesN b p id : Nat) : Int)) := by
  refine run_zeitnotref15_places (vs := boardC v b ++ [iV p, iV id]) (by kernel_rfl) (ones_app (boardC_ones h) ⟨rfl, rfl, trivial⟩) ?_
  simp only [T_zeitnotref15_places]
  obtain ⟨⟨f1, f2, f3, f4⟩, ⟨f5, f6, f7, f8⟩, f9⟩ := hfit
  refine newbox_den fun r0 => ?_
  have e38 : g (boardC v b ++ [iV p, iV id]) 38 = iV p := rfl
  rw [e38]
  rcases hp with rfl | rfl
  · refine ⟨.i64, 0, rfl, fun _ => ?_, fun e => absurd rfl e⟩
    obtain ⟨z1, z2, z3, z4⟩ := stR_ones h.s0
    have c1 : b.s0.lib.count id ≤ b.s0.lib.length := List.count_le_length
    have c2 : b.s0.hand.count id ≤ b.s0.hand.length := List.count_le_length
    have c3 : b.s0.field.count id ≤ b.s0.field.length := List.count_le_length
    have c4 : b.s0.grave.count id ≤ b.s0.grave.length := List.count_le_length
    refine chkN_den (call_retO (r_Zones b.s0 z1 z2 z3 z4 H O) rfl ⟨z1, z2, z3, z4, trivial⟩ fun H1 l1 => ?_)
    replace h := h.le l1
    refine call_retO (r_Count h.s0.lib id) rfl ⟨rfl, trivial⟩ fun H2 l2 => pure_den _ (add_nat0 (by omega)) ?_
    replace h := h.le l2
    refine call_retO (r_Count h.s0.hand id) rfl ⟨rfl, trivial⟩ fun H3 l3 => pure_den _ (add_nat (by omega)) ?_
    replace h := h.le l3
    refine call_retO (r_Count h.s0.field id) rfl ⟨rfl, trivial⟩ fun H4 l4 => pure_den _ (add_nat (by omega)) ?_
    replace h := h.le l4
    refine call_retO (r_Count h.s0.grave id) rfl ⟨rfl, trivial⟩ fun H5 l5 => pure_den _ (add_nat (by omega)) ?_
    replace h := h.le l5
    have hz : ((b.s0.lib.count id + b.s0.hand.count id) + b.s0.field.count id) + b.s0.grave.count id = zonesN b.s0 id := rfl
    have hzb : zonesN b.s0 id ≤ 400000 := by unfold zonesN; omega
    rw [hz]
    obtain ⟨rows, hrs, hrl, hit⟩ := h.stack
    have hsl : evalPure .len [v.s] = some (iV b.stack.length) := ItsR.len h.stack
    refine countY_den b.stack.length (fun i x H' O' => O' = O ∧ Heap.le H5 H' ∧ x = iV ((zonesN b.s0 id + (b.stack.take i).countP (onStack 0 id) : Nat) : Int)) ⟨rfl, Heap.le_refl _, by simp⟩ ?_
    rintro i x H' O' hi - ⟨rfl, hle, rfl⟩
    have hci : (b.stack.take i).countP (onStack 0 id) ≤ i := Nat.le_trans List.countP_le_length (by simp; omega)
    refine chkN_den (pure_den _ hsl (pure_den _ (lss_eq _ _) (br_den (fun hb => ?_) (fun hb => ?_))))
    · have hlt : i < b.stack.length := by simpa using hb
      obtain ⟨a, h1, h2, _, h3, h4⟩ := (hrs.le hle).idx .i64 i rows[i] (by simp [hrl, hlt])
      obtain ⟨s, hrow, _⟩ := hit i rows[i] b.stack[i] (by simp [hrl, hlt]) (by simp [hlt])
      rw [hrow] at h2 h3 h4
      refine chkN_den (pure_den _ h1 (load_denR h2 h3 h4 ?_))
      repeat (first | refine chkN_den ?_ | refine chkV_den ?_ | refine newbox_den fun _ => ?_ | refine pure_den _ (lss_eq _ _) ?_ | refine pure_den _ (gtr_eq _ _) ?_ | refine pure_den _ (leq_eq _ _) ?_ | refine pure_den _ (geq_eq _ _) ?_ | refine pure_den _ (eql_eq _ _) ?_ | refine pure_den _ (neq_eq _ _) ?_ | refine pure_den _ (pick_and _ _) ?_ | refine pure_den _ (pick_or _ _) ?_ | refine pure_den _ (not_eq' _) ?_ | refine pure_den _ (beql_eq _ _) ?_ | refine pure_den _ (bneq_eq _ _) ?_)
      refine br_den (fun hb => ?_) (fun hb => ?_)
      · refine pure_den _ (add_one (by omega)) (pure_den _ (add_one (by omega)) (countY_cont (by simp [Eqs]) hlt ⟨rfl, hle, ?_⟩))
        have : onStack 0 id b.stack[i] = true := hb
        rw [take_countP hlt, this]; rfl
      · refine pure_den _ (add_one (by omega)) (countY_cont (by simp [Eqs]) hlt ⟨rfl, hle, ?_⟩)
        have : onStack 0 id b.stack[i] = false := hb
        rw [take_countP hlt, this]; rfl
    · have : b.stack.length ≤ i := by simpa using hb
      refine ret_denO ⟨?_, rfl⟩
      rw [List.take_of_length_le this]; rfl
  · refine ⟨.i64, 1, rfl, fun e => absurd e (by omega), fun _ => ⟨.i64, 1, rfl, fun _ => ?_, fun e => absurd rfl e⟩⟩
    obtain ⟨z1, z2, z3, z4⟩ := stR_ones h.s1
    have c1 : b.s1.lib.count id ≤ b.s1.lib.length := List.count_le_length
    have c2 : b.s1.hand.count id ≤ b.s1.hand.length := List.count_le_length
    have c3 : b.s1.field.count id ≤ b.s1.field.length := List.count_le_length
    have c4 : b.s1.grave.count id ≤ b.s1.grave.length := List.count_le_length
    refine chkN_den (call_retO (r_Zones b.s1 z1 z2 z3 z4 H O) rfl ⟨z1, z2, z3, z4, trivial⟩ fun H1 l1 => ?_)
    replace h := h.le l1
    refine call_retO (r_Count h.s1.lib id) rfl ⟨rfl, trivial⟩ fun H2 l2 => pure_den _ (add_nat0 (by omega)) ?_
    replace h := h.le l2
    refine call_retO (r_Count h.s1.hand id) rfl ⟨rfl, trivial⟩ fun H3 l3 => pure_den _ (add_nat (by omega)) ?_
    replace h := h.le l3
    refine call_retO (r_Count h.s1.field id) rfl ⟨rfl, trivial⟩ fun H4 l4 => pure_den _ (add_nat (by omega)) ?_
    replace h := h.le l4
    refine call_retO (r_Count h.s1.grave id) rfl ⟨rfl, trivial⟩ fun H5 l5 => pure_den _ (add_nat (by omega)) ?_
    replace h := h.le l5
    have hz : ((b.s1.lib.count id + b.s1.hand.count id) + b.s1.field.count id) + b.s1.grave.count id = zonesN b.s1 id := rfl
    have hzb : zonesN b.s1 id ≤ 400000 := by unfold zonesN; omega
    rw [hz]
    obtain ⟨rows, hrs, hrl, hit⟩ := h.stack
    have hsl : evalPure .len [v.s] = some (iV b.stack.length) := ItsR.len h.stack
    refine countY_den b.stack.length (fun i x H' O' => O' = O ∧ Heap.le H5 H' ∧ x = iV ((zonesN b.s1 id + (b.stack.take i).countP (onStack 1 id) : Nat) : Int)) ⟨rfl, Heap.le_refl _, by simp⟩ ?_
    rintro i x H' O' hi - ⟨rfl, hle, rfl⟩
    have hci : (b.stack.take i).countP (onStack 1 id) ≤ i := Nat.le_trans List.countP_le_length (by simp; omega)
    refine chkN_den (pure_den _ hsl (pure_den _ (lss_eq _ _) (br_den (fun hb => ?_) (fun hb => ?_))))
    · have hlt : i < b.stack.length := by simpa using hb
      obtain ⟨a, h1, h2, _, h3, h4⟩ := (hrs.le hle).idx .i64 i rows[i] (by simp [hrl, hlt])
      obtain ⟨s, hrow, _⟩ := hit i rows[i] b.stack[i] (by simp [hrl, hlt]) (by simp [hlt])
      rw [hrow] at h2 h3 h4
      refine chkN_den (pure_den _ h1 (load_denR h2 h3 h4 ?_))
      repeat (first | refine chkN_den ?_ | refine chkV_den ?_ | refine newbox_den fun _ => ?_ | refine pure_den _ (lss_eq _ _) ?_ | refine pure_den _ (gtr_eq _ _) ?_ | refine pure_den _ (leq_eq _ _) ?_ | refine pure_den _ (geq_eq _ _) ?_ | refine pure_den _ (eql_eq _ _) ?_ | refine pure_den _ (neq_eq _ _) ?_ | refine pure_den _ (pick_and _ _) ?_ | refine pure_den _ (pick_or _ _) ?_ | refine pure_den _ (not_eq' _) ?_ | refine pure_den _ (beql_eq _ _) ?_ | refine pure_den _ (bneq_eq _ _) ?_)
      refine br_den (fun hb => ?_) (fun hb => ?_)
      · refine pure_den _ (add_one (by omega)) (pure_den _ (add_one (by omega)) (countY_cont (by simp [Eqs]) hlt ⟨rfl, hle, ?_⟩))
        have : onStack 1 id b.stack[i] = true := hb
        rw [take_countP hlt, this]; rfl
      · refine pure_den _ (add_one (by omega)) (countY_cont (by simp [Eqs]) hlt ⟨rfl, hle, ?_⟩)
        have : onStack 1 id b.stack[i] = false := hb
        rw [take_countP hlt, this]; rfl
    · have : b.stack.length ≤ i := by simpa using hb
      refine ret_denO ⟨?_, rfl⟩
      rw [List.take_of_length_le this]; rfl
end Go.Proofs.YtjaegdkkiefchaaGreatDoor
