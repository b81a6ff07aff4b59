/- Legal targets; light cards; lists that are equal. -/
import Derived.Test.YtieaihgbjikggaaGreatC48
import Derived.Test.YtieaihgbjikggaaGreatKT
import Derived.Test.YtieaihgbjikggaaGreatKN2
namespace Go.Proofs.YtieaihgbjikggaaGreat
open Go Go.Sx
set_option maxRecDepth 100000
set_option maxHeartbeats 1000000
theorem tg_ones (t : Tg) : Ones t.row := ⟨rfl, rfl, trivial⟩
end Go.Proofs.YtieaihgbjikggaaGreat
namespace Go.Proofs.YtieaihgbjikggaaGreat
open Go Go.Sx
set_option maxRecDepth 100000
set_option maxHeartbeats 1000000
theorem card_idx {H : Heap} (O : Own) {v : Value} {cs : List Cd} (h : CardsS H v cs) {i : Nat} (hi : i < cs.length) :
  ∃ a r, evalPure (.idx 14) [v, iV i] = some (.pointer (some a)) ∧ CdR H r cs[i] ∧ Reads H O (ptrAdd (.pointer (some a)) 11) 1 [g r 11] ∧ Reads H O (ptrAdd (.pointer (some a)) 12) 1 [g r 12] := by
 obtain ⟨rows, h1, h2, h3⟩ := h
 have hlt : i < rows.length := by omega
 obtain ⟨a, k1, k2, k3, k4, k5⟩ := (h1.rsl O).idx .i64 i rows[i] (by simp [hlt])
 refine ⟨a, rows[i], k1, h3 i _ _ (List.getElem?_eq_getElem hlt) (List.getElem?_eq_getElem hi), ?_, ?_⟩
 ·have e : ((rows[i]).drop 11).take 1 = [g rows[i] 11] := by
   rw [g, List.getD_eq_getElem?_getD, List.getElem?_eq_getElem (by omega), List.drop_eq_getElem_cons (by omega)]; rfl
  rw [← e]; exact k3 11 1 (by omega)
 ·have e : ((rows[i]).drop 12).take 1 = [g rows[i] 12] := by
   rw [g, List.getD_eq_getElem?_getD, List.getElem?_eq_getElem (by omega), List.drop_eq_getElem_cons (by omega)]; rfl
  rw [← e]; exact k3 12 1 (by omega)
theorem trig_idx {H : Heap} (O : Own) {v : Value} {tr : List Nat} (h : TrigsS H v tr) {i : Nat} (hi : i < tr.length) :
  ∃ a r, evalPure (.idx 2) [v, iV i] = some (.pointer (some a)) ∧ TrigR H r tr[i] ∧ Reads H O (ptrAdd (.pointer (some a)) 1) 1 [g r 1] := by
 obtain ⟨rows, h1, h2, h3⟩ := h
 have hlt : i < rows.length := by omega
 obtain ⟨a, k1, k2, k3, k4, k5⟩ := (h1.rsl O).idx .i64 i rows[i] (by simp [hlt])
 refine ⟨a, rows[i], k1, h3 i _ _ (List.getElem?_eq_getElem hlt) (List.getElem?_eq_getElem hi), ?_⟩
 have e : ((rows[i]).drop 1).take 1 = [g rows[i] 1] := by
  rw [g, List.getD_eq_getElem?_getD, List.getElem?_eq_getElem (by omega), List.drop_eq_getElem_cons (by omega)]; rfl
 rw [← e]; exact k3 1 1 (by omega)
theorem c_light {H : Heap} {v : Value} {cs : List Cd} (h : CardsS H v cs) : RetO PP F_zeitnotlaw18_light [v] H [] (.bool (lightB cs)) := by
 refine run_zeitnotlaw18_light (vs := [v]) (by kernel_rfl) ⟨h.one, trivial⟩ ?_
 simp only [T_zeitnotlaw18_light]
 have hB : cs.length < 2 ^ 63 := by
  obtain ⟨rows, h1, h2, _⟩ := h
  have := h1.lenB; omega
 refine count_den cs.length (fun i H' O' => O' = [] ∧ Heap.le H H' ∧ i ≤ 13 ∧ ((cs.take i).all cdLight) = true) ⟨rfl, Heap.le_refl H, by omega, rfl⟩ ?_
 rintro i H' O' hi - ⟨rfl, hle, hi13, hor⟩
 replace h := h.le hle
 repeat (first | refine chkN_den ?_ | refine chkV_den ?_ | refine chkP_den rfl ?_)
 refine pure_den _ h.len ?_
 repeat (first | refine chkN_den ?_ | refine chkV_den ?_ | refine chkP_den rfl ?_)
 refine pure_den _ (lss_eq _ _) ?_
 repeat (first | refine chkN_den ?_ | refine chkV_den ?_ | refine chkP_den rfl ?_)
 refine pure_den _ (lss_eq _ _) ?_
 repeat (first | refine chkN_den ?_ | refine chkV_den ?_ | refine chkP_den rfl ?_)
 refine pure_den _ (pick_and _ _) (br_den (fun hb => ?_) (fun hb => ?_))
 ·have hb : (decide ((i : Int) < (cs.length : Int)) && decide ((i : Int) < 13)) = true := hb
  rw [Bool.and_eq_true, decide_eq_true_eq, decide_eq_true_eq] at hb
  have hlt : i < cs.length := by omega
  have hl13 : i < 13 := by omega
  obtain ⟨a, r, k1, k2, k3, k4⟩ := card_idx [] h hlt
  have hst : lightB cs = false ∨ cdLight cs[i] = true := by
   cases hc : cdLight cs[i]
   ·refine .inl ?_
    rw [lightB, Bool.and_eq_false_iff]
    refine .inl ?_
    rw [List.all_eq_false]
    exact ⟨cs[i], List.mem_take_iff_getElem.2 ⟨i, by omega, rfl⟩, by rw [hc]; simp⟩
   ·exact .inr rfl
  have hbad : ∀ {x : Bool}, cdLight cs[i] = false → x = false → (x = lightB cs) := fun h1 h2 => by
   rcases hst with e | e
   ·rw [h2, e]
   ·rw [h1] at e; cases e
  repeat (first | refine chkN_den ?_ | refine chkV_den ?_ | refine chkP_den rfl ?_)
  refine pure_den _ k1 ?_
  repeat (first | refine chkN_den ?_ | refine chkV_den ?_ | refine chkP_den rfl ?_)
  refine load_denR k3 rfl ⟨k2.eff.one, trivial⟩ ?_
  repeat (first | refine chkN_den ?_ | refine chkV_den ?_ | refine chkP_den rfl ?_)
  refine pure_den _ k2.eff.len ?_
  repeat (first | refine chkN_den ?_ | refine chkV_den ?_ | refine chkP_den rfl ?_)
  refine pure_den _ (gtr_eq _ _) ?_
  repeat (first | refine chkN_den ?_ | refine chkV_den ?_ | refine chkP_den rfl ?_)
  refine ⟨.pointer (some a), fun _ => k1, .inr rfl, ?_⟩
  repeat (first | refine chkN_den ?_ | refine chkV_den ?_ | refine chkP_den rfl ?_)
  refine ⟨[g r 12], rfl, ⟨k2.trig.one, trivial⟩, fun _ => k4, ?_⟩
  repeat (first | refine chkN_den ?_ | refine chkV_den ?_ | refine chkP_den rfl ?_)
  refine pure_den _ k2.trig.len ?_
  repeat (first | refine chkN_den ?_ | refine chkV_den ?_ | refine chkP_den rfl ?_)
  refine pure_den _ (gtr_eq _ _) ?_
  repeat (first | refine chkN_den ?_ | refine chkV_den ?_ | refine chkP_den rfl ?_)
  refine pure_den _ (pick_or _ _) (br_den (fun hc => ?_) (fun hc => ?_))
  ·have hc : (decide ((cs[i].tg.length : Int) > 5) || decide ((cs[i].tr.length : Int) > 3)) = true := hc
   refine ret_denO ⟨?_, rfl⟩
   congr 1
   exact hbad (by rw [cdLight, hc]; rfl) rfl
  ·have hc : (decide ((cs[i].tg.length : Int) > 5) || decide ((cs[i].tr.length : Int) > 3)) = false := hc
   have hc3 : cs[i].tr.length ≤ 3 := by
    rw [Bool.or_eq_false_iff, decide_eq_false_iff_not, decide_eq_false_iff_not] at hc; omega
   refine count_den cs[i].tr.length (fun j H2 O2 => O2 = [] ∧ Heap.le H' H2 ∧ (cs[i].tr.all fun n => !decide ((n : Int) > 5)) = ((cs[i].tr.drop j).all fun n => !decide ((n : Int) > 5))) ⟨rfl, Heap.le_refl _, rfl⟩ ?_
   rintro j H2 O2 hj - ⟨rfl, hle2, hor2⟩
   repeat (first | refine chkN_den ?_ | refine chkV_den ?_ | refine chkP_den rfl ?_)
   refine pure_den _ k1 ?_
   repeat (first | refine chkN_den ?_ | refine chkV_den ?_ | refine chkP_den rfl ?_)
   refine load_denR (reads_le k4 hle2) rfl ⟨k2.trig.one, trivial⟩ ?_
   repeat (first | refine chkN_den ?_ | refine chkV_den ?_ | refine chkP_den rfl ?_)
   refine pure_den _ k2.trig.len ?_
   repeat (first | refine chkN_den ?_ | refine chkV_den ?_ | refine chkP_den rfl ?_)
   refine pure_den _ (lss_eq _ _) (br_den (fun hd => ?_) (fun hd => ?_))
   ·have hjlt : j < cs[i].tr.length := by simpa using hd
    obtain ⟨a2, r2, m1, m2, m3⟩ := trig_idx [] (k2.trig.le hle2) hjlt
    obtain ⟨er, m4, m5⟩ := m2
    have el : evalPure .len [g r2 1] = some (iV cs[i].tr[j]) := by have := m4.len; rwa [m5] at this
    repeat (first | refine chkN_den ?_ | refine chkV_den ?_ | refine chkP_den rfl ?_)
    refine pure_den _ k1 ?_
    repeat (first | refine chkN_den ?_ | refine chkV_den ?_ | refine chkP_den rfl ?_)
    refine load_denR (reads_le k4 hle2) rfl ⟨k2.trig.one, trivial⟩ ?_
    repeat (first | refine chkN_den ?_ | refine chkV_den ?_ | refine chkP_den rfl ?_)
    refine pure_den _ m1 ?_
    repeat (first | refine chkN_den ?_ | refine chkV_den ?_ | refine chkP_den rfl ?_)
    refine load_denR m3 rfl ⟨m4.one, trivial⟩ ?_
    repeat (first | refine chkN_den ?_ | refine chkV_den ?_ | refine chkP_den rfl ?_)
    refine pure_den _ el ?_
    repeat (first | refine chkN_den ?_ | refine chkV_den ?_ | refine chkP_den rfl ?_)
    refine pure_den _ (gtr_eq _ _) (br_den (fun he => ?_) (fun he => ?_))
    ·have he : decide ((cs[i].tr[j] : Int) > 5) = true := he
     refine ret_denO ⟨?_, rfl⟩
     congr 1
     exact hbad (by rw [cdLight, hor2, List.drop_eq_getElem_cons hjlt, List.all_cons, he]; simp) rfl
    ·have he : decide ((cs[i].tr[j] : Int) > 5) = false := he
     repeat (first | refine chkN_den ?_ | refine chkV_den ?_ | refine chkP_den rfl ?_)
     refine pure_den _ (add_one (by omega)) (count_cont (by simp [Eqs, E]) hjlt ⟨rfl, hle2, ?_⟩)
     rw [hor2, List.drop_eq_getElem_cons hjlt, List.all_cons, he]; rfl
   ·have hjge : cs[i].tr.length ≤ j := by simpa using hd
    rw [List.drop_of_length_le hjge] at hor2
    repeat (first | refine chkN_den ?_ | refine chkV_den ?_ | refine chkP_den rfl ?_)
    refine pure_den _ (add_one (by omega)) (count_cont (by simp [Eqs, E]) hlt ⟨rfl, Heap.le_trans hle hle2, by omega, ?_⟩)
    rw [List.take_add_one, List.getElem?_eq_getElem hlt, List.all_append, hor]
    simp only [Option.toList_some, List.all_cons, List.all_nil, Bool.and_true, Bool.true_and]
    rw [cdLight, hc, hor2]; rfl
 ·have hb : (decide ((i : Int) < (cs.length : Int)) && decide ((i : Int) < 13)) = false := hb
  rw [Bool.and_eq_false_iff, decide_eq_false_iff_not, decide_eq_false_iff_not] at hb
  repeat (first | refine chkN_den ?_ | refine chkV_den ?_ | refine chkP_den rfl ?_)
  refine pure_den _ h.len ?_
  repeat (first | refine chkN_den ?_ | refine chkV_den ?_ | refine chkP_den rfl ?_)
  refine pure_den _ (leq_eq _ _) (ret_denO ⟨?_, rfl⟩)
  congr 1
  rw [lightB]
  rcases hb with hb | hb
  ·have e1 : cs.take i = cs := List.take_of_length_le (by omega)
   have e2 : cs.take 13 = cs := List.take_of_length_le (by omega)
   rw [e1] at hor
   rw [e2, hor, Bool.true_and]
  ·obtain rfl : i = 13 := by omega
   rw [hor, Bool.true_and]
end Go.Proofs.YtieaihgbjikggaaGreat
namespace Go.Proofs.YtieaihgbjikggaaGreat
open Go Go.Sx
set_option maxRecDepth 100000
set_option maxHeartbeats 1000000
end Go.Proofs.YtieaihgbjikggaaGreat
namespace Go.Proofs.YtieaihgbjikggaaGreat
open Go Go.Sx
set_option maxRecDepth 100000
set_option maxHeartbeats 1000000
/-- The zero board and an error. -/
abbrev badR (e : Int) : Value := .tuple #[.agg (boardC nilV zBd).toArray, iV e]
theorem bad_index {b : Bd} (h : validBd b = false) (id : Int) : indexE b id = 2 := by rw [indexE, h]; rfl
theorem cast_bad {H : Heap} {v : BV12} {b : Bd} (h : BdS H v b) (hv : validBd b = false) {id : Int} (hid : i64 id) : RetO PP F_stack_Cast [.agg (boardC v b).toArray, iV id] H [] (badR 2) := by
 refine run_stack_Cast (vs := boardC v b ++ [iV id]) (by kernel_rfl) (ones_app (boardC_ones (h.r [])) ⟨rfl, trivial⟩) ?_
 simp only [T_stack_Cast]
 refine newbox_den fun r0 => newbox_den fun r1 => ?_
 repeat (first | refine chkN_den ?_ | refine chkV_den ?_ | refine chkP_den rfl ?_)
 refine call_retO (c_board_Where h hid []) rfl (vs := spotRow (whereP b id) ++ [iV (indexE b id)]) ⟨rfl, rfl, rfl, rfl, trivial⟩ fun H1 l1 => newbox_den fun r2 => ?_
 rw [bad_index hv]
 repeat (first | refine chkN_den ?_ | refine chkV_den ?_ | refine chkP_den rfl ?_)
 refine pure_den _ (neq_eq _ _) (br_den (fun _ => ?_) (fun hd => by cases hd))
 repeat (first | refine chkN_den ?_ | refine chkV_den ?_ | refine chkP_den rfl ?_)
 exact ret_denO ⟨rfl, rfl⟩
theorem counter_bad {H : Heap} {v : BV12} {b : Bd} (h : BdS H v b) (hv : validBd b = false) {id : Int} (hid : i64 id) : RetO PP F_stack_Counter [.agg (boardC v b).toArray, iV id] H [] (badR 2) := by
 refine run_stack_Counter (vs := boardC v b ++ [iV id]) (by kernel_rfl) (ones_app (boardC_ones (h.r [])) ⟨rfl, trivial⟩) ?_
 simp only [T_stack_Counter]
 refine newbox_den fun r0 => newbox_den fun r1 => ?_
 repeat (first | refine chkN_den ?_ | refine chkV_den ?_ | refine chkP_den rfl ?_)
 refine call_retO (c_board_Where h hid []) rfl (vs := spotRow (whereP b id) ++ [iV (indexE b id)]) ⟨rfl, rfl, rfl, rfl, trivial⟩ fun H1 l1 => newbox_den fun r2 => ?_
 rw [bad_index hv]
 repeat (first | refine chkN_den ?_ | refine chkV_den ?_ | refine chkP_den rfl ?_)
 refine pure_den _ (eql_eq _ _) (br_den (fun _ => ?_) (fun hd => by cases hd))
 repeat (first | refine chkN_den ?_ | refine chkV_den ?_ | refine chkP_den rfl ?_)
 exact ret_denO ⟨rfl, rfl⟩
theorem aim_bad {H : Heap} {cv : Value} (hc : cv.oneCell' = true) {v : BV12} {b : Bd} (h : BdS H v b) (hv : validBd b = false) (t : Tg) : RetO PP F_stack_Aim [cv, .agg (boardC v b).toArray, .agg t.row.toArray] H [] (badR 2) := by
 refine run_stack_Aim (vs := cv :: (boardC v b ++ t.row)) (by kernel_rfl) ⟨hc, ones_app (boardC_ones (h.r [])) (tg_ones t)⟩ ?_
 simp only [T_stack_Aim]
 refine newbox_den fun r0 => newbox_den fun r1 => newbox_den fun r2 => ?_
 repeat (first | refine chkN_den ?_ | refine chkV_den ?_ | refine chkP_den rfl ?_)
 refine call_retO (c_board_Valid (h.r [])) rfl ⟨rfl, trivial⟩ fun H1 l1 => ?_
 rw [hv]
 repeat (first | refine chkN_den ?_ | refine chkV_den ?_ | refine chkP_den rfl ?_)
 refine pure_den _ (not_eq' _) (br_den (fun _ => ?_) (fun hd => by cases hd))
 repeat (first | refine chkN_den ?_ | refine chkV_den ?_ | refine chkP_den rfl ?_)
 exact ret_denO ⟨rfl, rfl⟩
theorem pop_bad {H : Heap} {v : BV12} {b : Bd} (h : BdS H v b) (hv : validBd b = false) : RetO PP F_stack_Pop [.agg (boardC v b).toArray] H [] (.tuple #[.agg (boardC nilV zBd).toArray, .agg #[iV 0, iV 0, iV 0, iV 0, .slice none 0 0], iV 2]) := by
 refine run_stack_Pop (vs := boardC v b) (by kernel_rfl) (boardC_ones (h.r [])) ?_
 simp only [T_stack_Pop]
 refine newbox_den fun r0 => newbox_den fun r1 => newbox_den fun r2 => ?_
 repeat (first | refine chkN_den ?_ | refine chkV_den ?_ | refine chkP_den rfl ?_)
 refine call_retO (c_board_Valid (h.r [])) rfl ⟨rfl, trivial⟩ fun H1 l1 => ?_
 rw [hv]
 repeat (first | refine chkN_den ?_ | refine chkV_den ?_ | refine chkP_den rfl ?_)
 refine pure_den _ (not_eq' _) (br_den (fun _ => ?_) (fun hd => by cases hd))
 repeat (first | refine chkN_den ?_ | refine chkV_den ?_ | refine chkP_den rfl ?_)
 exact ret_denO ⟨rfl, rfl⟩
theorem open_bad {H : Heap} {cv : Value} (hc : cv.oneCell' = true) {v : BV12} {b : Bd} (h : BdS H v b) (hv : validBd b = false) : RetO PP F_stack_Open [cv, .agg (boardC v b).toArray] H [] (iV 0) := by
 refine run_stack_Open (vs := cv :: boardC v b) (by kernel_rfl) ⟨hc, boardC_ones (h.r [])⟩ ?_
 simp only [T_stack_Open]
 have slen : evalPure .len [v.s] = some (iV b.stack.length) := ItsR.len (h.stack.r [])
 have hsB : b.stack.length < 2 ^ 63 := by
  obtain ⟨rows, h1, h2, _⟩ := h.stack
  have := h1.lenB; omega
 refine newbox_den fun r0 => ?_
 repeat (first | refine chkN_den ?_ | refine chkV_den ?_ | refine chkP_den rfl ?_)
 refine pure_den _ slen ?_
 repeat (first | refine chkN_den ?_ | refine chkV_den ?_ | refine chkP_den rfl ?_)
 refine pure_den _ (eql_eq _ _) (br_den (fun _ => ?_) (fun _ => ?_))
 ·repeat (first | refine chkN_den ?_ | refine chkV_den ?_ | refine chkP_den rfl ?_)
  exact ret_denO ⟨rfl, rfl⟩
 repeat (first | refine chkN_den ?_ | refine chkV_den ?_ | refine chkP_den rfl ?_)
 refine call_retO (c_board_Valid (h.r [])) rfl ⟨rfl, trivial⟩ fun H1 l1 => ?_
 rw [hv]
 have hoff : ∀ {P : Prop} {gd : List (Value × Bool)}, On ((Value.bool (!false), false) :: gd) → P := fun ho => by have := ho.1; cases this
 repeat (first | refine chkN_den ?_ | refine chkV_den ?_ | refine chkP_den rfl ?_)
 refine pure_den _ (not_eq' _) ?_
 repeat (first | refine chkN_den ?_ | refine chkV_den ?_ | refine chkP_den rfl ?_)
 refine pure_den _ (subI (by omega) (by omega)) ?_
 repeat (first | refine chkN_den ?_ | refine chkV_den ?_ | refine chkP_den rfl ?_)
 refine ⟨.pointer (some ⟨0, 0, none⟩), fun ho => hoff ho, .inr rfl, ?_⟩
 repeat (first | refine chkN_den ?_ | refine chkV_den ?_ | refine chkP_den rfl ?_)
 refine ⟨[iV 0], rfl, ⟨rfl, trivial⟩, fun ho => hoff ho, ?_⟩
 repeat (first | refine chkN_den ?_ | refine chkV_den ?_ | refine chkP_den rfl ?_)
 refine pure_den _ (neq_eq _ _) ?_
 repeat (first | refine chkN_den ?_ | refine chkV_den ?_ | refine chkP_den rfl ?_)
 refine pure_den _ (pick_or _ _) (br_den (fun _ => ?_) (fun hd => by cases hd))
 repeat (first | refine chkN_den ?_ | refine chkV_den ?_ | refine chkP_den rfl ?_)
 exact ret_denO ⟨rfl, rfl⟩
theorem c_Push_1 (n a c : Int) (H : Heap) (O : Own) : RetO PP F_stack_Push_1 [iV n, iV a, iV c] H O (.bool (withinB n a c)) := by
 refine run_stack_Push_1 (vs := [iV n, iV a, iV c]) (by kernel_rfl) ⟨rfl, rfl, rfl, trivial⟩ ?_
 simp only [T_stack_Push_1]
 repeat (first | refine chkN_den ?_ | refine chkV_den ?_ | refine newbox_den fun _ => ?_ | refine pure_den _ (lss_eq _ _) ?_ | refine pure_den _ (gtr_eq _ _) ?_ | refine pure_den _ (leq_eq _ _) ?_ | refine pure_den _ (geq_eq _ _) ?_ | refine pure_den _ (eql_eq _ _) ?_ | refine pure_den _ (neq_eq _ _) ?_ | refine pure_den _ (pick_and _ _) ?_ | refine pure_den _ (pick_or _ _) ?_ | refine pure_den _ (not_eq' _) ?_ | refine pure_den _ (beql_eq _ _) ?_ | refine pure_den _ (bneq_eq _ _) ?_)
 refine ret_denO ⟨?_, rfl⟩
 simp only [withinB, Value.bool.injEq]
 rw [Bool.eq_iff_iff]; simp
theorem push_bad {H : Heap} {v : BV12} {b : Bd} (h : BdS H v b) (hv : validBd b = false) (player id card trig : Int) {s : Value} {tg : List Tg} (hs : Sl H 2 s (tRows tg)) :
  RetO PP F_stack_Push [.agg (boardC v b).toArray, .agg #[iV player, iV id, iV card, iV trig, s]] H [] (badR 2) := by
 refine run_stack_Push (vs := boardC v b ++ [iV player, iV id, iV card, iV trig, s]) (by kernel_rfl) (ones_app (boardC_ones (h.r [])) ⟨rfl, rfl, rfl, rfl, hs.one, trivial⟩) ?_
 simp only [T_stack_Push]
 have slen : evalPure .len [s] = some (iV tg.length) := by have := hs.len; rwa [tRows_len] at this
 refine newbox_den fun r0 => newbox_den fun r1 => newbox_den fun r2 => ?_
 repeat (first | refine chkN_den ?_ | refine chkV_den ?_ | refine chkP_den rfl ?_)
 refine call_retO (c_Push_1 player 0 1 _ _) rfl ⟨rfl, trivial⟩ fun H1 l1 => br_den (fun _ => ?_) (fun _ => ?_)
 ·repeat (first | refine chkN_den ?_ | refine chkV_den ?_ | refine chkP_den rfl ?_)
  refine call_retO (c_Push_1 id 1 500 _ _) rfl ⟨rfl, trivial⟩ fun H2 l2 => br_den (fun _ => ?_) (fun _ => ?_)
  ·repeat (first | refine chkN_den ?_ | refine chkV_den ?_ | refine chkP_den rfl ?_)
   refine call_retO (c_Push_1 card 0 399 _ _) rfl ⟨rfl, trivial⟩ fun H3 l3 => br_den (fun _ => ?_) (fun _ => ?_)
   ·repeat (first | refine chkN_den ?_ | refine chkV_den ?_ | refine chkP_den rfl ?_)
    refine call_retO (c_Push_1 trig 0 1 _ _) rfl ⟨rfl, trivial⟩ fun H4 l4 => ?_
    repeat (first | refine chkN_den ?_ | refine chkV_den ?_ | refine chkP_den rfl ?_)
    refine call_retO (c_board_Valid ((h.le (Heap.le_trans l1 (Heap.le_trans l2 (Heap.le_trans l3 l4)))).r [])) rfl ⟨rfl, trivial⟩ fun H5 l5 => ?_
    rw [hv]
    repeat (first | refine chkN_den ?_ | refine chkV_den ?_ | refine newbox_den fun _ => ?_ | refine pure_den _ (lss_eq _ _) ?_ | refine pure_den _ (gtr_eq _ _) ?_ | refine pure_den _ (leq_eq _ _) ?_ | refine pure_den _ (geq_eq _ _) ?_ | refine pure_den _ (eql_eq _ _) ?_ | refine pure_den _ (neq_eq _ _) ?_ | refine pure_den _ (pick_and _ _) ?_ | refine pure_den _ (pick_or _ _) ?_ | refine pure_den _ (not_eq' _) ?_ | refine pure_den _ (beql_eq _ _) ?_ | refine pure_den _ (bneq_eq _ _) ?_)
    refine pure_den _ slen ?_
    repeat (first | refine chkN_den ?_ | refine chkV_den ?_ | refine newbox_den fun _ => ?_ | refine pure_den _ (lss_eq _ _) ?_ | refine pure_den _ (gtr_eq _ _) ?_ | refine pure_den _ (leq_eq _ _) ?_ | refine pure_den _ (geq_eq _ _) ?_ | refine pure_den _ (eql_eq _ _) ?_ | refine pure_den _ (neq_eq _ _) ?_ | refine pure_den _ (pick_and _ _) ?_ | refine pure_den _ (pick_or _ _) ?_ | refine pure_den _ (not_eq' _) ?_ | refine pure_den _ (beql_eq _ _) ?_ | refine pure_den _ (bneq_eq _ _) ?_)
    refine br_den (fun _ => ?_) (fun hd => by cases hd)
    repeat (first | refine chkN_den ?_ | refine chkV_den ?_ | refine chkP_den rfl ?_)
    exact ret_denO ⟨rfl, rfl⟩
   ·repeat (first | refine chkN_den ?_ | refine chkV_den ?_ | refine chkP_den rfl ?_)
    refine call_retO (c_board_Valid ((h.le (Heap.le_trans l1 (Heap.le_trans l2 l3))).r [])) rfl ⟨rfl, trivial⟩ fun H5 l5 => ?_
    rw [hv]
    repeat (first | refine chkN_den ?_ | refine chkV_den ?_ | refine newbox_den fun _ => ?_ | refine pure_den _ (lss_eq _ _) ?_ | refine pure_den _ (gtr_eq _ _) ?_ | refine pure_den _ (leq_eq _ _) ?_ | refine pure_den _ (geq_eq _ _) ?_ | refine pure_den _ (eql_eq _ _) ?_ | refine pure_den _ (neq_eq _ _) ?_ | refine pure_den _ (pick_and _ _) ?_ | refine pure_den _ (pick_or _ _) ?_ | refine pure_den _ (not_eq' _) ?_ | refine pure_den _ (beql_eq _ _) ?_ | refine pure_den _ (bneq_eq _ _) ?_)
    refine pure_den _ slen ?_
    repeat (first | refine chkN_den ?_ | refine chkV_den ?_ | refine newbox_den fun _ => ?_ | refine pure_den _ (lss_eq _ _) ?_ | refine pure_den _ (gtr_eq _ _) ?_ | refine pure_den _ (leq_eq _ _) ?_ | refine pure_den _ (geq_eq _ _) ?_ | refine pure_den _ (eql_eq _ _) ?_ | refine pure_den _ (neq_eq _ _) ?_ | refine pure_den _ (pick_and _ _) ?_ | refine pure_den _ (pick_or _ _) ?_ | refine pure_den _ (not_eq' _) ?_ | refine pure_den _ (beql_eq _ _) ?_ | refine pure_den _ (bneq_eq _ _) ?_)
    refine br_den (fun _ => ?_) (fun hd => by cases hd)
    repeat (first | refine chkN_den ?_ | refine chkV_den ?_ | refine chkP_den rfl ?_)
    exact ret_denO ⟨rfl, rfl⟩
  ·repeat (first | refine chkN_den ?_ | refine chkV_den ?_ | refine chkP_den rfl ?_)
   refine call_retO (c_board_Valid ((h.le (Heap.le_trans l1 l2)).r [])) rfl ⟨rfl, trivial⟩ fun H5 l5 => ?_
   rw [hv]
   repeat (first | refine chkN_den ?_ | refine chkV_den ?_ | refine newbox_den fun _ => ?_ | refine pure_den _ (lss_eq _ _) ?_ | refine pure_den _ (gtr_eq _ _) ?_ | refine pure_den _ (leq_eq _ _) ?_ | refine pure_den _ (geq_eq _ _) ?_ | refine pure_den _ (eql_eq _ _) ?_ | refine pure_den _ (neq_eq _ _) ?_ | refine pure_den _ (pick_and _ _) ?_ | refine pure_den _ (pick_or _ _) ?_ | refine pure_den _ (not_eq' _) ?_ | refine pure_den _ (beql_eq _ _) ?_ | refine pure_den _ (bneq_eq _ _) ?_)
   refine pure_den _ slen ?_
   repeat (first | refine chkN_den ?_ | refine chkV_den ?_ | refine newbox_den fun _ => ?_ | refine pure_den _ (lss_eq _ _) ?_ | refine pure_den _ (gtr_eq _ _) ?_ | refine pure_den _ (leq_eq _ _) ?_ | refine pure_den _ (geq_eq _ _) ?_ | refine pure_den _ (eql_eq _ _) ?_ | refine pure_den _ (neq_eq _ _) ?_ | refine pure_den _ (pick_and _ _) ?_ | refine pure_den _ (pick_or _ _) ?_ | refine pure_den _ (not_eq' _) ?_ | refine pure_den _ (beql_eq _ _) ?_ | refine pure_den _ (bneq_eq _ _) ?_)
   refine br_den (fun _ => ?_) (fun hd => by cases hd)
   repeat (first | refine chkN_den ?_ | refine chkV_den ?_ | refine chkP_den rfl ?_)
   exact ret_denO ⟨rfl, rfl⟩
 ·repeat (first | refine chkN_den ?_ | refine chkV_den ?_ | refine chkP_den rfl ?_)
  refine call_retO (c_board_Valid ((h.le l1).r [])) rfl ⟨rfl, trivial⟩ fun H5 l5 => ?_
  rw [hv]
  repeat (first | refine chkN_den ?_ | refine chkV_den ?_ | refine newbox_den fun _ => ?_ | refine pure_den _ (lss_eq _ _) ?_ | refine pure_den _ (gtr_eq _ _) ?_ | refine pure_den _ (leq_eq _ _) ?_ | refine pure_den _ (geq_eq _ _) ?_ | refine pure_den _ (eql_eq _ _) ?_ | refine pure_den _ (neq_eq _ _) ?_ | refine pure_den _ (pick_and _ _) ?_ | refine pure_den _ (pick_or _ _) ?_ | refine pure_den _ (not_eq' _) ?_ | refine pure_den _ (beql_eq _ _) ?_ | refine pure_den _ (bneq_eq _ _) ?_)
  refine pure_den _ slen ?_
  repeat (first | refine chkN_den ?_ | refine chkV_den ?_ | refine newbox_den fun _ => ?_ | refine pure_den _ (lss_eq _ _) ?_ | refine pure_den _ (gtr_eq _ _) ?_ | refine pure_den _ (leq_eq _ _) ?_ | refine pure_den _ (geq_eq _ _) ?_ | refine pure_den _ (eql_eq _ _) ?_ | refine pure_den _ (neq_eq _ _) ?_ | refine pure_den _ (pick_and _ _) ?_ | refine pure_den _ (pick_or _ _) ?_ | refine pure_den _ (not_eq' _) ?_ | refine pure_den _ (beql_eq _ _) ?_ | refine pure_den _ (bneq_eq _ _) ?_)
  refine br_den (fun _ => ?_) (fun hd => by cases hd)
  repeat (first | refine chkN_den ?_ | refine chkV_den ?_ | refine chkP_den rfl ?_)
  exact ret_denO ⟨rfl, rfl⟩
theorem bad_true {H : Heap} {cv : Value} {cs : List Cd} (hk : CardsS H cv cs) {v : BV12} {b : Bd} (h : BdS H v b) {id : Int} (hid : i64 id) (t : Tg) (player xid card trig : Int) {s : Value} {tg : List Tg} (hs : Sl H 2 s (tRows tg)) :
  Triple PP F_zeitnotlaw18_StackBad [cv, .agg (boardC v b).toArray, iV id, .agg t.row.toArray, .agg #[iV player, iV xid, iV card, iV trig, s]] H [] fun r _ O' => r = .bool true ∧ O' = [] := by
 refine run_zeitnotlaw18_StackBad (vs := cv :: (boardC v b ++ (iV id :: (t.row ++ [iV player, iV xid, iV card, iV trig, s])))) (by kernel_rfl) ⟨hk.one, ones_app (boardC_ones (h.r [])) ⟨rfl, ones_app (tg_ones t) ⟨rfl, rfl, rfl, rfl, hs.one, trivial⟩⟩⟩ ?_
 simp only [T_zeitnotlaw18_StackBad]
 have slen : evalPure .len [s] = some (iV tg.length) := by have := hs.len; rwa [tRows_len] at this
 have hz1 : ∀ H' : Heap, Ones (boardC nilV zBd ++ [iV 2]) := fun H' => ones_app (boardC_ones ((bdS_zero H').r [])) ⟨rfl, trivial⟩
 refine newbox_den fun r0 => newbox_den fun r1 => newbox_den fun r2 => ?_
 repeat (first | refine chkN_den ?_ | refine chkV_den ?_ | refine chkP_den rfl ?_)
 refine call_retO (c_light hk) rfl ⟨rfl, trivial⟩ fun H1 l1 => pure_den _ (not_eq' _) (br_den (fun _ => ?_) (fun _ => ?_))
 ·repeat (first | refine chkN_den ?_ | refine chkV_den ?_ | refine chkP_den rfl ?_)
  exact call_retO (c_knownT _ []) rfl ⟨rfl, trivial⟩ fun _ _ => ret_denO ⟨rfl, rfl⟩
 replace h := h.le l1
 repeat (first | refine chkN_den ?_ | refine chkV_den ?_ | refine chkP_den rfl ?_)
 refine call_retO (c_small (h.r [])) rfl ⟨rfl, trivial⟩ fun H2 l2 => pure_den _ (not_eq' _) (br_den (fun _ => ?_) (fun hc => ?_))
 ·repeat (first | refine chkN_den ?_ | refine chkV_den ?_ | refine chkP_den rfl ?_)
  exact call_retO (c_knownT _ []) rfl ⟨rfl, trivial⟩ fun _ _ => ret_denO ⟨rfl, rfl⟩
 have hsm : smallBd b = true := notF hc
 have hB := small_B hsm
 have hfit := small_fit hsm
 replace h := h.le l2
 repeat (first | refine chkN_den ?_ | refine chkV_den ?_ | refine chkP_den rfl ?_)
 refine call_retO (r_Valid (h.r []) hfit) rfl ⟨rfl, trivial⟩ fun H3 l3 => ?_
 replace h := h.le l3
 rw [valid_eq]
 repeat (first | refine chkN_den ?_ | refine chkV_den ?_ | refine chkP_den rfl ?_)
 refine pure_den _ slen ?_
 repeat (first | refine chkN_den ?_ | refine chkV_den ?_ | refine newbox_den fun _ => ?_ | refine pure_den _ (lss_eq _ _) ?_ | refine pure_den _ (gtr_eq _ _) ?_ | refine pure_den _ (leq_eq _ _) ?_ | refine pure_den _ (geq_eq _ _) ?_ | refine pure_den _ (eql_eq _ _) ?_ | refine pure_den _ (neq_eq _ _) ?_ | refine pure_den _ (pick_and _ _) ?_ | refine pure_den _ (pick_or _ _) ?_ | refine pure_den _ (not_eq' _) ?_ | refine pure_den _ (beql_eq _ _) ?_ | refine pure_den _ (bneq_eq _ _) ?_)
 refine br_den (fun _ => ?_) (fun hc => ?_)
 ·repeat (first | refine chkN_den ?_ | refine chkV_den ?_ | refine chkP_den rfl ?_)
  exact call_retO (c_knownT _ []) rfl ⟨rfl, trivial⟩ fun _ _ => ret_denO ⟨rfl, rfl⟩
 have hc : (validBd b || decide ((tg.length : Int) > 6)) = false := hc
 rw [Bool.or_eq_false_iff] at hc
 have hv := hc.1
 replace hs := hs.le (Heap.le_trans l1 (Heap.le_trans l2 l3))
 repeat (first | refine chkN_den ?_ | refine chkV_den ?_ | refine chkP_den rfl ?_)
 refine call_new (Triple.frozen (r_Copy h hB)) ?_
 rintro _ H4 _ ⟨⟨u, rfl, hwas⟩, rfl⟩ l4
 refine ⟨boardC u b, rfl, boardC_ones (hwas.r []), newbox_den fun r3 => ?_⟩
 replace h := h.le l4
 replace hs := hs.le l4
 repeat (first | refine chkN_den ?_ | refine chkV_den ?_ | refine chkP_den rfl ?_)
 refine call_new0 (cast_bad h hv hid) (vs := boardC nilV zBd ++ [iV 2]) rfl (hz1 H4) fun H5 l5 => newbox_den fun r4 => ?_
 replace h := h.le l5
 replace hs := hs.le l5
 replace hwas := hwas.le l5
 repeat (first | refine chkN_den ?_ | refine chkV_den ?_ | refine chkP_den rfl ?_)
 refine call_new0 (push_bad h hv player xid card trig hs) (vs := boardC nilV zBd ++ [iV 2]) rfl (hz1 H5) fun H6 l6 => newbox_den fun r5 => ?_
 replace h := h.le l6
 replace hwas := hwas.le l6
 repeat (first | refine chkN_den ?_ | refine chkV_den ?_ | refine chkP_den rfl ?_)
 refine call_new0 (aim_bad hk.one h hv t) (vs := boardC nilV zBd ++ [iV 2]) rfl (hz1 H6) fun H7 l7 => newbox_den fun r6 => ?_
 replace h := h.le l7
 replace hwas := hwas.le l7
 repeat (first | refine chkN_den ?_ | refine chkV_den ?_ | refine chkP_den rfl ?_)
 refine call_new0 (pop_bad h hv) (vs := boardC nilV zBd ++ ([iV 0, iV 0, iV 0, iV 0, .slice none 0 0] ++ [iV 2])) rfl (ones_app (boardC_ones ((bdS_zero H7).r [])) ⟨rfl, rfl, rfl, rfl, rfl, rfl, trivial⟩) fun H8 l8 => newbox_den fun r7 => ?_
 replace h := h.le l8
 replace hwas := hwas.le l8
 repeat (first | refine chkN_den ?_ | refine chkV_den ?_ | refine chkP_den rfl ?_)
 refine newbox_den fun r8 => ?_
 repeat (first | refine chkN_den ?_ | refine chkV_den ?_ | refine chkP_den rfl ?_)
 refine call_new0 (counter_bad h hv hid) (vs := boardC nilV zBd ++ [iV 2]) rfl (hz1 H8) fun H9 l9 => newbox_den fun r9 => ?_
 replace h := h.le l9
 replace hwas := hwas.le l9
 repeat (first | refine chkN_den ?_ | refine chkV_den ?_ | refine chkP_den rfl ?_)
 refine call_drop (O1 := []) (List.Perm.refl _) (c_gives (OwnB.zero tys) (bdS_zero _) h hwas 2 2) rfl ⟨rfl, trivial⟩ fun Hg1 Og1 lg1 => br_den (fun _ => ?_) (fun hx => by simp at hx)
 replace h := h.le lg1
 replace hwas := hwas.le lg1
 repeat (first | refine chkN_den ?_ | refine chkV_den ?_ | refine chkP_den rfl ?_)
 refine call_drop (O1 := []) (List.Perm.refl _) (c_gives (OwnB.zero tys) (bdS_zero _) h hwas 2 2) rfl ⟨rfl, trivial⟩ fun Hg2 Og2 lg2 => br_den (fun _ => ?_) (fun hx => by simp at hx)
 replace h := h.le lg2
 replace hwas := hwas.le lg2
 repeat (first | refine chkN_den ?_ | refine chkV_den ?_ | refine chkP_den rfl ?_)
 refine call_drop (O1 := []) (List.Perm.refl _) (c_gives (OwnB.zero tys) (bdS_zero _) h hwas 2 2) rfl ⟨rfl, trivial⟩ fun Hg3 Og3 lg3 => br_den (fun _ => ?_) (fun hx => by simp at hx)
 replace h := h.le lg3
 replace hwas := hwas.le lg3
 repeat (first | refine chkN_den ?_ | refine chkV_den ?_ | refine chkP_den rfl ?_)
 refine call_drop (O1 := []) (List.Perm.refl _) (c_gives (OwnB.zero tys) (bdS_zero _) h hwas 2 2) rfl ⟨rfl, trivial⟩ fun Hg4 Og4 lg4 => br_den (fun _ => ?_) (fun hx => by simp at hx)
 replace h := h.le lg4
 replace hwas := hwas.le lg4
 repeat (first | refine chkN_den ?_ | refine chkV_den ?_ | refine chkP_den rfl ?_)
 have hI : ∀ (H' : Heap) (O' : Own), ItR H' O' [iV 0, iV 0, iV 0, iV 0, .slice none 0 0] ⟨0, 0, 0, 0, []⟩ := fun H' O' => ⟨_, rfl, (Sl.nil H' 2).rsl O'⟩
 refine call_retO (r_SameItem (hI _ _) (hI _ _)) rfl ⟨rfl, trivial⟩ fun H10 l10 => br_den (fun _ => ?_) (fun hx => by simp at hx)
 replace h := h.le l10
 replace hwas := hwas.le l10
 repeat (first | refine chkN_den ?_ | refine chkV_den ?_ | refine chkP_den rfl ?_)
 refine call_drop (O1 := []) (List.Perm.refl _) (c_gives (OwnB.zero tys) (bdS_zero _) h hwas 2 2) rfl ⟨rfl, trivial⟩ fun Hg5 Og5 lg5 => br_den (fun _ => ?_) (fun hx => by simp at hx)
 replace h := h.le lg5
 replace hwas := hwas.le lg5
 repeat (first | refine chkN_den ?_ | refine chkV_den ?_ | refine chkP_den rfl ?_)
 refine call_new0 (open_bad hk.one h hv) rfl ⟨rfl, trivial⟩ fun H11 l11 => ?_
 repeat (first | refine chkN_den ?_ | refine chkV_den ?_ | refine chkP_den rfl ?_)
 refine pure_den _ (eql_eq _ _) (br_den (fun _ => ?_) (fun hx => by cases hx))
 repeat (first | refine chkN_den ?_ | refine chkV_den ?_ | refine chkP_den rfl ?_)
 exact call_retO (c_knownT _ _) rfl ⟨rfl, trivial⟩ fun _ _ => ret_drop ⟨rfl, rfl⟩
end Go.Proofs.YtieaihgbjikggaaGreat
