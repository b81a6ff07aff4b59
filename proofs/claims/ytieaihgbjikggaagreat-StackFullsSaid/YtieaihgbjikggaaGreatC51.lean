/- Legal targets; light cards; lists that are equal. -/
import Derived.Test.YtieaihgbjikggaaGreatC48
import Derived.Test.YtieaihgbjikggaaGreatKT
import Derived.Test.YtieaihgbjikggaaGreatKN2
import Derived.Test.YtieaihgbjikggaaGreatM17
import Derived.Test.YtieaihgbjikggaaGreatC1
import Derived.Test.YtieaihgbjikggaaGreatC8
namespace Go.Proofs.YtieaihgbjikggaaGreat
open Go Go.Sx
set_option maxRecDepth 100000
set_option maxHeartbeats 1000000
end Go.Proofs.YtieaihgbjikggaaGreat
namespace Go.Proofs.YtieaihgbjikggaaGreat
open Go Go.Sx
set_option maxRecDepth 100000
set_option maxHeartbeats 1000000
end Go.Proofs.YtieaihgbjikggaaGreat
namespace Go.Proofs.YtieaihgbjikggaaGreat
open Go Go.Sx
set_option maxRecDepth 100000
set_option maxHeartbeats 1000000
end Go.Proofs.YtieaihgbjikggaaGreat
namespace Go.Proofs.YtieaihgbjikggaaGreat
open Go Go.Sx
set_option maxRecDepth 100000
set_option maxHeartbeats 1000000
end Go.Proofs.YtieaihgbjikggaaGreat
namespace Go.Proofs.YtieaihgbjikggaaGreat
open Go Go.Sx
set_option maxRecDepth 100000
set_option maxHeartbeats 1000000
theorem nodup_len : ∀ {l m : List Int}, l.Nodup → (∀ x ∈ l, x ∈ m) → l.length ≤ m.length
 | [], _, _, _ => Nat.zero_le _
 | a :: l, m, h, hs => by
  rw [List.nodup_cons] at h
  have ha := hs a List.mem_cons_self
  have ih := nodup_len (m := m.erase a) h.2 fun x hx => (List.mem_erase_of_ne (fun e => by rw [e] at hx; exact h.1 hx)).2 (hs x (List.mem_cons_of_mem _ hx))
  rw [List.length_erase_of_mem ha] at ih
  have := List.length_pos_of_mem ha
  rw [List.length_cons]; omega
section
variable {cs : List Cd} {b : Bd} (h : validBd b = true) {k : Nat} {o : Ob} (hk : b.objs[k]? = some o) {z : Int} (hz : z = 0 ∨ z = 1 ∨ z = 2 ∨ z = 3)
include h hk hz
end
end Go.Proofs.YtieaihgbjikggaaGreat
namespace Go.Proofs.YtieaihgbjikggaaGreat
open Go Go.Sx
set_option maxRecDepth 100000
set_option maxHeartbeats 1000000
end Go.Proofs.YtieaihgbjikggaaGreat
namespace Go.Proofs.YtieaihgbjikggaaGreat
open Go Go.Sx
set_option maxRecDepth 100000
set_option maxHeartbeats 1000000
end Go.Proofs.YtieaihgbjikggaaGreat
namespace Go.Proofs.YtieaihgbjikggaaGreat
open Go Go.Sx
set_option maxRecDepth 100000
set_option maxHeartbeats 1000000
/-- The zero board and an error. -/
abbrev badR (e : Int) : Value := .tuple #[.agg (boardC nilV zBd).toArray, iV e]
theorem c_Push_1 (n a c : Int) (H : Heap) (O : Own) : RetO PP F_stack_Push_1 [iV n, iV a, iV c] H O (.bool (withinB n a c)) := by
 refine run_stack_Push_1 (vs := [iV n, iV a, iV c]) (by kernel_rfl) ⟨rfl, rfl, rfl, trivial⟩ ?_
 simp only [T_stack_Push_1]
 repeat (first | refine chkN_den ?_ | refine chkV_den ?_ | refine newbox_den fun _ => ?_ | refine pure_den _ (lss_eq _ _) ?_ | refine pure_den _ (gtr_eq _ _) ?_ | refine pure_den _ (leq_eq _ _) ?_ | refine pure_den _ (geq_eq _ _) ?_ | refine pure_den _ (eql_eq _ _) ?_ | refine pure_den _ (neq_eq _ _) ?_ | refine pure_den _ (pick_and _ _) ?_ | refine pure_den _ (pick_or _ _) ?_ | refine pure_den _ (not_eq' _) ?_ | refine pure_den _ (beql_eq _ _) ?_ | refine pure_den _ (bneq_eq _ _) ?_)
 refine ret_denO ⟨?_, rfl⟩
 simp only [withinB, Value.bool.injEq]
 rw [Bool.eq_iff_iff]; simp
theorem push_bad {H : Heap} {v : BV12} {b : Bd} (h : BdS H v b) (hv : validBd b = false) (player id card trig : Int) {s : Value} {tg : List Tg} (hs : Sl H 2 s (tRows tg)) :
  RetO PP F_stack_Push [.agg (boardC v b).toArray, .agg #[iV player, iV id, iV card, iV trig, s]] H [] (badR 2) := by
 refine run_stack_Push (vs := boardC v b ++ [iV player, iV id, iV card, iV trig, s]) (by kernel_rfl) (ones_app (boardC_ones (h.r [])) ⟨rfl, rfl, rfl, rfl, hs.one, trivial⟩) ?_
 simp only [T_stack_Push]
 have slen : evalPure .len [s] = some (iV tg.length) := by have := hs.len; rwa [tRows_len] at this
 refine newbox_den fun r0 => newbox_den fun r1 => newbox_den fun r2 => ?_
 repeat (first | refine chkN_den ?_ | refine chkV_den ?_ | refine chkP_den rfl ?_)
 refine call_retO (c_Push_1 player 0 1 _ _) rfl ⟨rfl, trivial⟩ fun H1 l1 => br_den (fun _ => ?_) (fun _ => ?_)
 ·repeat (first | refine chkN_den ?_ | refine chkV_den ?_ | refine chkP_den rfl ?_)
  refine call_retO (c_Push_1 id 1 500 _ _) rfl ⟨rfl, trivial⟩ fun H2 l2 => br_den (fun _ => ?_) (fun _ => ?_)
  ·repeat (first | refine chkN_den ?_ | refine chkV_den ?_ | refine chkP_den rfl ?_)
   refine call_retO (c_Push_1 card 0 399 _ _) rfl ⟨rfl, trivial⟩ fun H3 l3 => br_den (fun _ => ?_) (fun _ => ?_)
   ·repeat (first | refine chkN_den ?_ | refine chkV_den ?_ | refine chkP_den rfl ?_)
    refine call_retO (c_Push_1 trig 0 1 _ _) rfl ⟨rfl, trivial⟩ fun H4 l4 => ?_
    repeat (first | refine chkN_den ?_ | refine chkV_den ?_ | refine chkP_den rfl ?_)
    refine call_retO (c_board_Valid ((h.le (Heap.le_trans l1 (Heap.le_trans l2 (Heap.le_trans l3 l4)))).r [])) rfl ⟨rfl, trivial⟩ fun H5 l5 => ?_
    rw [hv]
    repeat (first | refine chkN_den ?_ | refine chkV_den ?_ | refine newbox_den fun _ => ?_ | refine pure_den _ (lss_eq _ _) ?_ | refine pure_den _ (gtr_eq _ _) ?_ | refine pure_den _ (leq_eq _ _) ?_ | refine pure_den _ (geq_eq _ _) ?_ | refine pure_den _ (eql_eq _ _) ?_ | refine pure_den _ (neq_eq _ _) ?_ | refine pure_den _ (pick_and _ _) ?_ | refine pure_den _ (pick_or _ _) ?_ | refine pure_den _ (not_eq' _) ?_ | refine pure_den _ (beql_eq _ _) ?_ | refine pure_den _ (bneq_eq _ _) ?_)
    refine pure_den _ slen ?_
    repeat (first | refine chkN_den ?_ | refine chkV_den ?_ | refine newbox_den fun _ => ?_ | refine pure_den _ (lss_eq _ _) ?_ | refine pure_den _ (gtr_eq _ _) ?_ | refine pure_den _ (leq_eq _ _) ?_ | refine pure_den _ (geq_eq _ _) ?_ | refine pure_den _ (eql_eq _ _) ?_ | refine pure_den _ (neq_eq _ _) ?_ | refine pure_den _ (pick_and _ _) ?_ | refine pure_den _ (pick_or _ _) ?_ | refine pure_den _ (not_eq' _) ?_ | refine pure_den _ (beql_eq _ _) ?_ | refine pure_den _ (bneq_eq _ _) ?_)
    refine br_den (fun _ => ?_) (fun hd => by cases hd)
    repeat (first | refine chkN_den ?_ | refine chkV_den ?_ | refine chkP_den rfl ?_)
    exact ret_denO ⟨rfl, rfl⟩
   ·repeat (first | refine chkN_den ?_ | refine chkV_den ?_ | refine chkP_den rfl ?_)
    refine call_retO (c_board_Valid ((h.le (Heap.le_trans l1 (Heap.le_trans l2 l3))).r [])) rfl ⟨rfl, trivial⟩ fun H5 l5 => ?_
    rw [hv]
    repeat (first | refine chkN_den ?_ | refine chkV_den ?_ | refine newbox_den fun _ => ?_ | refine pure_den _ (lss_eq _ _) ?_ | refine pure_den _ (gtr_eq _ _) ?_ | refine pure_den _ (leq_eq _ _) ?_ | refine pure_den _ (geq_eq _ _) ?_ | refine pure_den _ (eql_eq _ _) ?_ | refine pure_den _ (neq_eq _ _) ?_ | refine pure_den _ (pick_and _ _) ?_ | refine pure_den _ (pick_or _ _) ?_ | refine pure_den _ (not_eq' _) ?_ | refine pure_den _ (beql_eq _ _) ?_ | refine pure_den _ (bneq_eq _ _) ?_)
    refine pure_den _ slen ?_
    repeat (first | refine chkN_den ?_ | refine chkV_den ?_ | refine newbox_den fun _ => ?_ | refine pure_den _ (lss_eq _ _) ?_ | refine pure_den _ (gtr_eq _ _) ?_ | refine pure_den _ (leq_eq _ _) ?_ | refine pure_den _ (geq_eq _ _) ?_ | refine pure_den _ (eql_eq _ _) ?_ | refine pure_den _ (neq_eq _ _) ?_ | refine pure_den _ (pick_and _ _) ?_ | refine pure_den _ (pick_or _ _) ?_ | refine pure_den _ (not_eq' _) ?_ | refine pure_den _ (beql_eq _ _) ?_ | refine pure_den _ (bneq_eq _ _) ?_)
    refine br_den (fun _ => ?_) (fun hd => by cases hd)
    repeat (first | refine chkN_den ?_ | refine chkV_den ?_ | refine chkP_den rfl ?_)
    exact ret_denO ⟨rfl, rfl⟩
  ·repeat (first | refine chkN_den ?_ | refine chkV_den ?_ | refine chkP_den rfl ?_)
   refine call_retO (c_board_Valid ((h.le (Heap.le_trans l1 l2)).r [])) rfl ⟨rfl, trivial⟩ fun H5 l5 => ?_
   rw [hv]
   repeat (first | refine chkN_den ?_ | refine chkV_den ?_ | refine newbox_den fun _ => ?_ | refine pure_den _ (lss_eq _ _) ?_ | refine pure_den _ (gtr_eq _ _) ?_ | refine pure_den _ (leq_eq _ _) ?_ | refine pure_den _ (geq_eq _ _) ?_ | refine pure_den _ (eql_eq _ _) ?_ | refine pure_den _ (neq_eq _ _) ?_ | refine pure_den _ (pick_and _ _) ?_ | refine pure_den _ (pick_or _ _) ?_ | refine pure_den _ (not_eq' _) ?_ | refine pure_den _ (beql_eq _ _) ?_ | refine pure_den _ (bneq_eq _ _) ?_)
   refine pure_den _ slen ?_
   repeat (first | refine chkN_den ?_ | refine chkV_den ?_ | refine newbox_den fun _ => ?_ | refine pure_den _ (lss_eq _ _) ?_ | refine pure_den _ (gtr_eq _ _) ?_ | refine pure_den _ (leq_eq _ _) ?_ | refine pure_den _ (geq_eq _ _) ?_ | refine pure_den _ (eql_eq _ _) ?_ | refine pure_den _ (neq_eq _ _) ?_ | refine pure_den _ (pick_and _ _) ?_ | refine pure_den _ (pick_or _ _) ?_ | refine pure_den _ (not_eq' _) ?_ | refine pure_den _ (beql_eq _ _) ?_ | refine pure_den _ (bneq_eq _ _) ?_)
   refine br_den (fun _ => ?_) (fun hd => by cases hd)
   repeat (first | refine chkN_den ?_ | refine chkV_den ?_ | refine chkP_den rfl ?_)
   exact ret_denO ⟨rfl, rfl⟩
 ·repeat (first | refine chkN_den ?_ | refine chkV_den ?_ | refine chkP_den rfl ?_)
  refine call_retO (c_board_Valid ((h.le l1).r [])) rfl ⟨rfl, trivial⟩ fun H5 l5 => ?_
  rw [hv]
  repeat (first | refine chkN_den ?_ | refine chkV_den ?_ | refine newbox_den fun _ => ?_ | refine pure_den _ (lss_eq _ _) ?_ | refine pure_den _ (gtr_eq _ _) ?_ | refine pure_den _ (leq_eq _ _) ?_ | refine pure_den _ (geq_eq _ _) ?_ | refine pure_den _ (eql_eq _ _) ?_ | refine pure_den _ (neq_eq _ _) ?_ | refine pure_den _ (pick_and _ _) ?_ | refine pure_den _ (pick_or _ _) ?_ | refine pure_den _ (not_eq' _) ?_ | refine pure_den _ (beql_eq _ _) ?_ | refine pure_den _ (bneq_eq _ _) ?_)
  refine pure_den _ slen ?_
  repeat (first | refine chkN_den ?_ | refine chkV_den ?_ | refine newbox_den fun _ => ?_ | refine pure_den _ (lss_eq _ _) ?_ | refine pure_den _ (gtr_eq _ _) ?_ | refine pure_den _ (leq_eq _ _) ?_ | refine pure_den _ (geq_eq _ _) ?_ | refine pure_den _ (eql_eq _ _) ?_ | refine pure_den _ (neq_eq _ _) ?_ | refine pure_den _ (pick_and _ _) ?_ | refine pure_den _ (pick_or _ _) ?_ | refine pure_den _ (not_eq' _) ?_ | refine pure_den _ (beql_eq _ _) ?_ | refine pure_den _ (bneq_eq _ _) ?_)
  refine br_den (fun _ => ?_) (fun hd => by cases hd)
  repeat (first | refine chkN_den ?_ | refine chkV_den ?_ | refine chkP_den rfl ?_)
  exact ret_denO ⟨rfl, rfl⟩
end Go.Proofs.YtieaihgbjikggaaGreat
namespace Go.Proofs.YtieaihgbjikggaaGreat
open Go Go.Sx
set_option maxRecDepth 100000
set_option maxHeartbeats 1000000
theorem c_DeleteR_int {H : Heap} {A : Own} {v : Value} {rows : List (List Value)} (h : OSl Ty_int 1 v rows A) {k : Nat} (hk : k < rows.length) :
  Triple PP F_slices_Delete_int_int [v, iV k, iV ((k + 1 : Nat) : Int)] H A fun v' _ O' => OSl Ty_int 1 v' (rows.eraseIdx k) O' := by
 have hz := zero_int
 obtain ⟨hu, inf, hinf, hsz⟩ := appOk_info (P := PP) (t := 26) (e := Ty_int) (size := 1) (bytes := 8) (by kernel_rfl)
 rcases h with ⟨⟨a, rfl⟩, rfl, rfl⟩ | ⟨r, cs, cap, rfl, rfl, hcl, hlc, hcap, hl, ho, ht⟩
 ·simp at hk
 refine run_slices_Delete_int_int (vs := [.slice (some ⟨r, 0, none⟩) rows.length cap, iV k, iV ((k + 1 : Nat) : Int)]) (by kernel_rfl) ⟨rfl, rfl, rfl, trivial⟩ ?_
 simp only [T_slices_Delete_int_int]
 generalize hn : rows.length = n at *
 obtain ⟨d1, d2⟩ := delete_cells hn hk hl ht (by omega)
 have b1 : slcBounds n cap (some (iV k)) (some (iV ((k + 1 : Nat) : Int))) (some (iV n)) = some (k, k + 1, n) := by
  have x1 : k + 1 ≤ n := hk
  have x2 : ((k : Int) + 1).toNat = k + 1 := by omega
  have x3 : (k : Int) + 1 ≤ (n : Int) := by omega
  have x4 : (0 : Int) ≤ (k : Int) + 1 := by omega
  simp [slcBounds, boundOr, boundHi, boundI, asI, hlc, x2, x3, x4]
 have b2 : slcBounds n cap none (some (iV k)) none = some (0, k, cap) := by
  have x1 : k ≤ cap := by omega
  simp [slcBounds, boundOr, boundHi, boundI, asI, x1]
 have b3 : slcBounds n cap (some (iV ((k + 1 : Nat) : Int))) none none = some (k + 1, n, cap) := by
  have x2 : ((k : Int) + 1).toNat = k + 1 := by omega
  have x3 : (k : Int) + 1 ≤ (n : Int) := by omega
  have x4 : (0 : Int) ≤ (k : Int) + 1 := by omega
  simp [slcBounds, boundOr, boundHi, boundI, asI, x2, x3, x4]
 have b4 : slcBounds (n - 1) cap (some (iV ((n - 1 : Nat) : Int))) (some (iV n)) none = some (n - 1, n, cap) := by
  have x1 : n ≤ cap := hlc
  have x2 : n - 1 ≤ n := by omega
  simp [slcBounds, boundOr, boundHi, boundI, asI, x1, x2]
 have v1 : evalPure (.slc 1 true true true) [.slice (some ⟨r, 0, none⟩) n cap, iV k, iV ((k + 1 : Nat) : Int), iV n] = some (.slice (if n = k then some ⟨r, 0, none⟩ else (some (⟨r, 0, none⟩ : Addr)).map (·.add (k * 1))) (k + 1 - k) (n - k)) := by
  simp only [evalPure, takeArgs, evalSlc, b1, Option.map_some]
 have v2 : evalPure (.slc 1 false true false) [.slice (some ⟨r, 0, none⟩) n cap, iV k] = some (.slice (some ⟨r, 0, none⟩) k cap) := by
  simp only [evalPure, takeArgs, evalSlc, b2, Option.map_some]
  simp [Addr.add]
 have v3 : evalPure (.slc 1 true false false) [.slice (some ⟨r, 0, none⟩) n cap, iV ((k + 1 : Nat) : Int)] = some (.slice (some ⟨r, if cap = k + 1 then 0 else (k + 1) * 1, none⟩) (n - (k + 1)) (cap - (k + 1))) := by
  simp only [evalPure, takeArgs, evalSlc, b3, Option.map_some]
  split
  ·rfl
  ·show some (Value.slice (some ((⟨r, 0, none⟩ : Addr).add ((k + 1) * 1))) (n - (k + 1)) (cap - (k + 1))) = _
   rw [add_none, Nat.zero_add]
 have v4 : evalPure (.slc 1 true true false) [.slice (some ⟨r, 0, none⟩) (n - 1) cap, iV ((n - 1 : Nat) : Int), iV n] = some (.slice (some ⟨r, (n - 1) * 1, none⟩) (n - (n - 1)) (cap - (n - 1))) := by
  simp only [evalPure, takeArgs, evalSlc, b4, Option.map_some]
  rw [if_neg (by omega)]
  show some (Value.slice (some ((⟨r, 0, none⟩ : Addr).add ((n - 1) * 1))) (n - (n - 1)) (cap - (n - 1))) = _
  rw [add_none, Nat.zero_add]
 refine pure_den (.int .i64 n) rfl ?_
 refine pure_den _ v1 ?_
 refine pure_den _ (eql_eq _ _) (br_den (fun hb => ?_) (fun _ => ?_))
 ·exfalso; simp at hb; omega
 refine pure_den (.int .i64 n) rfl ?_
 refine pure_den _ v2 (pure_den _ v3 ?_)
 -- append in place
 have hnl : ((cs.drop ((k + 1) * 1)).take ((n - (k + 1)) * 1)).length = (n - (k + 1)) * 1 := by rw [List.length_take, List.length_drop, hcl]; omega
 have hones : ∀ u ∈ (cs.drop ((k + 1) * 1)).take ((n - (k + 1)) * 1), u.oneCell' = true := by
  obtain ⟨_, q⟩ := rows_flat (size := 1) (rows := rows) (cs := cs) hl (by rw [hn]; exact ht) (i := k + 1) (by omega)
  rw [hn] at q
  rw [← q]
  intro u hu'
  obtain ⟨row, hr, hu2⟩ := List.mem_flatten.1 hu'
  exact ones_mem (ho row (List.mem_of_mem_drop hr)) u hu2
 refine call_row (r := r) (cs := cs) (e := Ty_int) (O2 := []) (cs' := cs.take (0 + k * inf.size) ++ (cs.drop ((k + 1) * 1)).take ((n - (k + 1)) * 1) ++ cs.drop (0 + k * inf.size + ((cs.drop ((k + 1) * 1)).take ((n - (k + 1)) * 1)).length)) (by simp)
  (v := .slice (some ⟨r, 0, none⟩) (k + (n - (k + 1))) cap) (fun w F hm => ?_) rfl ⟨rfl, trivial⟩ ?_
 ·have hrow := (hm.own (r, .cells cs.toArray Ty_int (0, 0)) (by simp)).1
  have hsrc : Src PP inf.size 26 (.slice (some ⟨r, if cap = k + 1 then 0 else (k + 1) * 1, none⟩) (n - (k + 1)) (cap - (k + 1))) (n - (k + 1)) ((cs.drop ((k + 1) * 1)).take ((n - (k + 1)) * 1)) w := by
   rw [hsz]
   refine Src.ofSlice w hu _ _ _ _ hnl (fun j u hj => ?_) hones
   have hjlt : j < (n - (k + 1)) * 1 := by rw [← hnl]; exact (List.getElem?_eq_some_iff.1 hj).1
   have hne : ¬ cap = k + 1 := by intro e; rw [show n - (k + 1) = 0 by omega] at hjlt; omega
   rw [if_neg hne, add_none]
   refine own_cell hm ?_
   rw [List.getElem?_take, if_pos hjlt, List.getElem?_drop] at hj
   exact hj
  have hrun := run_append_in (ty := 26) hu hinf (len := k) (cap := cap) (off := 0) hrow hsrc (by omega) (by rw [hsz]; omega)
  simp only [PrimOp.sem, builtin, Sem.run_bind]
  rw [hrun]; rfl
 rw [hsz, hnl, Nat.zero_add]
 generalize hcs1 : cs.take (k * 1) ++ (cs.drop ((k + 1) * 1)).take ((n - (k + 1)) * 1) ++ cs.drop (k * 1 + (n - (k + 1)) * 1) = cs1
 have hlen1 : cs1.length = cs.length := by
  rw [← hcs1, List.length_append, d1, List.length_drop]; omega
 have hkn : k + (n - (k + 1)) = n - 1 := by omega
 rw [hkn]
 refine pure_den (.int .i64 ((n - 1 : Nat) : Int)) rfl ?_
 refine pure_den _ v4 ?_
 have hz1 := zero_ones (n := n - (n - 1)) (z := (iV 0).cells) (by simp [Value.cells, Value.oneCell'])
 refine call_row (r := r) (cs := cs1) (e := Ty_int) (O2 := []) (cs' := cs1.take ((n - 1) * 1) ++ (Builtin.zeroCells (iV 0).cells (n - (n - 1))).toList ++ cs1.drop ((n - 1) * 1 + (Builtin.zeroCells (iV 0).cells (n - (n - 1))).toList.length)) (List.Perm.refl _)
  (v := .tuple #[]) (fun w F hm => ?_) rfl trivial ?_
 ·have hrow := (hm.own (r, .cells cs1.toArray Ty_int (0, 0)) (by simp)).1
  have hrun := run_clear_in (ty := 0) (cap := cap - (n - 1)) (n := n - (n - 1)) (off := (n - 1) * 1) hu hz hrow (by
   show (n - 1) * 1 + (n - (n - 1)) * 1 ≤ cs1.length
   rw [hlen1, hcl]; omega) hz1
  simp only [PrimOp.sem, builtin, Sem.run_bind]
  rw [hrun]; rfl
 have hzl : (Builtin.zeroCells (iV 0).cells (n - (n - 1))).toList.length = (n - (n - 1)) * 1 := by
  rw [Array.length_toList, size_zeroCells]; rfl
 have hel : (rows.eraseIdx k).length = n - 1 := by rw [List.length_eraseIdx_of_lt (by omega), hn]
 refine ret_denO (.inr ⟨r, _, cap, ?_, by simp only [List.append_nil]; rfl, ?_, ?_, hcap, fun x hx => hl x (List.mem_of_mem_eraseIdx hx), fun x hx => ho x (List.mem_of_mem_eraseIdx hx), ?_⟩)
 ·rw [hel]; rfl
 ·rw [List.length_append, List.length_append, List.length_take, List.length_drop, hzl, hlen1, hcl]; omega
 ·rw [hel]; omega
 ·rw [hel, List.append_assoc, List.take_append_of_le_length (by rw [List.length_take, hlen1, hcl]; omega), List.take_take, Nat.min_self, ← hcs1, List.append_assoc, ← List.append_assoc, List.take_append_of_le_length (by rw [d1]; exact Nat.le_refl _), ← d1, List.take_length, d2]
theorem c_Cast_1 (o : Ob) (id : Int) (H : Heap) (O : Own) : RetO PP F_stack_Cast_1 [.agg o.row.toArray, iV id] H O (iV (IntKind.i64.wrap (o.id - id))) := by
 refine run_stack_Cast_1 (vs := o.row ++ [iV id]) (by kernel_rfl) (ones_app (ob_ones o) ⟨rfl, trivial⟩) ?_
 simp only [T_stack_Cast_1]
 exact newbox_den fun r0 => chkN_den (pure_den _ rfl (ret_denO ⟨rfl, rfl⟩))
theorem c_BinarySearchS {H : Heap} {O : Own} {v : Value} {l : List Ob} (h : RSl H O 12 v (l.map Ob.row)) {id : Int} (hid : i64 id) (hv : ∀ o ∈ l, 1 ≤ o.id ∧ o.id ≤ 500) (ho : ordP none l = true) (hlen : l.length ≤ 1000000) :
  Triple PP F_slices_BinarySearchFunc_api_Object_api_Object_int [v, iV id, .func (.func F_stack_Cast_1) #[] #[]] H O fun r _ O' => (∃ (i : Nat) (f : Bool), r = .tuple #[iV i, .bool f] ∧ (f = true → ∃ o, l[i]? = some o ∧ o.id = id) ∧ (f = false → ∀ o ∈ l, o.id ≠ id)) ∧ O' = O := by
 refine run_slices_BinarySearchFunc_api_Object_api_Object_int (vs := [v, iV id, .func (.func F_stack_Cast_1) #[] #[]]) (by kernel_rfl) ⟨h.one, rfl, rfl, trivial⟩ ?_
 simp only [T_slices_BinarySearchFunc_api_Object_api_Object_int]
 have hl := h.len
 have hB := h.lenB
 rw [List.length_map] at hl hB
 refine pure_den _ hl ?_
 refine loop_den (fun vs H' O' => ∃ i j : Nat, vs = [iV i, iV j] ∧ i ≤ j ∧ j ≤ l.length ∧ O' = O ∧ Heap.le H H' ∧ (1 ≤ id → id ≤ 500 → (∀ (k : Nat) (o : Ob), k < i → l[k]? = some o → o.id < id) ∧ ∀ (k : Nat) (o : Ob), j ≤ k → l[k]? = some o → id ≤ o.id))
  (fun vs _ _ => match g vs 0, g vs 1 with | .int _ a, .int _ b => (b - a).toNat | _, _ => 0) ⟨0, l.length, rfl, Nat.zero_le _, Nat.le_refl _, rfl, Heap.le_refl _, fun _ _ => ⟨fun k o hk => absurd hk (Nat.not_lt_zero k), fun k o hk e => by
   have := (List.getElem?_eq_some_iff.1 e).1; omega⟩⟩ ?_
 rintro vs H' O' - - - ⟨i, j, rfl, hij, hj, rfl, hle, hinv⟩
 refine pure_den _ (lss_eq _ _) (br_den (fun hb => ?_) (fun hb => ?_))
 ·have hlt : i < j := by simpa using hb
  have hm : (i + j) / 2 < l.length := by omega
  obtain ⟨a, h1, h2, _, h3, h4⟩ := (h.le hle).idx .i64 ((i + j) / 2) (Ob.row l[(i + j) / 2]) (by simp [hm])
  refine pure_den _ (add_nat' (by omega)) (pure_den _ (conv_u (by omega)) (pure_den _ (shr_one (by omega)) (pure_den _ (conv_i (by omega)) (pure_den _ h1 (load_denR h2 h3 h4 ?_)))))
  refine callv_den rfl (okFn_of okL_ok (by decide)) (c_Cast_1 l[(i + j) / 2] id H' O') rfl ⟨rfl, trivial⟩ fun H2 l2 => pure_den _ (lss_eq _ _) (br_den (fun hc => ?_) (fun hc => ?_))
  ·refine pure_den _ (add_one (by omega)) (cont_den (by simp [Eqs]) ⟨(i + j) / 2 + 1, j, rfl, by omega, hj, rfl, Heap.le_trans hle l2, fun a1 a2 => ⟨fun k o hk e => ?_, (hinv a1 a2).2⟩⟩ ?_)
   ·have hc := of_decide_eq_true hc
    have hm1 := hv _ (List.getElem_mem hm)
    rw [wrap_small hm1.1 hm1.2 a1 a2] at hc
    rcases Nat.lt_or_ge k ((i + j) / 2) with hk2 | hk2
    ·have := ord_lt ho hk2 e (List.getElem?_eq_getElem hm); omega
    ·have : k = (i + j) / 2 := by omega
     subst this
     rw [List.getElem?_eq_getElem hm] at e
     obtain rfl := Option.some.inj e
     omega
   ·show (((j : Int) - (((i + j) / 2 + 1 : Nat) : Int)).toNat) < ((j : Int) - (i : Int)).toNat
    omega
  ·refine cont_den (by simp [Eqs]) ⟨i, (i + j) / 2, rfl, by omega, by omega, rfl, Heap.le_trans hle l2, fun a1 a2 => ⟨(hinv a1 a2).1, fun k o hk e => ?_⟩⟩ ?_
   ·have hc := of_decide_eq_false hc
    have hm1 := hv _ (List.getElem_mem hm)
    rw [wrap_small hm1.1 hm1.2 a1 a2] at hc
    rcases Nat.lt_or_ge ((i + j) / 2) k with hk2 | hk2
    ·have := ord_lt ho hk2 (List.getElem?_eq_getElem hm) e; omega
    ·have : k = (i + j) / 2 := by omega
     subst this
     rw [List.getElem?_eq_getElem hm] at e
     obtain rfl := Option.some.inj e
     omega
   ·show (((((i + j) / 2 : Nat) : Int) - (i : Int)).toNat) < ((j : Int) - (i : Int)).toNat
    omega
 ·have hie : i = j := by
   have : ¬ ((i : Int) < (j : Int)) := of_decide_eq_false hb
   omega
  subst hie
  refine pure_den _ (lss_eq _ _) (br_den (fun hb => ?_) (fun hb => ?_))
  ·have hlt : i < l.length := by simpa using hb
   obtain ⟨a, h1, h2, _, h3, h4⟩ := (h.le hle).idx .i64 i (Ob.row l[i]) (by simp [hlt])
   have hm1 := hv _ (List.getElem_mem hlt)
   refine pure_den _ h1 (load_denR h2 h3 h4 (callv_den rfl (okFn_of okL_ok (by decide)) (c_Cast_1 l[i] id H' O') rfl ⟨rfl, trivial⟩ fun H2 l2 => pure_den _ (eql_eq _ _) (ret_denO ⟨⟨i, (IntKind.i64.wrap (l[i].id - id) == 0), rfl, fun hc => ?_, fun hc => ?_⟩, rfl⟩)))
   ·rw [wrap_zero hid hm1.1 hm1.2] at hc
    exact ⟨l[i], List.getElem?_eq_getElem hlt, by simpa using hc⟩
   ·rw [wrap_zero hid hm1.1 hm1.2] at hc
    have hne : l[i].id ≠ id := by simpa using hc
    intro o hmem e
    have hob := hv o hmem
    obtain ⟨i1, i2⟩ := hinv (by omega) (by omega)
    obtain ⟨k, hk⟩ := List.mem_iff_getElem?.1 hmem
    rcases Nat.lt_trichotomy k i with hki | hki | hki
    ·have := i1 k o hki hk; omega
    ·subst hki
     rw [List.getElem?_eq_getElem hlt] at hk
     obtain rfl := Option.some.inj hk
     exact hne e
    ·have := ord_lt ho hki (List.getElem?_eq_getElem hlt) hk
     have := i2 i l[i] (Nat.le_refl _) (List.getElem?_eq_getElem hlt)
     omega
  ·have hge : l.length ≤ i := by simpa using hb
   refine ret_denO ⟨⟨i, false, rfl, fun hc => (by cases hc), fun _ o hmem e => ?_⟩, rfl⟩
   have hob := hv o hmem
   obtain ⟨i1, _⟩ := hinv (by omega) (by omega)
   obtain ⟨k, hk⟩ := List.mem_iff_getElem?.1 hmem
   have := i1 k o (by have := (List.getElem?_eq_some_iff.1 hk).1; omega) hk
   omega
end Go.Proofs.YtieaihgbjikggaaGreat
namespace Go.Proofs.YtieaihgbjikggaaGreat
open Go Go.Sx
set_option maxRecDepth 100000
set_option maxHeartbeats 1000000
theorem oits_push {te ti : TypeId} {v : Value} {l : List It} {O : Own} (h : OIts te ti v l O) : ∃ rows A T, O.Perm (A ++ T) ∧ OSl ti 5 v rows A ∧ rows.length = l.length ∧
  ∀ v' A' (x : It) s, OSl ti 5 v' (rows ++ [[iV x.player, iV x.id, iV x.card, iV x.trig, s]]) A' → OSlE te 2 s (x.tgs.map Tg.row) [] → OIts te ti v' (l ++ [x]) (A' ++ T) := by
 obtain ⟨rows, A, Ts, h1, h2, h3, h4, h5⟩ := h
 refine ⟨rows, A, List.flatten Ts, h1, h2, h3, fun v' A' x s k1 k2 => ⟨_, A', Ts ++ [[]], by simp, k1, by simp [h3], by simp [h4], fun i r y T a b c => ?_⟩⟩
 rcases Nat.lt_or_ge i l.length with hi | hi
 ·rw [List.getElem?_append_left (by omega)] at a b c
  exact h5 i r y T a b c
 ·rw [List.getElem?_append_right (by omega)] at a b c
  have hi0 : i = l.length := by
   have := (List.getElem?_eq_some_iff.1 b).1
   simp at this; omega
  rw [hi0, h3, Nat.sub_self] at a
  rw [hi0, Nat.sub_self] at b
  rw [hi0, h4, Nat.sub_self] at c
  simp only [List.getElem?_cons_zero, Option.some.injEq] at a b c
  subst a; subst b; subst c
  exact ⟨s, rfl, k2⟩
def fineP (x : It) : Bool := withinB x.player 0 1 && (withinB x.id 1 500 && (withinB x.card 0 399 && withinB x.trig 0 1))
def pushV (b : Bd) (x : It) : Bd × Int := if (!validBd b || (!fineP x || decide ((x.tgs.length : Int) > 0))) = true then (zBd, 2) else if decide ((b.stack.length : Int) ≥ 200) = true then (zBd, 7) else ({ b with stack := b.stack ++ [x] }, 0)
theorem c_Push {H : Heap} {v : BV12} {b : Bd} (h : BdS H v b) (hB : bdB b) (x : It) {s : Value} (hs : Sl H 2 s (tRows x.tgs)) :
  Triple PP F_stack_Push [.agg (boardC v b).toArray, .agg #[iV x.player, iV x.id, iV x.card, iV x.trig, s]] H [] fun r _ O' => ∃ w, r = .tuple #[.agg (boardC w (pushV b x).1).toArray, iV (pushV b x).2] ∧ OwnB tys w (pushV b x).1 O' := by
 by_cases hv : validBd b = true
 case neg =>
  have hv : validBd b = false := by simpa using hv
  have e : pushV b x = (zBd, 2) := by simp [pushV, hv]
  rw [e]
  refine (push_bad h hv x.player x.id x.card x.trig hs).mono ?_
  rintro r H' O' _ ⟨rfl, rfl⟩
  exact ⟨nilV, rfl, OwnB.zero tys⟩
 refine run_stack_Push (vs := boardC v b ++ [iV x.player, iV x.id, iV x.card, iV x.trig, s]) (by kernel_rfl) (ones_app (boardC_ones (h.r [])) ⟨rfl, rfl, rfl, rfl, hs.one, trivial⟩) ?_
 simp only [T_stack_Push]
 have slen : evalPure .len [s] = some (iV x.tgs.length) := by have := hs.len; rwa [tRows_len] at this
 have klen : evalPure .len [v.s] = some (iV b.stack.length) := ItsR.len (h.stack.r [])
 refine newbox_den fun r0 => newbox_den fun r1 => newbox_den fun r2 => ?_
 repeat (first | refine chkN_den ?_ | refine chkV_den ?_ | refine chkP_den rfl ?_)
 refine call_retO (c_Push_1 x.player 0 1 _ _) rfl ⟨rfl, trivial⟩ fun H1 l1 => br_den (fun w1 => ?_) (fun w1 => ?_)
 rotate_left
 ·skip
  have w1 : withinB x.player 0 1 = false := w1
  have e : pushV b x = (zBd, 2) := by simp [pushV, fineP, w1]
  repeat (first | refine chkN_den ?_ | refine chkV_den ?_ | refine chkP_den rfl ?_)
  refine call_retO (c_board_Valid ((h.le l1).r [])) rfl ⟨rfl, trivial⟩ fun H5 l5 => ?_
  rw [hv]
  repeat (first | refine chkN_den ?_ | refine chkV_den ?_ | refine newbox_den fun _ => ?_ | refine pure_den _ (lss_eq _ _) ?_ | refine pure_den _ (gtr_eq _ _) ?_ | refine pure_den _ (leq_eq _ _) ?_ | refine pure_den _ (geq_eq _ _) ?_ | refine pure_den _ (eql_eq _ _) ?_ | refine pure_den _ (neq_eq _ _) ?_ | refine pure_den _ (pick_and _ _) ?_ | refine pure_den _ (pick_or _ _) ?_ | refine pure_den _ (not_eq' _) ?_ | refine pure_den _ (beql_eq _ _) ?_ | refine pure_den _ (bneq_eq _ _) ?_)
  refine pure_den _ slen ?_
  repeat (first | refine chkN_den ?_ | refine chkV_den ?_ | refine newbox_den fun _ => ?_ | refine pure_den _ (lss_eq _ _) ?_ | refine pure_den _ (gtr_eq _ _) ?_ | refine pure_den _ (leq_eq _ _) ?_ | refine pure_den _ (geq_eq _ _) ?_ | refine pure_den _ (eql_eq _ _) ?_ | refine pure_den _ (neq_eq _ _) ?_ | refine pure_den _ (pick_and _ _) ?_ | refine pure_den _ (pick_or _ _) ?_ | refine pure_den _ (not_eq' _) ?_ | refine pure_den _ (beql_eq _ _) ?_ | refine pure_den _ (bneq_eq _ _) ?_)
  refine br_den (fun _ => ?_) (fun hd => by cases hd)
  repeat (first | refine chkN_den ?_ | refine chkV_den ?_ | refine chkP_den rfl ?_)
  exact ret_denO ⟨nilV, by rw [e]; rfl, by rw [e]; exact OwnB.zero tys⟩
 repeat (first | refine chkN_den ?_ | refine chkV_den ?_ | refine chkP_den rfl ?_)
 refine call_retO (c_Push_1 x.id 1 500 _ _) rfl ⟨rfl, trivial⟩ fun H2 l2 => br_den (fun w2 => ?_) (fun w2 => ?_)
 rotate_left
 ·skip
  have w2 : withinB x.id 1 500 = false := w2
  have e : pushV b x = (zBd, 2) := by simp [pushV, fineP, w2]
  repeat (first | refine chkN_den ?_ | refine chkV_den ?_ | refine chkP_den rfl ?_)
  refine call_retO (c_board_Valid ((h.le (Heap.le_trans l1 l2)).r [])) rfl ⟨rfl, trivial⟩ fun H5 l5 => ?_
  rw [hv]
  repeat (first | refine chkN_den ?_ | refine chkV_den ?_ | refine newbox_den fun _ => ?_ | refine pure_den _ (lss_eq _ _) ?_ | refine pure_den _ (gtr_eq _ _) ?_ | refine pure_den _ (leq_eq _ _) ?_ | refine pure_den _ (geq_eq _ _) ?_ | refine pure_den _ (eql_eq _ _) ?_ | refine pure_den _ (neq_eq _ _) ?_ | refine pure_den _ (pick_and _ _) ?_ | refine pure_den _ (pick_or _ _) ?_ | refine pure_den _ (not_eq' _) ?_ | refine pure_den _ (beql_eq _ _) ?_ | refine pure_den _ (bneq_eq _ _) ?_)
  refine pure_den _ slen ?_
  repeat (first | refine chkN_den ?_ | refine chkV_den ?_ | refine newbox_den fun _ => ?_ | refine pure_den _ (lss_eq _ _) ?_ | refine pure_den _ (gtr_eq _ _) ?_ | refine pure_den _ (leq_eq _ _) ?_ | refine pure_den _ (geq_eq _ _) ?_ | refine pure_den _ (eql_eq _ _) ?_ | refine pure_den _ (neq_eq _ _) ?_ | refine pure_den _ (pick_and _ _) ?_ | refine pure_den _ (pick_or _ _) ?_ | refine pure_den _ (not_eq' _) ?_ | refine pure_den _ (beql_eq _ _) ?_ | refine pure_den _ (bneq_eq _ _) ?_)
  refine br_den (fun _ => ?_) (fun hd => by cases hd)
  repeat (first | refine chkN_den ?_ | refine chkV_den ?_ | refine chkP_den rfl ?_)
  exact ret_denO ⟨nilV, by rw [e]; rfl, by rw [e]; exact OwnB.zero tys⟩
 repeat (first | refine chkN_den ?_ | refine chkV_den ?_ | refine chkP_den rfl ?_)
 refine call_retO (c_Push_1 x.card 0 399 _ _) rfl ⟨rfl, trivial⟩ fun H3 l3 => br_den (fun w3 => ?_) (fun w3 => ?_)
 rotate_left
 ·skip
  have w3 : withinB x.card 0 399 = false := w3
  have e : pushV b x = (zBd, 2) := by simp [pushV, fineP, w3]
  repeat (first | refine chkN_den ?_ | refine chkV_den ?_ | refine chkP_den rfl ?_)
  refine call_retO (c_board_Valid ((h.le (Heap.le_trans l1 (Heap.le_trans l2 l3))).r [])) rfl ⟨rfl, trivial⟩ fun H5 l5 => ?_
  rw [hv]
  repeat (first | refine chkN_den ?_ | refine chkV_den ?_ | refine newbox_den fun _ => ?_ | refine pure_den _ (lss_eq _ _) ?_ | refine pure_den _ (gtr_eq _ _) ?_ | refine pure_den _ (leq_eq _ _) ?_ | refine pure_den _ (geq_eq _ _) ?_ | refine pure_den _ (eql_eq _ _) ?_ | refine pure_den _ (neq_eq _ _) ?_ | refine pure_den _ (pick_and _ _) ?_ | refine pure_den _ (pick_or _ _) ?_ | refine pure_den _ (not_eq' _) ?_ | refine pure_den _ (beql_eq _ _) ?_ | refine pure_den _ (bneq_eq _ _) ?_)
  refine pure_den _ slen ?_
  repeat (first | refine chkN_den ?_ | refine chkV_den ?_ | refine newbox_den fun _ => ?_ | refine pure_den _ (lss_eq _ _) ?_ | refine pure_den _ (gtr_eq _ _) ?_ | refine pure_den _ (leq_eq _ _) ?_ | refine pure_den _ (geq_eq _ _) ?_ | refine pure_den _ (eql_eq _ _) ?_ | refine pure_den _ (neq_eq _ _) ?_ | refine pure_den _ (pick_and _ _) ?_ | refine pure_den _ (pick_or _ _) ?_ | refine pure_den _ (not_eq' _) ?_ | refine pure_den _ (beql_eq _ _) ?_ | refine pure_den _ (bneq_eq _ _) ?_)
  refine br_den (fun _ => ?_) (fun hd => by cases hd)
  repeat (first | refine chkN_den ?_ | refine chkV_den ?_ | refine chkP_den rfl ?_)
  exact ret_denO ⟨nilV, by rw [e]; rfl, by rw [e]; exact OwnB.zero tys⟩
 repeat (first | refine chkN_den ?_ | refine chkV_den ?_ | refine chkP_den rfl ?_)
 refine call_retO (c_Push_1 x.trig 0 1 _ _) rfl ⟨rfl, trivial⟩ fun H4 l4 => ?_
 have l14 := Heap.le_trans l1 (Heap.le_trans l2 (Heap.le_trans l3 l4))
 repeat (first | refine chkN_den ?_ | refine chkV_den ?_ | refine chkP_den rfl ?_)
 refine call_retO (c_board_Valid ((h.le l14).r [])) rfl ⟨rfl, trivial⟩ fun H5 l5 => ?_
 have h := h.le (Heap.le_trans l14 l5)
 have hs := hs.le (Heap.le_trans l14 l5)
 rw [hv]
 repeat (first | refine chkN_den ?_ | refine chkV_den ?_ | refine chkP_den rfl ?_)
 refine pure_den _ (not_eq' _) ?_
 repeat (first | refine chkN_den ?_ | refine chkV_den ?_ | refine chkP_den rfl ?_)
 refine pure_den _ (not_eq' _) ?_
 repeat (first | refine chkN_den ?_ | refine chkV_den ?_ | refine chkP_den rfl ?_)
 refine pure_den _ (pick_or _ _) ?_
 repeat (first | refine chkN_den ?_ | refine chkV_den ?_ | refine chkP_den rfl ?_)
 refine pure_den _ slen ?_
 repeat (first | refine chkN_den ?_ | refine chkV_den ?_ | refine chkP_den rfl ?_)
 refine pure_den _ (gtr_eq _ _) ?_
 repeat (first | refine chkN_den ?_ | refine chkV_den ?_ | refine chkP_den rfl ?_)
 refine pure_den _ (pick_or _ _) (br_den (fun hb => ?_) (fun hb => ?_))
 ·have hb : ((!true || !withinB x.trig 0 1) || decide ((x.tgs.length : Int) > 0)) = true := hb
  have e : pushV b x = (zBd, 2) := by
   refine if_pos ?_
   have w1 : withinB x.player 0 1 = true := w1
   have w2 : withinB x.id 1 500 = true := w2
   have w3 : withinB x.card 0 399 = true := w3
   simp only [fineP, w1, w2, w3, hv, Bool.true_and, Bool.not_true, Bool.false_or] at hb ⊢
   exact hb
  repeat (first | refine chkN_den ?_ | refine chkV_den ?_ | refine chkP_den rfl ?_)
  exact ret_denO ⟨nilV, by rw [e]; rfl, by rw [e]; exact OwnB.zero tys⟩
 have hb : ((!true || !withinB x.trig 0 1) || decide ((x.tgs.length : Int) > 0)) = false := hb
 have hcond : ¬ ((!validBd b || (!fineP x || decide ((x.tgs.length : Int) > 0))) = true) := by
  have w1 : withinB x.player 0 1 = true := w1
  have w2 : withinB x.id 1 500 = true := w2
  have w3 : withinB x.card 0 399 = true := w3
  simp only [fineP, w1, w2, w3, hv, Bool.true_and, Bool.not_true, Bool.false_or] at hb ⊢
  rw [hb]; simp
 have ht0 : x.tgs = [] := by
  simp only [Bool.or_eq_false_iff, decide_eq_false_iff_not] at hb
  exact List.length_eq_zero_iff.1 (by omega)
 repeat (first | refine chkN_den ?_ | refine chkV_den ?_ | refine chkP_den rfl ?_)
 refine pure_den _ klen ?_
 repeat (first | refine chkN_den ?_ | refine chkV_den ?_ | refine chkP_den rfl ?_)
 refine pure_den _ (geq_eq _ _) (br_den (fun hb => ?_) (fun hb2 => ?_))
 ·have e : pushV b x = (zBd, 7) := by rw [pushV, if_neg hcond, if_pos hb]
  repeat (first | refine chkN_den ?_ | refine chkV_den ?_ | refine chkP_den rfl ?_)
  exact ret_denO ⟨nilV, by rw [e]; rfl, by rw [e]; exact OwnB.zero tys⟩
 have e : pushV b x = ({ b with stack := b.stack ++ [x] }, 0) := by rw [pushV, if_neg hcond, if_neg (by rw [show decide ((b.stack.length : Int) ≥ 200) = false from hb2]; simp)]
 have hl200 : b.stack.length < 200 := by have := of_decide_eq_false hb2; omega
 rw [e]
 repeat (first | refine chkN_den ?_ | refine chkV_den ?_ | refine chkP_den rfl ?_)
 refine call_new (c_Copy h hB) ?_
 rintro _ H6 O6 ⟨w, rfl, ho⟩ l6
 refine ⟨boardC w b, rfl, ownB_ones H6 ho, ?_⟩
 rw [List.append_nil]
 repeat (first | refine chkN_den ?_ | refine chkV_den ?_ | refine chkP_den rfl ?_)
 refine newbox_den fun r3 => ?_
 repeat (first | refine chkN_den ?_ | refine chkV_den ?_ | refine chkP_den rfl ?_)
 refine newbox_den fun r4 => ?_
 repeat (first | refine chkN_den ?_ | refine chkV_den ?_ | refine chkP_den rfl ?_)
 obtain ⟨A2, R2, hp2, hA2, back2⟩ := OwnB.pick_stack ho
 obtain ⟨rows, A3, T3, hp3, hA3, hl3, back3⟩ := oits_push hA2
 have hs6 := hs.le l6
 refine call_append (rows := rows) (news := [[iV x.player, iV x.id, iV x.card, iV x.trig, s]]) (O1 := A3) (O2 := T3 ++ R2) (e := Ty_api_Item) (size := 5) (bytes := 56) (by kernel_rfl) (hp2.trans ((hp3.append_right R2).trans (List.Perm.of_eq (List.append_assoc _ _ _)))) hA3 (fun Hf _ hf => Sl.block1 (hf _ List.mem_cons_self) rfl ⟨rfl, rfl, rfl, rfl, hs.one, trivial⟩) (by rw [hl3, List.length_singleton]; omega) (by rw [hl3, List.length_singleton]; omega) ?_
 intro v2 A4 H8 l8 hA4
 have hE : OSlE Ty_api_Target 2 s (x.tgs.map Tg.row) [] := by
  rw [ht0] at hs6 ⊢
  exact OSlE.empty hs6
 have hfin := back2 _ _ _ (back3 v2 A4 x s hA4 hE)
 rw [List.append_assoc] at hfin
 repeat (first | refine chkN_den ?_ | refine chkV_den ?_ | refine chkP_den rfl ?_)
 exact ret_denO ⟨_, rfl, hfin⟩
theorem idxI_at : ∀ {l : List Int} {x i : Int}, 0 ≤ i → 0 ≤ idxI l x i → ∃ j : Nat, idxI l x i = i + j ∧ l[j]? = some x
 | [], x, i, _, h => by simp [idxI] at h
 | a :: l, x, i, h0, h => by
  simp only [idxI] at h ⊢
  by_cases hx : x = a
  ·subst hx; exact ⟨0, by simp, rfl⟩
  ·have hb : (x == a) = false := by simpa using hx
   rw [hb] at h ⊢
   simp only [Bool.false_eq_true, if_false] at h ⊢
   obtain ⟨j, h1, h2⟩ := idxI_at (by omega) h
   exact ⟨j + 1, by rw [h1]; omega, h2⟩
theorem spotL_at {id : Int} : ∀ {l : List (Int × Int × List Int)} {s : Int × Int × Int}, spotL id l = some s → ∃ x ∈ l, s.1 = x.1 ∧ s.2.1 = x.2.1 ∧ ∃ j : Nat, s.2.2 = j ∧ x.2.2[j]? = some id
 | [], _, h => by simp [spotL] at h
 | a :: l, s, h => by
  simp only [spotL] at h
  split at h
  ·rename_i hi
   obtain ⟨j, h1, h2⟩ := idxI_at (by omega) hi
   rw [← Option.some.inj h]
   exact ⟨a, by simp, rfl, rfl, j, by show idxI a.2.2 id 0 = _; rw [h1]; omega, h2⟩
  ·obtain ⟨x, hx, hm⟩ := spotL_at h
   exact ⟨x, by simp [hx], hm⟩
/-- An object that is in a hand. -/
theorem cast_spot {b : Bd} {id : Int} (hb : (indexE b id != 0) = false) (hz : (whereP b id).2.1 = 1) {k : Nat} {o : Ob} (e1 : b.objs[k]? = some o) (e2 : o.id = id) : ∃ j : Nat, (whereP b id).2.2 = j ∧ (seatOf b o.owner).hand[j]? = some id := by
 obtain ⟨hval, _⟩ := indexE_ok hb
 have hpl := (valid_parts hval).1
 have own : ∀ {p : Int}, (id, p) ∈ pairsB b → p = o.owner := by
  intro p hm
  obtain ⟨k', o', a1, a2, a3⟩ := id_obj hpl hm
  have i1 := (obj_known hpl e1).2.2.1
  have i2 := (obj_known hpl a1).2.2.1
  rw [a2] at i2
  rw [e2] at i1
  have : k = k' := by omega
  subst this
  rw [e1] at a1
  rw [← Option.some.inj a1] at a3
  exact a3.symm
 rw [whereP, if_neg (by rw [hb]; simp)] at hz ⊢
 obtain ⟨s, hs⟩ := spot_there hval e1
 rw [e2] at hs
 rw [hs] at hz ⊢
 simp only [spotV, Option.getD_some] at hz ⊢
 unfold spotG at hs
 split at hs
 ·rename_i s' hL
  rw [Option.some.inj hs] at hL
  obtain ⟨x, hx, x1, x2, j, x3, x4⟩ := spotL_at hL
  refine ⟨j, x3, ?_⟩
  rw [hz] at x2
  simp only [zonesL, List.mem_cons, List.not_mem_nil, or_false] at hx
  rcases hx with rfl | rfl | rfl | rfl | rfl | rfl | rfl | rfl
  ·simp at x2
  ·have hm : (id, (0 : Int)) ∈ pairsB b := by
    simp only [pairsB, pairsS, List.map_append, List.mem_append, List.mem_map, Prod.mk.injEq]
    exact .inl (.inr (.inl ⟨id, List.mem_of_getElem? x4, rfl, trivial⟩))
   rw [← own hm]; exact x4
  ·simp at x2
  ·simp at x2
  ·simp at x2
  ·have hm : (id, (1 : Int)) ∈ pairsB b := by
    simp only [pairsB, pairsS, List.map_append, List.mem_append, List.mem_map, Prod.mk.injEq]
    exact .inr (.inl (.inr (.inl ⟨id, List.mem_of_getElem? x4, rfl, trivial⟩)))
   rw [← own hm]; exact x4
  ·simp at x2
  ·simp at x2
 ·split at hs
  ·rw [← Option.some.inj hs] at hz
   simp at hz
  ·cases hs
def castB (b : Bd) (k j : Nat) (o : Ob) : Bd := { setOb (withSeat b o.owner { seatOf b o.owner with hand := (seatOf b o.owner).hand.eraseIdx j }) k (resetO o 4) with stack := b.stack ++ [⟨o.owner, o.id, o.card, -1, []⟩] }
def castV (b : Bd) (id : Int) : Bd × Int := if (indexE b id != 0) = true then (zBd, indexE b id) else if ((whereP b id).2.1 != 1 || decide ((findO b id).card < 0)) = true then (zBd, 8) else
 if decide ((b.stack.length : Int) ≥ 200) = true then (zBd, 7) else (castB b (idxO b id).toNat (whereP b id).2.2.toNat (findO b id), 0)
theorem c_Cast {H : Heap} {v : BV12} {b : Bd} (h : BdS H v b) (hB : bdB b) {id : Int} (hid : i64 id) : Triple PP F_stack_Cast [.agg (boardC v b).toArray, iV id] H [] fun r _ O' => ∃ w, r = .tuple #[.agg (boardC w (castV b id).1).toArray, iV (castV b id).2] ∧ OwnB tys w (castV b id).1 O' := by
 refine run_stack_Cast (vs := boardC v b ++ [iV id]) (by kernel_rfl) (ones_app (boardC_ones (h.r [])) ⟨rfl, trivial⟩) ?_
 simp only [T_stack_Cast]
 refine newbox_den fun r0 => newbox_den fun r1 => ?_
 repeat (first | refine chkN_den ?_ | refine chkV_den ?_ | refine chkP_den rfl ?_)
 refine call_retO (c_board_Where h hid []) rfl (vs := spotRow (whereP b id) ++ [iV (indexE b id)]) ⟨rfl, rfl, rfl, rfl, trivial⟩ fun H1 l1 => newbox_den fun r2 => ?_
 repeat (first | refine chkN_den ?_ | refine chkV_den ?_ | refine chkP_den rfl ?_)
 refine pure_den _ (neq_eq _ _) (br_den (fun hb => ?_) (fun hb => ?_))
 ·have e : castV b id = (zBd, indexE b id) := by rw [castV, if_pos hb]
  repeat (first | refine chkN_den ?_ | refine chkV_den ?_ | refine chkP_den rfl ?_)
  exact ret_denO ⟨nilV, by rw [e]; rfl, by rw [e]; exact OwnB.zero tys⟩
 have hb : (indexE b id != 0) = false := hb
 replace h := h.le l1
 obtain ⟨hval, k, o, e1, e2, e3, e4⟩ := indexE_ok hb
 have hfo := findO_eq hb e1 e3
 have hown := (obj_known (valid_parts hval).1 e1).2.2.2
 repeat (first | refine chkN_den ?_ | refine chkV_den ?_ | refine chkP_den rfl ?_)
 refine call_retO (c_Find (h.r []) hid) rfl (vs := (findO b id).row ++ [iV (indexE b id)]) (ones_app (ob_ones _) ⟨rfl, trivial⟩) fun H2 l2 => newbox_den fun r3 => ?_
 replace h := h.le l2
 have klen : evalPure .len [v.s] = some (iV b.stack.length) := ItsR.len (h.stack.r [])
 rw [hfo]
 repeat (first | refine chkN_den ?_ | refine chkV_den ?_ | refine chkP_den rfl ?_)
 refine pure_den _ (neq_eq _ _) ?_
 repeat (first | refine chkN_den ?_ | refine chkV_den ?_ | refine chkP_den rfl ?_)
 refine pure_den _ (lss_eq _ _) ?_
 repeat (first | refine chkN_den ?_ | refine chkV_den ?_ | refine chkP_den rfl ?_)
 refine pure_den _ (pick_or _ _) (br_den (fun hc => ?_) (fun hc => ?_))
 ·have e : castV b id = (zBd, 8) := by rw [castV, if_neg (by rw [hb]; simp), hfo, if_pos hc]
  repeat (first | refine chkN_den ?_ | refine chkV_den ?_ | refine chkP_den rfl ?_)
  exact ret_denO ⟨nilV, by rw [e]; rfl, by rw [e]; exact OwnB.zero tys⟩
 have hc : ((whereP b id).2.1 != 1 || decide (o.card < 0)) = false := hc
 have hz1 : (whereP b id).2.1 = 1 := by
  simp only [Bool.or_eq_false_iff] at hc
  simpa using hc.1
 obtain ⟨j, hj1, hj⟩ := cast_spot hb hz1 e1 e2
 repeat (first | refine chkN_den ?_ | refine chkV_den ?_ | refine chkP_den rfl ?_)
 refine pure_den _ klen ?_
 repeat (first | refine chkN_den ?_ | refine chkV_den ?_ | refine chkP_den rfl ?_)
 refine pure_den _ (geq_eq _ _) (br_den (fun hd => ?_) (fun hd => ?_))
 ·have e : castV b id = (zBd, 7) := by rw [castV, if_neg (by rw [hb]; simp), hfo, if_neg (by rw [hc]; simp), if_pos hd]
  repeat (first | refine chkN_den ?_ | refine chkV_den ?_ | refine chkP_den rfl ?_)
  exact ret_denO ⟨nilV, by rw [e]; rfl, by rw [e]; exact OwnB.zero tys⟩
 have e : castV b id = (castB b k j o, 0) := by
  rw [castV, if_neg (by rw [hb]; simp), hfo, if_neg (by rw [hc]; simp), if_neg (by rw [show decide ((b.stack.length : Int) ≥ 200) = false from hd]; simp), e3, hj1]
  rfl
 have hl200 : b.stack.length < 200 := by have := of_decide_eq_false hd; omega
 have el : g (spotRow (whereP b id) ++ [iV (indexE b id)]) 2 = iV j := by rw [← hj1]; rfl
 rw [e]
 repeat (first | refine chkN_den ?_ | refine chkV_den ?_ | refine chkP_den rfl ?_)
 refine call_new (c_Copy h hB) ?_
 rintro _ H3 O3 ⟨w, rfl, ho⟩ l3
 refine ⟨boardC w b, rfl, ownB_ones H3 ho, ?_⟩
 rw [List.append_nil]
 repeat (first | refine chkN_den ?_ | refine chkV_den ?_ | refine chkP_den rfl ?_)
 refine newbox_den fun r4 => ?_
 repeat (first | refine chkN_den ?_ | refine chkV_den ?_ | refine chkP_den rfl ?_)
 rw [el]
 rcases hown with hown | hown
 ·rw [hown] at hj
  have hj : b.s0.hand[j]? = some id := hj
  refine ⟨.i64, o.owner, rfl, fun _ => ?_, fun e => absurd hown e⟩
  repeat (first | refine chkN_den ?_ | refine chkV_den ?_ | refine chkP_den rfl ?_)
  obtain ⟨A, R, hp, hA, back⟩ := OwnB.pick_h0 ho
  have hjl : j < (ints b.s0.hand).length := by rw [ints, List.length_map]; exact (List.getElem?_eq_some_iff.1 hj).1
  have hB63 := hA.lenB
  refine pure_den _ (add_one (by omega)) ?_
  repeat (first | refine chkN_den ?_ | refine chkV_den ?_ | refine chkP_den rfl ?_)
  refine call_part (O1 := A) (O2 := R) (by simpa using hp) (c_DeleteR_int hA hjl) ?_
  intro v' H5 A' hA' l5
  refine ⟨[v'], rfl, ⟨hA'.one, trivial⟩, ?_⟩
  have hA2 : OSl Ty_int 1 v' (ints (b.s0.hand.eraseIdx j)) A' := by rw [ints, ← eraseIdx_map]; exact hA'
  have ho := back _ _ _ hA2
  repeat (first | refine chkN_den ?_ | refine chkV_den ?_ | refine chkP_den rfl ?_)
  refine call_givesO (c_BinarySearchS (l := b.objs) (ho.r (fun _ h => h) H5).objs hid (valid_ids hval).1 (valid_ids hval).2 (valid_len hval)) ?_
  rintro _ H6 ⟨i, f, rfl, f1, f2⟩ l6
  refine ⟨[iV i, .bool f], rfl, ⟨rfl, rfl, trivial⟩, ?_⟩
  have hi : i = k := by
   cases f with
   | false => exact absurd e2 (f2 rfl o (List.mem_of_getElem? e1))
   | true =>
    obtain ⟨o', q1, q2⟩ := f1 rfl
    have n1 := idxO_at (ordP_spec (valid_ids hval).2).2 q1
    rw [q2, e3] at n1
    omega
  subst hi
  repeat (first | refine chkN_den ?_ | refine chkV_den ?_ | refine chkP_den rfl ?_)
  refine call_retO (c_Reset o 4 H6 _) rfl (vs := (resetO o 4).row) (ob_ones _) fun H7 l7 => ?_
  obtain ⟨a', q1, O1, q2, O2, q3, q4⟩ := OwnB.store_ob ho (X := []) (O' := A' ++ R) (by simp) e1 (resetO o 4)
  rw [List.append_nil] at q3
  repeat (first | refine chkN_den ?_ | refine chkV_den ?_ | refine chkP_den rfl ?_)
  refine pure_den _ q1 ?_
  repeat (first | refine chkN_den ?_ | refine chkV_den ?_ | refine chkP_den rfl ?_)
  refine ⟨_, q2, ?_⟩
  have ho := OwnB.perm q4 q3
  repeat (first | refine chkN_den ?_ | refine chkV_den ?_ | refine chkP_den rfl ?_)
  refine newbox_den fun r5 => ?_
  repeat (first | refine chkN_den ?_ | refine chkV_den ?_ | refine chkP_den rfl ?_)
  obtain ⟨A2, R2, hp2, hA2, back2⟩ := OwnB.pick_stack ho
  obtain ⟨rows, A3, T3, hp3, hA3, hl3, back3⟩ := oits_push hA2
  have hl3' : rows.length = b.stack.length := hl3
  refine call_append (rows := rows) (news := [[iV o.owner, iV id, iV o.card, iV (-1), .slice none 0 0]]) (O1 := A3) (O2 := T3 ++ R2) (e := Ty_api_Item) (size := 5) (bytes := 56) (by kernel_rfl) (hp2.trans ((hp3.append_right R2).trans (List.Perm.of_eq (List.append_assoc _ _ _)))) hA3 (fun Hf _ hf => Sl.block1 (hf _ List.mem_cons_self) rfl ⟨rfl, rfl, rfl, rfl, rfl, trivial⟩) (by rw [hl3', List.length_singleton]; omega) (by rw [hl3', List.length_singleton]; omega) ?_
  intro v2 A4 H8 l8 hA4
  have hfin := back2 _ _ _ (back3 v2 A4 ⟨o.owner, id, o.card, -1, []⟩ (.slice none 0 0) hA4 (.inl (OSl.nil _ _)))
  repeat (first | refine chkN_den ?_ | refine chkV_den ?_ | refine chkP_den rfl ?_)
  rw [List.append_assoc] at hfin
  have ec : castB b i j o = { setOb { b with s0 := { b.s0 with hand := b.s0.hand.eraseIdx j } } i (resetO o 4) with stack := b.stack ++ [⟨o.owner, id, o.card, -1, []⟩] } := by
   simp [castB, withSeat, seatOf, hown, e2, setOb]
  rw [ec]
  exact ret_denO ⟨_, rfl, hfin⟩
 ·rw [hown] at hj
  have hj : b.s1.hand[j]? = some id := hj
  refine ⟨.i64, o.owner, rfl, fun e => absurd e (by omega), fun _ => ⟨.i64, o.owner, rfl, fun _ => ?_, fun e => absurd hown e⟩⟩
  repeat (first | refine chkN_den ?_ | refine chkV_den ?_ | refine chkP_den rfl ?_)
  obtain ⟨A, R, hp, hA, back⟩ := OwnB.pick_h1 ho
  have hjl : j < (ints b.s1.hand).length := by rw [ints, List.length_map]; exact (List.getElem?_eq_some_iff.1 hj).1
  have hB63 := hA.lenB
  refine pure_den _ (add_one (by omega)) ?_
  repeat (first | refine chkN_den ?_ | refine chkV_den ?_ | refine chkP_den rfl ?_)
  refine call_part (O1 := A) (O2 := R) (by simpa using hp) (c_DeleteR_int hA hjl) ?_
  intro v' H5 A' hA' l5
  refine ⟨[v'], rfl, ⟨hA'.one, trivial⟩, ?_⟩
  have hA2 : OSl Ty_int 1 v' (ints (b.s1.hand.eraseIdx j)) A' := by rw [ints, ← eraseIdx_map]; exact hA'
  have ho := back _ _ _ hA2
  repeat (first | refine chkN_den ?_ | refine chkV_den ?_ | refine chkP_den rfl ?_)
  refine call_givesO (c_BinarySearchS (l := b.objs) (ho.r (fun _ h => h) H5).objs hid (valid_ids hval).1 (valid_ids hval).2 (valid_len hval)) ?_
  rintro _ H6 ⟨i, f, rfl, f1, f2⟩ l6
  refine ⟨[iV i, .bool f], rfl, ⟨rfl, rfl, trivial⟩, ?_⟩
  have hi : i = k := by
   cases f with
   | false => exact absurd e2 (f2 rfl o (List.mem_of_getElem? e1))
   | true =>
    obtain ⟨o', q1, q2⟩ := f1 rfl
    have n1 := idxO_at (ordP_spec (valid_ids hval).2).2 q1
    rw [q2, e3] at n1
    omega
  subst hi
  repeat (first | refine chkN_den ?_ | refine chkV_den ?_ | refine chkP_den rfl ?_)
  refine call_retO (c_Reset o 4 H6 _) rfl (vs := (resetO o 4).row) (ob_ones _) fun H7 l7 => ?_
  obtain ⟨a', q1, O1, q2, O2, q3, q4⟩ := OwnB.store_ob ho (X := []) (O' := A' ++ R) (by simp) e1 (resetO o 4)
  rw [List.append_nil] at q3
  repeat (first | refine chkN_den ?_ | refine chkV_den ?_ | refine chkP_den rfl ?_)
  refine pure_den _ q1 ?_
  repeat (first | refine chkN_den ?_ | refine chkV_den ?_ | refine chkP_den rfl ?_)
  refine ⟨_, q2, ?_⟩
  have ho := OwnB.perm q4 q3
  repeat (first | refine chkN_den ?_ | refine chkV_den ?_ | refine chkP_den rfl ?_)
  refine newbox_den fun r5 => ?_
  repeat (first | refine chkN_den ?_ | refine chkV_den ?_ | refine chkP_den rfl ?_)
  obtain ⟨A2, R2, hp2, hA2, back2⟩ := OwnB.pick_stack ho
  obtain ⟨rows, A3, T3, hp3, hA3, hl3, back3⟩ := oits_push hA2
  have hl3' : rows.length = b.stack.length := hl3
  refine call_append (rows := rows) (news := [[iV o.owner, iV id, iV o.card, iV (-1), .slice none 0 0]]) (O1 := A3) (O2 := T3 ++ R2) (e := Ty_api_Item) (size := 5) (bytes := 56) (by kernel_rfl) (hp2.trans ((hp3.append_right R2).trans (List.Perm.of_eq (List.append_assoc _ _ _)))) hA3 (fun Hf _ hf => Sl.block1 (hf _ List.mem_cons_self) rfl ⟨rfl, rfl, rfl, rfl, rfl, trivial⟩) (by rw [hl3', List.length_singleton]; omega) (by rw [hl3', List.length_singleton]; omega) ?_
  intro v2 A4 H8 l8 hA4
  have hfin := back2 _ _ _ (back3 v2 A4 ⟨o.owner, id, o.card, -1, []⟩ (.slice none 0 0) hA4 (.inl (OSl.nil _ _)))
  repeat (first | refine chkN_den ?_ | refine chkV_den ?_ | refine chkP_den rfl ?_)
  rw [List.append_assoc] at hfin
  have ec : castB b i j o = { setOb { b with s1 := { b.s1 with hand := b.s1.hand.eraseIdx j } } i (resetO o 4) with stack := b.stack ++ [⟨o.owner, id, o.card, -1, []⟩] } := by
   simp [castB, withSeat, seatOf, hown, e2, setOb]
  rw [ec]
  exact ret_denO ⟨_, rfl, hfin⟩
end Go.Proofs.YtieaihgbjikggaaGreat
namespace Go.Proofs.YtieaihgbjikggaaGreat
open Go Go.Sx
set_option maxRecDepth 100000
set_option maxHeartbeats 1000000
theorem valid_mk {b c : Bd} (h : validBd b = true) (hpl : placedB validO c = true) (hf : fightsBd c = true) (h0 : seatOkB c.s0 = seatOkB b.s0) (h1 : seatOkB c.s1 = seatOkB b.s1)
  (e1 : c.active = b.active) (e2 : c.turn = b.turn) (e3 : c.phase = b.phase) (e4 : c.holder = b.holder) (e5 : c.passes = b.passes) (e7 : c.queue = b.queue) (e8 : c.objs.length = b.objs.length)
  (hs : c.stack.length ≤ 200) (hfine : ∀ x ∈ c.stack, fineB x false = true) : validBd c = true := by
 have hany : (c.stack.any fun x => !fineB x false) = false := by
  rw [List.any_eq_false]
  intro x hx
  rw [hfine x hx]; simp
 simp only [validBd, midBad, Bool.and_eq_true, Bool.not_eq_true', Bool.or_eq_false_iff, decide_eq_false_iff_not] at h ⊢
 obtain ⟨a1, a2, a3, a4, ⟨⟨⟨a5, a6⟩, a7⟩, a8⟩, a9, a10, a11, a12, a13⟩ := h
 rw [e1, e2, e3, e4, e5, e7, e8, h0, h1]
 exact ⟨a1, a2, a3, a4, ⟨⟨⟨a5, a6⟩, by omega⟩, a8⟩, a9, a10, hany, a12, hpl, hf⟩
theorem valid_fine {b : Bd} (h : validBd b = true) {x : It} (hx : x ∈ b.stack) : fineB x false = true := List.all_eq_true.1 (valid_parts h).2.2.2 x hx
theorem push_valid {b : Bd} (h : validBd b = true) {x : It} (hx : fineP x = true) (ht : x.tgs = []) (hl : b.stack.length < 200) : validBd { b with stack := b.stack ++ [x] } = true := by
 have hf := hx
 simp only [fineP, Bool.and_eq_true] at hf
 obtain ⟨f1, f2, f3, f4⟩ := hf
 have htr : 0 ≤ x.trig ∧ x.trig ≤ 1 := of_decide_eq_true f4
 have hc : cardsOn (b.stack ++ [x]) = cardsOn b.stack := by
  rw [cardsOn, List.filter_append, List.filter_cons, if_neg (by simp; omega)]
  simp [cardsOn]
 have e1 : owned (b.stack ++ [x]) = owned b.stack := by rw [owned, hc, owned]
 have e2 : carded (b.stack ++ [x]) = carded b.stack := by rw [carded, hc, carded]
 refine valid_mk h (placed_perm (valid_parts h).1 (by simp only [pairsB]; rw [e1]) rfl e2) (valid_parts h).2.1 rfl rfl rfl rfl rfl rfl rfl rfl rfl (by simp; omega) fun y hy => ?_
 rcases List.mem_append.1 hy with hy | hy
 ·exact valid_fine h hy
 ·rw [List.mem_singleton.1 hy]
  have f5 : withinB x.trig (-1) 1 = true := by simp only [withinB, decide_eq_true_eq]; omega
  simp [fineB, f1, f2, f3, f5, ht]
end Go.Proofs.YtieaihgbjikggaaGreat
namespace Go.Proofs.YtieaihgbjikggaaGreat
open Go Go.Sx
set_option maxRecDepth 100000
set_option maxHeartbeats 1000000
theorem r_New {H : Heap} {va vc : Value} (life : Int) {a c : List Int} (ha : Sl H 1 va (ints a)) (hc : Sl H 1 vc (ints c)) (hla : a.length ≤ 1000) (hlc : c.length ≤ 1000) :
  Triple PP F_zeitnotref15_New [iV life, .agg #[va, vc]] H [] (NewQ life a c) := by
 refine run_zeitnotref15_New (vs := [iV life, va, vc]) (by kernel_rfl) ⟨rfl, ha.one, hc.one, trivial⟩ ?_
 simp only [T_zeitnotref15_New]
 have la := ha.len
 have lc := hc.len
 rw [ints, List.length_map] at la lc
 refine newbox_den fun r0 => newbox_den fun r1 => newbox_den fun r2 => ?_
 repeat (first | refine chkN_den ?_ | refine chkV_den ?_ | refine pure_den _ la ?_ | refine pure_den _ lc ?_ | refine pure_den _ (add_nat (by omega)) ?_ | refine pure_den _ (gtr_eq _ _) ?_ | refine pure_den _ (lss_eq _ _) ?_ | refine pure_den _ (pick_or _ _) ?_)
 refine br_den (fun hb => chkN_den (chkN_den (ret_denO (new_bad ?_ H)))) (fun hb => ?_)
 ·unfold newOk
  simp only [Bool.or_eq_true, decide_eq_true_eq] at hb
  rcases hb with hb | hb
  ·have : ¬ (1 ≤ life ∧ life ≤ 9999) := by omega
   simp only [this, decide_false, Bool.false_and]
  ·have : ¬ (a.length + c.length ≤ 500) := by omega
   simp only [this, decide_false, Bool.and_false, Bool.false_and]
 simp only [Bool.or_eq_false_iff, decide_eq_true_eq, decide_eq_false_iff_not] at hb
 have hlife : 1 ≤ life ∧ life ≤ 9999 := by omega
 have hsum : a.length + c.length ≤ 500 := by omega
 refine chkN_den ?_
 refine countX_den a.length (fun i xs H' O' => ∃ o l O1 O2, xs = [o, l, nilS] ∧ O'.Perm (O1 ++ O2) ∧ Heap.le H H' ∧ OSl Ty_api_Object 12 o (((deckOb 0 a 0).take i).map Ob.row) O1 ∧ OSl Ty_int 1 l (ints (((deckOb 0 a 0).take i).map (·.id))) O2 ∧ ∀ x ∈ a.take i, 0 ≤ x ∧ x ≤ 399)
  ⟨nilS, nilS, [], [], rfl, List.Perm.refl _, Heap.le_refl _, OSl.nil _ _, OSl.nil _ _, by simp⟩ ?_
 rintro i xs H2 O2' hi - - - ⟨o, l, O1, O2, rfl, hO, l2, ho, hl, hall⟩
 refine chkN_den (pure_den _ la (pure_den _ (lss_eq _ _) (br_den (fun hb => ?_) (fun hb => ?_))))
 ·have hlt : i < a.length := by simpa using hb
  obtain ⟨p, h1, h2, h3, h4⟩ := (ha.le l2).idx (k := .i64) (i := i) (r := [iV a[i]]) (by simp [ints, hlt])
  refine chkN_den (pure_den _ h1 (load_den h2 h3 h4 (pure_den _ (lss_eq _ _) (chkV_den (chkN_den (chkV_den (chkV_den (chkV_den (pure_denG h1 rfl (chkV_den (load_denG h2 h3 h4 (chkV_den (pure_den _ (gtr_eq _ _) (chkV_den (pure_den _ (pick_or _ _) (br_den (fun hb => chkN_den (chkN_den (ret_drop (new_bad ?_ H2)))) (fun hb => ?_)))))))))))))))))
  ·refine newOk_bad (i := i) (by simp; omega) ?_
   rw [List.getElem_append_left hlt]
   rintro ⟨q1, q2⟩
   simp at hb
   omega
  ·have hin : 0 ≤ a[i] ∧ a[i] ≤ 399 := by simp at hb; omega
   have lno := ho.len
   rw [List.length_map, List.length_take, deck_len, Nat.min_eq_left (by omega)] at lno
   refine chkN_den (pure_den _ lno (pure_den _ (add_one (by omega)) (chkN_den (chkN_den (pure_den _ h1 (load_den h2 h3 h4 (newbox_den fun r3 => ?_)))))))
   refine call_append (rows := ((deckOb 0 a 0).take i).map Ob.row) (news := [(newOb ((i + 1 : Nat) : Int) a[i] 0).row]) (O1 := O1) (O2 := O2) (e := Ty_api_Object) (size := 12) (bytes := 80) (by kernel_rfl) hO ho
    (fun Hf _ hf => Sl.block1 (hf _ List.mem_cons_self) rfl (by simp [newOb, Ob.row, Ones, Value.oneCell'])) ?_ ?_ ?_
   ·simp [deck_len]; omega
   ·simp [deck_len]; omega
   intro o' O1' H5 l5 ho'
   refine chkN_den (chkN_den (newbox_den fun r4 => ?_))
   refine call_append (rows := ints (((deckOb 0 a 0).take i).map (·.id))) (news := [[iV ((i + 1 : Nat) : Int)]]) (O1 := O2) (O2 := O1') (e := Ty_int) (size := 1) (bytes := 8) (by kernel_rfl) List.perm_append_comm hl
    (fun Hf _ hf => Sl.block1 (hf _ List.mem_cons_self) rfl ⟨rfl, trivial⟩) ?_ ?_ ?_
   ·simp [ints, deck_len]; omega
   ·simp [ints, deck_len]; omega
   intro l' O2'' H6 l6 hl'
   refine chkN_den (pure_den _ (add_one (by omega)) (countX_cont (by simp [Eqs, E]) hlt ⟨o', l', O1', O2'', rfl, List.perm_append_comm, ?_, ?_, ?_, all_take hlt hall hin⟩))
   ·exact Heap.le_trans l2 (Heap.le_trans l5 l6)
   ·rw [deck_take hlt, List.map_append, Nat.zero_add]; exact ho'
   ·rw [deck_take hlt, List.map_append, Nat.zero_add, ints_append] at *
    exact hl'
 ·have hie : i = a.length := by simp at hb; omega
  subst hie
  rw [List.take_of_length_le (by rw [deck_len]; exact Nat.le_refl _)] at ho hl
  rw [List.take_length] at hall
  refine chkN_den ?_
  refine countX_den c.length (fun i xs H' O' => ∃ o m O1 O3, xs = [o, l, m] ∧ O'.Perm (O1 ++ (O2 ++ O3)) ∧ Heap.le H2 H' ∧ OSl Ty_api_Object 12 o ((deckOb 0 a 0 ++ (deckOb a.length c 1).take i).map Ob.row) O1 ∧ OSl Ty_int 1 m (ints (((deckOb a.length c 1).take i).map (·.id))) O3 ∧ ∀ x ∈ c.take i, 0 ≤ x ∧ x ≤ 399)
   ⟨o, nilS, O1, [], rfl, by simpa using hO, Heap.le_refl _, by simpa using ho, OSl.nil _ _, by simp⟩ ?_
  rintro i xs H3 O3' hi - - - ⟨o, m, O1, O3, rfl, hO, l3, ho, hm, hallc⟩
  refine chkN_den (pure_den _ lc (pure_den _ (lss_eq _ _) (br_den (fun hb => ?_) (fun hb => ?_))))
  ·have hlt : i < c.length := by simpa using hb
   obtain ⟨p, h1, h2, h3, h4⟩ := ((hc.le l2).le l3).idx (k := .i64) (i := i) (r := [iV c[i]]) (by simp [ints, hlt])
   refine chkN_den (pure_den _ h1 (load_den h2 h3 h4 (pure_den _ (lss_eq _ _) (chkV_den (chkN_den (chkV_den (chkV_den (chkV_den (pure_denG h1 rfl (chkV_den (load_denG h2 h3 h4 (chkV_den (pure_den _ (gtr_eq _ _) (chkV_den (pure_den _ (pick_or _ _) (br_den (fun hb => chkN_den (chkN_den (ret_drop (new_bad ?_ H3)))) (fun hb => ?_)))))))))))))))))
   ·refine newOk_bad (i := a.length + i) (by simp; omega) ?_
    rw [List.getElem_append_right (by omega)]
    rintro ⟨q1, q2⟩
    simp at hb q1 q2
    omega
   ·have hin : 0 ≤ c[i] ∧ c[i] ≤ 399 := by simp at hb; omega
    have lno := ho.len
    rw [List.length_map, List.length_append, List.length_take, deck_len, deck_len, Nat.min_eq_left (by omega)] at lno
    refine chkN_den (pure_den _ lno (pure_den _ (add_one (by omega)) (chkN_den (chkN_den (pure_den _ h1 (load_den h2 h3 h4 (newbox_den fun r5 => ?_)))))))
    refine call_append (rows := (deckOb 0 a 0 ++ (deckOb a.length c 1).take i).map Ob.row) (news := [(newOb ((a.length + i + 1 : Nat) : Int) c[i] 1).row]) (O1 := O1) (O2 := O2 ++ O3) (e := Ty_api_Object) (size := 12) (bytes := 80) (by kernel_rfl) hO ho
     (fun Hf _ hf => Sl.block1 (hf _ List.mem_cons_self) rfl (by simp [newOb, Ob.row, Ones, Value.oneCell'])) ?_ ?_ ?_
    ·simp [deck_len]; omega
    ·simp [deck_len]; omega
    intro o' O1' H6 l6 ho'
    refine chkN_den (chkN_den (newbox_den fun r6 => ?_))
    refine call_append (rows := ints (((deckOb a.length c 1).take i).map (·.id))) (news := [[iV ((a.length + i + 1 : Nat) : Int)]]) (O1 := O3) (O2 := O1' ++ O2) (e := Ty_int) (size := 1) (bytes := 8) (by kernel_rfl)
     (by rw [← List.append_assoc]; exact List.perm_append_comm) hm (fun Hf _ hf => Sl.block1 (hf _ List.mem_cons_self) rfl ⟨rfl, trivial⟩) ?_ ?_ ?_
    ·simp [ints, deck_len]; omega
    ·simp [ints, deck_len]; omega
    intro m' O3'' H7 l7 hm'
    refine chkN_den (pure_den _ (add_one (by omega)) (countX_cont (by simp [Eqs, E]) hlt ⟨o', m', O1', O3'', rfl, ?_, ?_, ?_, ?_, all_take hlt hallc hin⟩))
    ·rw [← List.append_assoc O1']; exact List.perm_append_comm
    ·exact Heap.le_trans l3 (Heap.le_trans l6 l7)
    ·rw [deck_take hlt, ← List.append_assoc, List.map_append]; exact ho'
    ·rw [deck_take hlt, List.map_append]
     rw [ints_append] at hm'
     exact hm'
  ·have hie : i = c.length := by simp at hb; omega
   subst hie
   rw [List.take_of_length_le (by rw [deck_len]; exact Nat.le_refl _)] at ho hm
   rw [List.take_length] at hallc
   refine chkN_den (chkN_den (chkN_den (new_good ?_ hO ho hl hm)))
   unfold newOk
   simp only [Bool.and_eq_true, decide_eq_true_eq, List.all_eq_true]
   refine ⟨⟨hlife, hsum⟩, fun x hx => ?_⟩
   rcases List.mem_append.1 hx with hx | hx
   ·exact hall x hx
   ·exact hallc x hx
end Go.Proofs.YtieaihgbjikggaaGreat
namespace Go.Sx
open Go
set_option maxRecDepth 100000
set_option maxHeartbeats 1000000
/-- Ahead of a call a part of what is owned is frozen, the rest is kept. -/
theorem call_gk {T : Heap → Own → (Value → Heap → Own → Prop) → Prop} {frz : List BV} {shp : Shp} {K : List Value → List (List Value) → Heap → Own → Prop} {H : Heap} {O B : Own} {Φ : Heap → Prop}
  (hz : ∀ H1, Heap.le H H1 → Cons H1 O → ∃ Hf, Ghost H1 O Hf B ∧ Heap.le H1 Hf ∧ Φ Hf)
  (h : ∀ Hf, Heap.le H Hf → (∀ b ∈ frz, Hf b.r = some b.obj.2) → Φ Hf → ∃ Q, T Hf [] Q ∧ ∀ v H' O', Q v H' O' → Heap.le Hf H' → ∃ vs, shp.open v = some vs ∧ Ones vs ∧ K vs [] H' (O' ++ B)) :
  CallD T false frz [] shp K H O := by
 intro hc
 have hf := insAll_get hc
 have hc2 : Cons (H.insAll frz) O := by
  obtain ⟨w, F, hm⟩ := hc
  exact ⟨w, F, (models_freeze (by simpa [List.append_assoc] using hm)).1⟩
 obtain ⟨Hf, g, hl, hphi⟩ := hz _ (Heap.le_insAll frz H) hc2
 obtain ⟨Q, hT, hk⟩ := h Hf (Heap.le_trans (Heap.le_insAll frz H) hl) (fun b hb => hl.1 _ _ (hf b hb)) hphi
 refine ⟨Hf, [], B, Q, by simpa using g, by simpa using hT, fun v H' O' hq hle => ?_⟩
 obtain ⟨vs, h1, h2, h3⟩ := hk v H' O' hq hle
 exact ⟨vs, [], O', h1, h2, trivial, by simp [newCells], by simpa using h3⟩
theorem gz_keep {H : Heap} {O : Own} : ∀ H1, Heap.le H H1 → Cons H1 O → ∃ Hf, Ghost H1 O Hf O ∧ Heap.le H1 Hf ∧ (fun _ : Heap => True) Hf := fun H1 _ _ => ⟨H1, Ghost.refl _ _, Heap.le_refl _, trivial⟩
end Go.Sx
namespace Go.Proofs.YtieaihgbjikggaaGreat
open Go Go.Sx
set_option maxRecDepth 100000
set_option maxHeartbeats 1000000
theorem rem_len {n : Int} {m : Nat} (h : 0 ≤ n) (hm : 0 < m) : evalPure (.bin .rem .int) [iV n, iV (m : Int)] = some (iV ((n.toNat % m : Nat) : Int)) := by
 simp only [evalPure, evalBin, evalInt]
 have h2 : (m : Int) ≠ 0 := by omega
 have h3 : n.tmod (m : Int) = ((n.toNat % m : Nat) : Int) := by
  rw [Int.tmod_eq_emod_of_nonneg h, Int.natCast_emod, Int.toNat_of_nonneg h]
 simp [h2, h3]
 omega
end Go.Proofs.YtieaihgbjikggaaGreat
namespace Go.Proofs.YtieaihgbjikggaaGreat
open Go Go.Sx
set_option maxRecDepth 100000
set_option maxHeartbeats 1000000
theorem Triple.frozen2 {P : Program} {f : FuncId} {args : List Value} {H : Heap} {t : Tys} {b : Bd} {e : Int} (h : Triple P f args H [] fun r _ O' => ∃ w, r = .tuple #[.agg (boardC w b).toArray, iV e] ∧ OwnB t w b O') :
  Triple P f args H [] fun r H' O' => (∃ w, r = .tuple #[.agg (boardC w b).toArray, iV e] ∧ BdS H' w b) ∧ O' = [] := by
 refine Triple.ghost h ?_
 rintro v H' O' _ hc ⟨w, rfl, ho⟩
 obtain ⟨H'', g, k, _⟩ := ho.freeze (X := []) (by simpa using hc)
 exact ⟨H'', [], by simpa using g, ⟨w, rfl, k⟩, rfl⟩
def ob1 : Ob := ⟨1, 0, 0, 0, 0, 0, 0, 0, 0, false, false, false⟩
def bdF0 : Bd := moveR (newBd 20 [0] []) 0 (resetO ob1 1) 1
def itF (i : Nat) : It := ⟨0, ((1 + i % 9 : Nat) : Int), ((i % 7 : Nat) : Int), ((i % 2 : Nat) : Int), []⟩
def bdF (i : Nat) : Bd := { bdF0 with stack := (List.range (min i 200)).map itF }
theorem bdF_len (i : Nat) : (bdF i).stack.length = min i 200 := by simp [bdF]
theorem bdF_succ {i : Nat} (h : i < 200) : bdF (i + 1) = { bdF i with stack := (bdF i).stack ++ [itF i] } := by
 have e1 : min (i + 1) 200 = i + 1 := by omega
 have e2 : min i 200 = i := by omega
 simp only [bdF, e1, e2, List.range_succ, List.map_append, List.map_cons, List.map_nil]
theorem bdF_full {i : Nat} (h : 200 ≤ i) : bdF (i + 1) = bdF i := by
 have e1 : min (i + 1) 200 = 200 := by omega
 have e2 : min i 200 = 200 := by omega
 simp only [bdF, e1, e2]
theorem itF_fine (i : Nat) : fineP (itF i) = true := by
 have h1 := Nat.mod_lt i (show 0 < 9 by omega)
 have h2 := Nat.mod_lt i (show 0 < 7 by omega)
 have h3 := Nat.mod_lt i (show 0 < 2 by omega)
 simp only [fineP, itF, withinB, Bool.and_eq_true]
 exact ⟨decide_eq_true (by omega), decide_eq_true (by omega), decide_eq_true (by omega), decide_eq_true (by omega)⟩
theorem bdF_valid : ∀ i, validBd (bdF i) = true
 | 0 => (by kernel_rfl : validBd (bdF 0) = true)
 | i + 1 => by
  rcases Nat.lt_or_ge i 200 with h | h
  ·rw [bdF_succ h]
   exact push_valid (bdF_valid i) (itF_fine i) rfl (by rw [bdF_len]; omega)
  ·rw [bdF_full h]; exact bdF_valid i
theorem bdF_B (i : Nat) : bdB (bdF i) := by
 have h0 : bdB bdF0 := ⟨of_decide_eq_true (by kernel_rfl), ⟨of_decide_eq_true (by kernel_rfl), of_decide_eq_true (by kernel_rfl), of_decide_eq_true (by kernel_rfl), of_decide_eq_true (by kernel_rfl)⟩, ⟨of_decide_eq_true (by kernel_rfl), of_decide_eq_true (by kernel_rfl), of_decide_eq_true (by kernel_rfl), of_decide_eq_true (by kernel_rfl)⟩, ⟨of_decide_eq_true (by kernel_rfl), fun x hx => by cases hx⟩, ⟨of_decide_eq_true (by kernel_rfl), fun x hx => by cases hx⟩, of_decide_eq_true (by kernel_rfl), of_decide_eq_true (by kernel_rfl)⟩
 refine ⟨h0.1, h0.2.1, h0.2.2.1, ⟨by rw [bdF_len]; omega, fun x hx => ?_⟩, h0.2.2.2.2⟩
 obtain ⟨j, _, rfl⟩ := List.mem_map.1 hx
 simp [itF]
theorem bdF_push (i : Nat) : pushV (bdF i) (itF i) = if i < 200 then (bdF (i + 1), 0) else (zBd, 7) := by
 have hc : ¬ ((!validBd (bdF i) || (!fineP (itF i) || decide (((itF i).tgs.length : Int) > 0))) = true) := by
  rw [bdF_valid, itF_fine]; simp [itF]
 rw [pushV, if_neg hc, bdF_len]
 by_cases h : i < 200
 ·rw [if_pos h, bdF_succ h, if_neg (by simp; omega)]
 ·rw [if_neg h, if_pos (by simp; omega)]
theorem bdF_at (i : Nat) : (bdF i).objs[0]? = some (resetO ob1 1) := by
 show bdF0.objs[0]? = _
 kernel_rfl
theorem bdF_idx (i : Nat) : idxO (bdF i) 1 = 0 := by
 show idxP _ bdF0.objs 0 = 0
 kernel_rfl
theorem bdF_indexE (i : Nat) : (indexE (bdF i) 1 != 0) = false := by
 rw [indexE, if_pos (bdF_valid i), bdF_idx]; rfl
theorem bdF_where (i : Nat) : whereP (bdF i) 1 = (0, 1, 0) := by
 have hs : spotL 1 (zonesL (bdF i)) = some (0, 1, 0) := by
  show spotL 1 (zonesL bdF0) = _
  kernel_rfl
 rw [whereP, if_neg (by rw [bdF_indexE]; simp), spotG, hs]; rfl
theorem bdF_find (i : Nat) : findO (bdF i) 1 = resetO ob1 1 := findO_eq (bdF_indexE i) (bdF_at i) (bdF_idx i)
theorem bdF_cast (i : Nat) : castV (bdF i) 1 = if i < 200 then (castB (bdF i) 0 0 (resetO ob1 1), 0) else (zBd, 7) := by
 rw [castV, if_neg (by rw [bdF_indexE]; simp), bdF_find, bdF_where, if_neg (by decide), bdF_len, bdF_idx]
 by_cases h : i < 200
 ·rw [if_pos h, if_neg (by simp; omega)]; rfl
 ·rw [if_neg h, if_pos (by simp; omega)]
theorem rem_pos {n m : Nat} (hm : 0 < m) (hb : m < 2 ^ 63) : evalPure (.bin .rem .int) [iV n, iV (m : Int)] = some (iV ((n % m : Nat) : Int)) := by
 have := rem_len (n := (n : Int)) (m := m) (by omega) hm
 rwa [Int.toNat_natCast] at this
theorem fulls_true {H : Heap} (n : Int) : Triple PP F_zeitnotlaw18_StackFulls [iV n] H [] fun r _ O' => r = .bool true ∧ O' = [] := by
 refine run_zeitnotlaw18_StackFulls (vs := [iV n]) (by kernel_rfl) ⟨rfl, trivial⟩ ?_
 simp only [T_zeitnotlaw18_StackFulls]
 refine pure_den _ (lss_eq _ _) ?_
 repeat (first | refine chkN_den ?_ | refine chkV_den ?_ | refine chkP_den rfl ?_)
 refine pure_den _ (gtr_eq _ _) ?_
 repeat (first | refine chkN_den ?_ | refine chkV_den ?_ | refine chkP_den rfl ?_)
 refine pure_den _ (pick_or _ _) (br_den (fun _ => ?_) (fun hc => ?_))
 ·repeat (first | refine chkN_den ?_ | refine chkV_den ?_ | refine chkP_den rfl ?_)
  exact call_retO (c_knownT _ []) rfl ⟨rfl, trivial⟩ fun _ _ => ret_denO ⟨rfl, rfl⟩
 have hc : (decide (n < 198) || decide (n > 202)) = false := hc
 have hn : 198 ≤ n ∧ n ≤ 202 := by simp at hc; omega
 clear hc
 obtain ⟨m, rfl⟩ : ∃ m : Nat, n = m := ⟨n.toNat, by omega⟩
 replace hn : 198 ≤ m ∧ m ≤ 202 := by omega
 repeat (first | refine chkN_den ?_ | refine chkV_den ?_ | refine chkP_den rfl ?_)
 refine newbox_den fun r0 => newbox_den fun r1 => ?_
 repeat (first | refine chkN_den ?_ | refine chkV_den ?_ | refine chkP_den rfl ?_)
 refine call_gk (B := []) gz_keep fun Hf lf hf _ => ⟨_, r_New 20 (a := [0]) (c := []) (Sl.block (cs := [iV 0]) (hf _ List.mem_cons_self) ⟨rfl, trivial⟩ rfl (by omega)) (Sl.block (cs := []) (hf _ (List.mem_cons_of_mem _ List.mem_cons_self)) trivial rfl (by omega)) (by simp) (by simp), ?_⟩
 rintro _ H2 _ ⟨rfl, w, rfl, hb⟩ l2
 have enew : newR 20 [0] [] = (newBd 20 [0] [], 0) := by kernel_rfl
 rw [enew] at hb ⊢
 have hb : BdS H2 w (newBd 20 [0] []) := hb
 refine ⟨boardC w (newBd 20 [0] []) ++ [iV 0], rfl, ones_app (boardC_ones (hb.r [])) ⟨rfl, trivial⟩, ?_⟩
 repeat (first | refine chkN_den ?_ | refine chkV_den ?_ | refine chkP_den rfl ?_)
 refine newbox_den fun r2 => ?_
 repeat (first | refine chkN_den ?_ | refine chkV_den ?_ | refine chkP_den rfl ?_)
 refine call_new (r_Move (o := resetO ob1 1) (k := 0) hb ?_ ?_ ?_ (.inl rfl) 1) ?_
 ·exact ⟨of_decide_eq_true (by kernel_rfl), ⟨of_decide_eq_true (by kernel_rfl), of_decide_eq_true (by kernel_rfl), of_decide_eq_true (by kernel_rfl), of_decide_eq_true (by kernel_rfl)⟩, ⟨of_decide_eq_true (by kernel_rfl), of_decide_eq_true (by kernel_rfl), of_decide_eq_true (by kernel_rfl), of_decide_eq_true (by kernel_rfl)⟩, ⟨of_decide_eq_true (by kernel_rfl), fun x hx => by cases hx⟩, ⟨of_decide_eq_true (by kernel_rfl), fun x hx => by cases hx⟩, of_decide_eq_true (by kernel_rfl), of_decide_eq_true (by kernel_rfl)⟩
 ·kernel_rfl
 ·kernel_rfl
 rintro _ H3 _ ⟨⟨w3, rfl, hb3⟩, rfl⟩ l3
 have hb3 : BdS H3 w3 (bdF 0) := hb3
 refine ⟨boardC w3 (bdF 0), rfl, boardC_ones (hb3.r []), ?_⟩
 repeat (first | refine chkN_den ?_ | refine chkV_den ?_ | refine chkP_den rfl ?_)
 refine loop_den (fun vs H' O' => ∃ (i : Nat) (w : BV12), vs = iV i :: boardC w (bdF i) ∧ i ≤ m ∧ O' = [] ∧ BdS H' w (bdF i)) (fun vs _ _ => match g vs 0 with | .int _ j => m - j.toNat | _ => 0) ⟨0, w3, rfl, Nat.zero_le _, rfl, hb3⟩ ?_
 rintro _ H4 _ _ _ _ ⟨i, w4, rfl, him, rfl, hb4⟩
 repeat (first | refine chkN_den ?_ | refine chkV_den ?_ | refine chkP_den rfl ?_)
 refine pure_den _ (lss_eq _ _) (br_den (fun hlt => ?_) (fun hlt => ?_))
 ·have hlt : i < m := by simpa using hlt
  repeat (first | refine chkN_den ?_ | refine chkV_den ?_ | refine chkP_den rfl ?_)
  refine pure_den _ (rem_pos (n := i) (m := 9) (by omega) (by omega)) ?_
  repeat (first | refine chkN_den ?_ | refine chkV_den ?_ | refine chkP_den rfl ?_)
  refine pure_den _ (add_nat' (i := 1) (n := i % 9) (by omega)) ?_
  repeat (first | refine chkN_den ?_ | refine chkV_den ?_ | refine chkP_den rfl ?_)
  refine pure_den _ (rem_pos (n := i) (m := 7) (by omega) (by omega)) ?_
  repeat (first | refine chkN_den ?_ | refine chkV_den ?_ | refine chkP_den rfl ?_)
  refine pure_den _ (rem_pos (n := i) (m := 2) (by omega) (by omega)) ?_
  repeat (first | refine chkN_den ?_ | refine chkV_den ?_ | refine chkP_den rfl ?_)
  refine call_new (Triple.frozen2 (c_Push hb4 (bdF_B i) (itF i) (s := .slice none 0 0) (Sl.nil H4 2))) ?_
  rintro _ H5 _ ⟨⟨w5, rfl, hb5⟩, rfl⟩ l5
  rw [bdF_push] at hb5 ⊢
  by_cases h200 : i < 200
  ·rw [if_pos h200] at hb5 ⊢
   have hb5 : BdS H5 w5 (bdF (i + 1)) := hb5
   refine ⟨boardC w5 (bdF (i + 1)) ++ [iV 0], rfl, ones_app (boardC_ones (hb5.r [])) ⟨rfl, trivial⟩, ?_⟩
   repeat (first | refine chkN_den ?_ | refine chkV_den ?_ | refine chkP_den rfl ?_)
   refine newbox_den fun r3 => ?_
   repeat (first | refine chkN_den ?_ | refine chkV_den ?_ | refine chkP_den rfl ?_)
   refine pure_den _ (eql_eq _ _) ?_
   repeat (first | refine chkN_den ?_ | refine chkV_den ?_ | refine chkP_den rfl ?_)
   refine pure_den _ (lss_eq _ _) ?_
   repeat (first | refine chkN_den ?_ | refine chkV_den ?_ | refine chkP_den rfl ?_)
   refine pure_den _ (bneq_eq _ _) ?_
   repeat (first | refine chkN_den ?_ | refine chkV_den ?_ | refine chkP_den rfl ?_)
   refine pure_den _ (neq_eq _ _) ?_
   repeat (first | refine chkN_den ?_ | refine chkV_den ?_ | refine chkP_den rfl ?_)
   refine pure_den _ (neq_eq _ _) ?_
   repeat (first | refine chkN_den ?_ | refine chkV_den ?_ | refine chkP_den rfl ?_)
   refine pure_den _ (pick_and _ _) ?_
   repeat (first | refine chkN_den ?_ | refine chkV_den ?_ | refine chkP_den rfl ?_)
   have hd : decide ((i : Int) < 200) = true := decide_eq_true (by omega)
   rw [hd]
   refine pure_den _ (pick_or _ _) (br_den (fun hx => by cases hx) (fun _ => ?_))
   repeat (first | refine chkN_den ?_ | refine chkV_den ?_ | refine chkP_den rfl ?_)
   refine pure_den _ (eql_eq _ _) (br_den (fun _ => ?_) (fun hx => by cases hx))
   repeat (first | refine chkN_den ?_ | refine chkV_den ?_ | refine chkP_den rfl ?_)
   refine pure_den _ (add_one (by omega)) (cont_den (by simp [Eqs, E]) ⟨i + 1, w5, rfl, hlt, rfl, hb5⟩ ?_)
   show m - ((i + 1 : Nat) : Int).toNat < m - (i : Int).toNat
   omega
  ·rw [if_neg h200] at hb5 ⊢
   have hb5 : BdS H5 w5 zBd := hb5
   refine ⟨boardC w5 zBd ++ [iV 7], rfl, ones_app (boardC_ones (hb5.r [])) ⟨rfl, trivial⟩, ?_⟩
   repeat (first | refine chkN_den ?_ | refine chkV_den ?_ | refine chkP_den rfl ?_)
   refine newbox_den fun r3 => ?_
   repeat (first | refine chkN_den ?_ | refine chkV_den ?_ | refine chkP_den rfl ?_)
   refine pure_den _ (eql_eq _ _) ?_
   repeat (first | refine chkN_den ?_ | refine chkV_den ?_ | refine chkP_den rfl ?_)
   refine pure_den _ (lss_eq _ _) ?_
   repeat (first | refine chkN_den ?_ | refine chkV_den ?_ | refine chkP_den rfl ?_)
   refine pure_den _ (bneq_eq _ _) ?_
   repeat (first | refine chkN_den ?_ | refine chkV_den ?_ | refine chkP_den rfl ?_)
   refine pure_den _ (neq_eq _ _) ?_
   repeat (first | refine chkN_den ?_ | refine chkV_den ?_ | refine chkP_den rfl ?_)
   refine pure_den _ (neq_eq _ _) ?_
   repeat (first | refine chkN_den ?_ | refine chkV_den ?_ | refine chkP_den rfl ?_)
   refine pure_den _ (pick_and _ _) ?_
   repeat (first | refine chkN_den ?_ | refine chkV_den ?_ | refine chkP_den rfl ?_)
   have hd : decide ((i : Int) < 200) = false := decide_eq_false (by omega)
   rw [hd]
   refine pure_den _ (pick_or _ _) (br_den (fun hx => by cases hx) (fun _ => ?_))
   repeat (first | refine chkN_den ?_ | refine chkV_den ?_ | refine chkP_den rfl ?_)
   refine pure_den _ (eql_eq _ _) (br_den (fun hx => by cases hx) (fun _ => ?_))
   repeat (first | refine chkN_den ?_ | refine chkV_den ?_ | refine chkP_den rfl ?_)
   refine pure_den _ (add_one (by omega)) (cont_den (by simp [Eqs, E]) ⟨i + 1, w4, by rw [bdF_full (by omega)]; rfl, hlt, rfl, by rw [bdF_full (by omega)]; exact hb4.le l5⟩ ?_)
   show m - ((i + 1 : Nat) : Int).toNat < m - (i : Int).toNat
   omega
 have him : i = m := by
  have := of_decide_eq_false hlt; omega
 subst him
 repeat (first | refine chkN_den ?_ | refine chkV_den ?_ | refine chkP_den rfl ?_)
 refine call_new (c_Cast hb4 (bdF_B i) (id := 1) (by constructor <;> omega)) ?_
 rintro _ H5 O5 ⟨w5, rfl, ho⟩ l5
 rw [bdF_cast] at ho ⊢
 have klen : evalPure .len [g (iV i :: boardC w4 (bdF i)) 30] = some (iV (min i 200 : Nat)) := by rw [← bdF_len]; exact ItsR.len (hb4.stack.r [])
 by_cases h200 : i < 200
 ·rw [if_pos h200] at ho ⊢
  have clen : evalPure .len [w5.s] = some (iV ((i + 1 : Nat) : Int)) := by
   have := ItsR.len (ho.r (fun _ h => h) H5).stack
   rw [this]
   simp [castB, bdF_len]; omega
  refine ⟨boardC w5 (castB (bdF i) 0 0 (resetO ob1 1)) ++ [iV 0], rfl, ones_app (ownB_ones H5 ho) ⟨rfl, trivial⟩, ?_⟩
  repeat (first | refine chkN_den ?_ | refine chkV_den ?_ | refine chkP_den rfl ?_)
  refine newbox_den fun r4 => ?_
  repeat (first | refine chkN_den ?_ | refine chkV_den ?_ | refine chkP_den rfl ?_)
  refine pure_den _ (geq_eq _ _) (br_den (fun hx => absurd (of_decide_eq_true hx) (by omega)) (fun _ => ?_))
  repeat (first | refine chkN_den ?_ | refine chkV_den ?_ | refine chkP_den rfl ?_)
  refine pure_den _ (eql_eq _ _) ?_
  repeat (first | refine chkN_den ?_ | refine chkV_den ?_ | refine chkP_den rfl ?_)
  refine pure_den _ (eql_eq _ _) ?_
  repeat (first | refine chkN_den ?_ | refine chkV_den ?_ | refine chkP_den rfl ?_)
  refine pure_den _ (pick_and _ _) ?_
  repeat (first | refine chkN_den ?_ | refine chkV_den ?_ | refine chkP_den rfl ?_)
  refine pure_den _ clen ?_
  repeat (first | refine chkN_den ?_ | refine chkV_den ?_ | refine chkP_den rfl ?_)
  refine pure_den _ (add_one (by omega)) ?_
  repeat (first | refine chkN_den ?_ | refine chkV_den ?_ | refine chkP_den rfl ?_)
  refine pure_den _ (eql_eq _ _) ?_
  repeat (first | refine chkN_den ?_ | refine chkV_den ?_ | refine chkP_den rfl ?_)
  refine pure_den _ (pick_and _ _) (br_den (fun _ => ?_) (fun hx => ?_))
  ·repeat (first | refine chkN_den ?_ | refine chkV_den ?_ | refine chkP_den rfl ?_)
   exact call_retO (c_knownT _ _) rfl ⟨rfl, trivial⟩ fun _ _ => ret_drop ⟨rfl, rfl⟩
  ·simp at hx
 ·rw [if_neg h200] at ho ⊢
  have clen : evalPure .len [w5.s] = some (iV 0) := ItsR.len (ho.r (fun _ h => h) H5).stack
  refine ⟨boardC w5 zBd ++ [iV 7], rfl, ones_app (ownB_ones H5 ho) ⟨rfl, trivial⟩, ?_⟩
  repeat (first | refine chkN_den ?_ | refine chkV_den ?_ | refine chkP_den rfl ?_)
  refine newbox_den fun r4 => ?_
  repeat (first | refine chkN_den ?_ | refine chkV_den ?_ | refine chkP_den rfl ?_)
  refine pure_den _ (geq_eq _ _) (br_den (fun _ => ?_) (fun hx => absurd (of_decide_eq_false hx) (by omega)))
  repeat (first | refine chkN_den ?_ | refine chkV_den ?_ | refine chkP_den rfl ?_)
  refine pure_den _ (eql_eq _ _) ?_
  repeat (first | refine chkN_den ?_ | refine chkV_den ?_ | refine chkP_den rfl ?_)
  refine pure_den _ clen ?_
  repeat (first | refine chkN_den ?_ | refine chkV_den ?_ | refine chkP_den rfl ?_)
  refine pure_den _ (eql_eq _ _) ?_
  repeat (first | refine chkN_den ?_ | refine chkV_den ?_ | refine chkP_den rfl ?_)
  refine pure_den _ (pick_and _ _) ?_
  repeat (first | refine chkN_den ?_ | refine chkV_den ?_ | refine chkP_den rfl ?_)
  refine pure_den _ klen ?_
  repeat (first | refine chkN_den ?_ | refine chkV_den ?_ | refine chkP_den rfl ?_)
  refine pure_den _ (eql_eq _ _) ?_
  repeat (first | refine chkN_den ?_ | refine chkV_den ?_ | refine chkP_den rfl ?_)
  refine pure_den _ (pick_and _ _) (br_den (fun _ => ?_) (fun hx => ?_))
  ·repeat (first | refine chkN_den ?_ | refine chkV_den ?_ | refine chkP_den rfl ?_)
   exact call_retO (c_knownT _ _) rfl ⟨rfl, trivial⟩ fun _ _ => ret_drop ⟨rfl, rfl⟩
  ·have e : min i 200 = 200 := by omega
   rw [e] at hx
   simp at hx
end Go.Proofs.YtieaihgbjikggaaGreat
