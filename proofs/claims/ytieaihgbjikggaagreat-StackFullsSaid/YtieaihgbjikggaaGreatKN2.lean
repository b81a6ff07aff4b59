/- What a call of 'known' hands back. -/
import Derived.Test.YtieaihgbjikggaaGreatKN
import Derived.Test.YtieaihgbjikggaaGreatC8
import Derived.Test.YtieaihgbjikggaaGreatM17
namespace Go.Proofs.YtieaihgbjikggaaGreat
open Go Go.Sx
set_option maxRecDepth 100000
set_option maxHeartbeats 1000000
end Go.Proofs.YtieaihgbjikggaaGreat
namespace Go.Proofs.YtieaihgbjikggaaGreat
open Go Go.Sx
set_option maxRecDepth 100000
set_option maxHeartbeats 1000000
end Go.Proofs.YtieaihgbjikggaaGreat
namespace Go.Proofs.YtieaihgbjikggaaGreat
open Go Go.Sx
set_option maxRecDepth 100000
set_option maxHeartbeats 1000000
def setR (b : Bd) (o : Ob) : Bd := if 0 ≤ idxO b o.id then setOb b (idxO b o.id).toNat o else b
theorem r_SetO {H : Heap} {v : BV12} {b : Bd} (h : BdS H v b) (hB : bdB b) (o : Ob) : Triple PP F_zeitnotref15_Set [.agg (boardC v b).toArray, .agg o.row.toArray] H [] fun r _ O' => ∃ w, r = .agg (boardC w (setR b o)).toArray ∧ OwnB tys w (setR b o) O' := by
 refine run_zeitnotref15_Set (vs := boardC v b ++ o.row) (by kernel_rfl) (ones_app (boardC_ones (h.r [])) (ob_ones o)) ?_
 simp only [T_zeitnotref15_Set]
 refine newbox_den fun r0 => newbox_den fun r1 => newbox_den fun r2 => ?_
 repeat (first | refine chkN_den ?_ | refine chkV_den ?_)
 refine call_new (r_Copy h hB) ?_
 rintro _ H3 O3 ⟨w, rfl, ho⟩ l3
 refine ⟨boardC w b, rfl, ownB_ones H3 ho, ?_⟩
 repeat (first | refine chkN_den ?_ | refine chkV_den ?_)
 refine call_retO (r_Index (ho.r (fun p hp => List.mem_append_left _ hp) H3) o.id) rfl ⟨rfl, trivial⟩ fun H4 l4 => pure_den _ (geq_eq _ _) (br_den (fun hb => ?_) (fun hb => ?_))
 ·have hb := of_decide_eq_true hb
  obtain ⟨k, x, e1, e2, e3⟩ := idxO_some (b := b) (id := o.id) (by omega)
  have e : setR b o = setOb b k o := by simp [setR, e3]
  rw [e, e3]
  obtain ⟨a', q1, O1, q2, O2, q3, q4⟩ := OwnB.store_ob ho (X := []) (O' := O3 ++ []) (by simp) e1 o
  repeat (first | refine chkN_den ?_ | refine chkV_den ?_)
  refine pure_den _ q1 (chkP_den rfl ⟨_, q2, ?_⟩)
  repeat (first | refine chkN_den ?_ | refine chkV_den ?_)
  exact ret_denO ⟨w, rfl, OwnB.perm q4 (by simpa using q3)⟩
 ·have hb := of_decide_eq_false hb
  have e : setR b o = b := by rw [setR, if_neg (by omega)]
  rw [e]
  repeat (first | refine chkN_den ?_ | refine chkV_den ?_)
  exact ret_denO ⟨w, rfl, OwnB.perm ho (by simp)⟩
theorem r_Set {H : Heap} {v : BV12} {b : Bd} (h : BdS H v b) (hB : bdB b) (o : Ob) : Triple PP F_zeitnotref15_Set [.agg (boardC v b).toArray, .agg o.row.toArray] H [] fun r H' O' => (∃ w, r = .agg (boardC w (setR b o)).toArray ∧ BdS H' w (setR b o)) ∧ O' = [] :=
 Triple.frozen (r_SetO h hB o)
end Go.Proofs.YtieaihgbjikggaaGreat
namespace Go.Proofs.YtieaihgbjikggaaGreat
open Go Go.Sx
set_option maxRecDepth 100000
set_option maxHeartbeats 1000000
theorem r_Rest (o : Ob) (H : Heap) (O : Own) : RetO PP F_zeitnotref14_Rest [.agg o.row.toArray] H O (.agg (restO o).row.toArray) := by
 refine run_zeitnotref14_Rest (vs := o.row) (by kernel_rfl) (ob_ones o) ?_
 simp only [T_zeitnotref14_Rest]
 refine newbox_den fun r0 => newbox_den fun r1 => ?_
 repeat (first | refine chkN_den ?_ | refine chkV_den ?_)
 exact ret_denO ⟨rfl, rfl⟩
theorem r_Reset (o : Ob) (z : Int) (H : Heap) (O : Own) : RetO PP F_zeitnotref14_Reset [.agg o.row.toArray, iV z] H O (.agg (resetO o z).row.toArray) := by
 refine run_zeitnotref14_Reset (vs := o.row ++ [iV z]) (by kernel_rfl) (ones_app (ob_ones o) ⟨rfl, trivial⟩) ?_
 simp only [T_zeitnotref14_Reset]
 refine newbox_den fun r0 => newbox_den fun r1 => ?_
 repeat (first | refine chkN_den ?_ | refine chkV_den ?_)
 refine call_retO (r_Rest o H O) rfl (vs := (restO o).row) (ob_ones _) fun H1 l1 => ?_
 repeat (first | refine chkN_den ?_ | refine chkV_den ?_)
 refine pure_den _ (eql_eq _ _) ?_
 repeat (first | refine chkN_den ?_ | refine chkV_den ?_)
 exact ret_denO ⟨rfl, rfl⟩
theorem without_take {l : List Int} {i : Nat} (h : i < l.length) (id : Int) : without (l.take (i + 1)) id = without (l.take i) id ++ (if l[i] != id then [l[i]] else []) := by
 rw [List.take_add_one, List.getElem?_eq_getElem h, without, List.filter_append]
 congr 1
 simp only [Option.toList_some, List.filter_cons, List.filter_nil]
theorem without_len (l : List Int) (id : Int) : (without l id).length ≤ l.length := List.length_filter_le _ _
theorem r_WithoutO {H : Heap} {v : Value} {l : List Int} (h : Sl H 1 v (ints l)) (hl : l.length ≤ 1000000) (id : Int) : Triple PP F_zeitnotref15_Without [v, iV id] H [] fun v' _ O' => OSl Ty_int 1 v' (ints (without l id)) O' := by
 refine run_zeitnotref15_Without (vs := [v, iV id]) (by kernel_rfl) ⟨h.one, rfl, trivial⟩ ?_
 simp only [T_zeitnotref15_Without]
 have hlen : evalPure .len [v] = some (iV l.length) := by have := h.len; rwa [ints, List.length_map] at this
 refine countY_den l.length (fun i x H' O' => Heap.le H H' ∧ OSl Ty_int 1 x (ints (without (l.take i) id)) O') ⟨Heap.le_refl _, OSl.nil _ _⟩ ?_
 rintro i x H' O' hi - ⟨hle, hx⟩
 repeat (first | refine chkN_den ?_ | refine chkV_den ?_)
 refine pure_den _ hlen (pure_den _ (lss_eq _ _) (br_den (fun hb => ?_) (fun hb => ?_)))
 ·have hlt : i < l.length := by simpa using hb
  obtain ⟨a, h1, h2, h3, h4⟩ := (h.le hle).idx (k := .i64) (i := i) (r := [iV l[i]]) (by simp [ints, hlt])
  refine pure_den _ h1 (load_den h2 h3 h4 (pure_den _ (neq_eq _ _) (br_den (fun hc => ?_) (fun hc => ?_))))
  ·refine pure_den _ h1 (load_den h2 h3 h4 (newbox_den fun r0 => ?_))
   have hw : (without (l.take i) id).length ≤ 1000000 := Nat.le_trans (without_len _ _) (by rw [List.length_take]; omega)
   repeat (first | refine chkN_den ?_ | refine chkV_den ?_)
   refine call_append (rows := ints (without (l.take i) id)) (news := [[iV l[i]]]) (O1 := O') (O2 := []) (e := Ty_int) (size := 1) (bytes := 8) (by kernel_rfl) (by simp) hx (fun Hf _ hf => Sl.block1 (hf _ List.mem_cons_self) rfl ⟨rfl, trivial⟩) (by simp [ints]; omega) (by simp [ints]; omega) ?_
   intro v' A' H6 l6 hA'
   refine pure_den _ (add_one (by omega)) (countY_cont (by simp [Eqs]) hlt ⟨Heap.le_trans hle l6, ?_⟩)
   rw [List.append_nil, without_take hlt, if_pos hc, ints, List.map_append]; exact hA'
  ·refine pure_den _ (add_one (by omega)) (countY_cont (by simp [Eqs]) hlt ⟨hle, ?_⟩)
   have hc : (l[i] != id) = false := hc
   rw [without_take hlt, if_neg (by rw [hc]; simp), List.append_nil]; exact hx
 ·have hge : l.length ≤ i := by simpa using hb
  rw [List.take_of_length_le hge] at hx
  exact ret_denO hx
theorem Triple.frozenS {P : Program} {f : FuncId} {args : List Value} {H : Heap} {e : TypeId} {size : Nat} {rows : List (List Value)} (h : Triple P f args H [] fun v _ O' => OSl e size v rows O') :
  Triple P f args H [] fun v H' O' => Sl H' size v rows ∧ O' = [] := by
 refine h.ghost ?_
 intro v H' O' _ hc ho
 obtain ⟨H'', g, k, _⟩ := ho.freeze (X := []) (by simpa using hc)
 exact ⟨H'', [], by simpa using g, k, rfl⟩
theorem r_Without {H : Heap} {v : Value} {l : List Int} (h : Sl H 1 v (ints l)) (hl : l.length ≤ 1000000) (id : Int) : Triple PP F_zeitnotref15_Without [v, iV id] H [] fun v' H' O' => Sl H' 1 v' (ints (without l id)) ∧ O' = [] :=
 Triple.frozenS (r_WithoutO h hl id)
def outR (b : Bd) (id : Int) : Bd := { outB b id with stack := b.stack.filter fun x => !onR id x }
def prR (id : Int) (row : List Value) : Bool := (asI (g row 3) == some (-1)) && asI (g row 1) == some id
theorem filter_take {α : Type} {p : α → Bool} {l : List α} {i : Nat} (h : i < l.length) : (l.take (i + 1)).filter p = (l.take i).filter p ++ (if p l[i] then [l[i]] else []) := by
 rw [List.take_add_one, List.getElem?_eq_getElem h, List.filter_append]
 congr 1
 simp only [Option.toList_some, List.filter_cons, List.filter_nil]
theorem countY_denG {P : Program} {lab key : Nat} {x0 : Value} {body : (List Value → Heap → Own → Prop) → List Value → Tree} {H : Heap} {O : Own} {Q : Value → Heap → Own → Prop} (n : Nat) (R : Nat → Value → Heap → Own → Prop)
  (h0 : Cons H O → ∃ H1 O1, Ghost H O H1 O1 ∧ R 0 x0 H1 O1) (step : ∀ i x H' O', i ≤ n → Heap.le H H' → R i x H' O' → (body (Back (IY n R) (MY n) (n - i)) [x, iV i]).den P Q H' O') :
  (Tree.loop lab key [x0, iV 0] body).den P Q H O := by
 refine ⟨IY n R, MY n, fun hc => ?_, ?_⟩
 ·obtain ⟨H1, O1, g, r⟩ := h0 hc
  exact ⟨H1, O1, g, 0, x0, rfl, Nat.zero_le _, r⟩
 ·rintro vs H' O' _ _ hle ⟨i, x, rfl, hi, hr⟩
  exact step i x H' O' hi hle hr
theorem r_Out {H : Heap} {v : BV12} {b : Bd} (h : BdS H v b) (hB : bdB b) (id : Int) : Triple PP F_zeitnotref15_Out [.agg (boardC v b).toArray, iV id] H [] fun r H' O' => (∃ w, r = .agg (boardC w (outR b id)).toArray ∧ BdS H' w (outR b id)) ∧ O' = [] := by
 refine run_zeitnotref15_Out (vs := boardC v b ++ [iV id]) (by kernel_rfl) (ones_app (boardC_ones (h.r [])) ⟨rfl, trivial⟩) ?_
 simp only [T_zeitnotref15_Out]
 have hB' := hB
 obtain ⟨b1, ⟨b2, b3, b4, b5⟩, ⟨b6, b7, b8, b9⟩, ⟨b10, b10'⟩, b11, b12, b13⟩ := hB
 refine newbox_den fun r0 => newbox_den fun r1 => ?_
 repeat (first | refine chkN_den ?_ | refine chkV_den ?_)
 refine call_new (Triple.frozen (r_Copy h hB')) ?_
 rintro _ H1 _ ⟨⟨w, rfl, hw⟩, rfl⟩ l1
 refine ⟨boardC w b, rfl, boardC_ones (hw.r []), ?_⟩
 repeat (first | refine chkN_den ?_ | refine chkV_den ?_)
 refine call_new (r_Without hw.s0.lib b2 id) ?_
 rintro x0 K0 _ ⟨z0, rfl⟩ j0
 refine ⟨[x0], rfl, ⟨z0.one, trivial⟩, ?_⟩
 replace hw := hw.le j0
 repeat (first | refine chkN_den ?_ | refine chkV_den ?_)
 refine call_new (r_Without hw.s0.hand b3 id) ?_
 rintro x1 K1 _ ⟨z1, rfl⟩ j1
 refine ⟨[x1], rfl, ⟨z1.one, trivial⟩, ?_⟩
 replace hw := hw.le j1
 replace z0 := z0.le j1
 repeat (first | refine chkN_den ?_ | refine chkV_den ?_)
 refine call_new (r_Without hw.s0.field b4 id) ?_
 rintro x2 K2 _ ⟨z2, rfl⟩ j2
 refine ⟨[x2], rfl, ⟨z2.one, trivial⟩, ?_⟩
 replace hw := hw.le j2
 replace z0 := z0.le j2
 replace z1 := z1.le j2
 repeat (first | refine chkN_den ?_ | refine chkV_den ?_)
 refine call_new (r_Without hw.s0.grave b5 id) ?_
 rintro x3 K3 _ ⟨z3, rfl⟩ j3
 refine ⟨[x3], rfl, ⟨z3.one, trivial⟩, ?_⟩
 replace hw := hw.le j3
 replace z0 := z0.le j3
 replace z1 := z1.le j3
 replace z2 := z2.le j3
 repeat (first | refine chkN_den ?_ | refine chkV_den ?_)
 refine call_new (r_Without hw.s1.lib b6 id) ?_
 rintro x4 K4 _ ⟨z4, rfl⟩ j4
 refine ⟨[x4], rfl, ⟨z4.one, trivial⟩, ?_⟩
 replace hw := hw.le j4
 replace z0 := z0.le j4
 replace z1 := z1.le j4
 replace z2 := z2.le j4
 replace z3 := z3.le j4
 repeat (first | refine chkN_den ?_ | refine chkV_den ?_)
 refine call_new (r_Without hw.s1.hand b7 id) ?_
 rintro x5 K5 _ ⟨z5, rfl⟩ j5
 refine ⟨[x5], rfl, ⟨z5.one, trivial⟩, ?_⟩
 replace hw := hw.le j5
 replace z0 := z0.le j5
 replace z1 := z1.le j5
 replace z2 := z2.le j5
 replace z3 := z3.le j5
 replace z4 := z4.le j5
 repeat (first | refine chkN_den ?_ | refine chkV_den ?_)
 refine call_new (r_Without hw.s1.field b8 id) ?_
 rintro x6 K6 _ ⟨z6, rfl⟩ j6
 refine ⟨[x6], rfl, ⟨z6.one, trivial⟩, ?_⟩
 replace hw := hw.le j6
 replace z0 := z0.le j6
 replace z1 := z1.le j6
 replace z2 := z2.le j6
 replace z3 := z3.le j6
 replace z4 := z4.le j6
 replace z5 := z5.le j6
 repeat (first | refine chkN_den ?_ | refine chkV_den ?_)
 refine call_new (r_Without hw.s1.grave b9 id) ?_
 rintro x7 K7 _ ⟨z7, rfl⟩ j7
 refine ⟨[x7], rfl, ⟨z7.one, trivial⟩, ?_⟩
 replace hw := hw.le j7
 replace z0 := z0.le j7
 replace z1 := z1.le j7
 replace z2 := z2.le j7
 replace z3 := z3.le j7
 replace z4 := z4.le j7
 replace z5 := z5.le j7
 replace z6 := z6.le j7
 have hsl := ItsR.len (hw.r []).stack
 have hsone := ItsR.one (hw.r []).stack
 obtain ⟨rows, hs, hrl, hit⟩ := hw.stack
 repeat (first | refine chkN_den ?_ | refine chkV_den ?_)
 refine countY_den b.stack.length (fun i x H' O' => Heap.le K7 H' ∧ OSl Ty_api_Item 5 x ((rows.take i).filter fun r => !prR id r) O') ⟨Heap.le_refl _, OSl.nil _ _⟩ ?_
 rintro i x H' O' hi - ⟨hle, hx⟩
 repeat (first | refine chkN_den ?_ | refine chkV_den ?_)
 refine pure_den _ hsl (pure_den _ (lss_eq _ _) (br_den (fun hb => ?_) (fun hb => ?_)))
 ·have hlt : i < b.stack.length := by simpa using hb
  have hlt2 : i < rows.length := by omega
  obtain ⟨s, hrow, hst⟩ := hit i rows[i] b.stack[i] (List.getElem?_eq_getElem hlt2) (List.getElem?_eq_getElem hlt)
  obtain ⟨a, h1, h2, h3, h4⟩ := (hs.le hle).idx (k := .i64) (i := i) (List.getElem?_eq_getElem hlt2)
  have hpr : prR id rows[i] = onR id b.stack[i] := by
   rw [hrow]
   show ((some b.stack[i].trig == some (-1)) && (some b.stack[i].id == some id)) = onR id b.stack[i]
   simp [onR]
  have hft := filter_take (p := fun r => !prR id r) hlt2
  simp only [hpr] at hft
  rw [hrow] at h2 h3 h4
  repeat (first | refine chkN_den ?_ | refine chkV_den ?_)
  refine pure_den _ h1 (load_den h2 h3 h4 (newbox_den fun r2 => ?_))
  repeat (first | refine chkN_den ?_ | refine chkV_den ?_ | refine newbox_den fun _ => ?_ | refine pure_den _ (lss_eq _ _) ?_ | refine pure_den _ (gtr_eq _ _) ?_ | refine pure_den _ (leq_eq _ _) ?_ | refine pure_den _ (geq_eq _ _) ?_ | refine pure_den _ (eql_eq _ _) ?_ | refine pure_den _ (neq_eq _ _) ?_ | refine pure_den _ (pick_and _ _) ?_ | refine pure_den _ (pick_or _ _) ?_ | refine pure_den _ (not_eq' _) ?_ | refine pure_den _ (beql_eq _ _) ?_ | refine pure_den _ (bneq_eq _ _) ?_)
  have hcond : (b.stack[i].trig != -1 || b.stack[i].id != id) = !onR id b.stack[i] := by
   simp only [onR, bne, Bool.not_and]
  refine br_den (fun hc => ?_) (fun hc => ?_)
  ·have hc : (b.stack[i].trig != -1 || b.stack[i].id != id) = true := hc
   rw [hcond] at hc
   have hw1 : ((rows.take i).filter fun r => !prR id r).length ≤ 1000000 := Nat.le_trans (List.length_filter_le _ _) (by rw [List.length_take]; omega)
   repeat (first | refine chkN_den ?_ | refine chkV_den ?_)
   refine newbox_den fun r3 => ?_
   repeat (first | refine chkN_den ?_ | refine chkV_den ?_)
   refine call_append (rows := (rows.take i).filter fun r => !prR id r) (news := [[iV b.stack[i].player, iV b.stack[i].id, iV b.stack[i].card, iV b.stack[i].trig, s]]) (O1 := O') (O2 := []) (e := Ty_api_Item) (size := 5) (bytes := 56) (by kernel_rfl) (by simp) hx
    (fun Hf _ hf => Sl.block1 (hf _ List.mem_cons_self) rfl h4) (by simp; omega) (by simp; omega) ?_
   intro v' A' H6 l6 hA'
   refine pure_den _ (add_one (by omega)) (countY_cont (by simp [Eqs]) hlt ⟨Heap.le_trans hle l6, ?_⟩)
   rw [List.append_nil, hft, if_pos hc, hrow]; exact hA'
  ·have hc : (b.stack[i].trig != -1 || b.stack[i].id != id) = false := hc
   rw [hcond] at hc
   repeat (first | refine chkN_den ?_ | refine chkV_den ?_)
   refine pure_den _ (add_one (by omega)) (countY_cont (by simp [Eqs]) hlt ⟨hle, ?_⟩)
   rw [hft, if_neg (by rw [hc]; simp), List.append_nil]; exact hx
 have hge : b.stack.length ≤ i := by simpa using hb
 rw [List.take_of_length_le (by omega)] at hx
 clear hb
 have hbl : evalPure .len [w.b] = some (iV b.blocks.length) := by have := hw.blocks.len; rwa [List.length_map] at this
 repeat (first | refine chkN_den ?_ | refine chkV_den ?_)
 refine countY_denG b.blocks.length (fun j y H2 O2 => Heap.le H' H2 ∧ Sl H2 5 x (rows.filter fun r => !prR id r) ∧ OSl Ty_api_Block 2 y (((b.blocks.take j).filter fun x => !inFight id x).map Bl.row) O2) (fun hc => ?_) ?_
 ·obtain ⟨H2, g, k, l2⟩ := hx.freeze (X := []) (by simpa using hc)
  exact ⟨H2, [], by simpa using g, l2, k, OSl.nil _ _⟩
 rintro j y H2 O2 hj - ⟨hle2, hxs, hy⟩
 repeat (first | refine chkN_den ?_ | refine chkV_den ?_)
 refine pure_den _ hbl (pure_den _ (lss_eq _ _) (br_den (fun hb => ?_) (fun hb => ?_)))
 ·have hlt : j < b.blocks.length := by simpa using hb
  obtain ⟨a, h1, h2, h3, h4⟩ := (hw.blocks.le (Heap.le_trans hle hle2)).idx (k := .i64) (i := j) (r := Bl.row b.blocks[j]) (by simp [hlt])
  have hft := filter_take (p := fun x => !inFight id x) hlt
  repeat (first | refine chkN_den ?_ | refine chkV_den ?_)
  refine pure_den _ h1 (load_den h2 h3 h4 (newbox_den fun r2 => ?_))
  repeat (first | refine chkN_den ?_ | refine chkV_den ?_ | refine newbox_den fun _ => ?_ | refine pure_den _ (lss_eq _ _) ?_ | refine pure_den _ (gtr_eq _ _) ?_ | refine pure_den _ (leq_eq _ _) ?_ | refine pure_den _ (geq_eq _ _) ?_ | refine pure_den _ (eql_eq _ _) ?_ | refine pure_den _ (neq_eq _ _) ?_ | refine pure_den _ (pick_and _ _) ?_ | refine pure_den _ (pick_or _ _) ?_ | refine pure_den _ (not_eq' _) ?_ | refine pure_den _ (beql_eq _ _) ?_ | refine pure_den _ (bneq_eq _ _) ?_)
  have hcond : (b.blocks[j].blocker != id && b.blocks[j].attacker != id) = !inFight id b.blocks[j] := by
   simp only [inFight, bne, Bool.not_or]
  refine br_den (fun hc => ?_) (fun hc => ?_)
  ·have hc : (b.blocks[j].blocker != id && b.blocks[j].attacker != id) = true := hc
   rw [hcond] at hc
   have hw1 : ((b.blocks.take j).filter fun x => !inFight id x).length ≤ 1000000 := Nat.le_trans (List.length_filter_le _ _) (by rw [List.length_take]; omega)
   repeat (first | refine chkN_den ?_ | refine chkV_den ?_)
   refine newbox_den fun r3 => ?_
   repeat (first | refine chkN_den ?_ | refine chkV_den ?_)
   refine call_append (rows := ((b.blocks.take j).filter fun x => !inFight id x).map Bl.row) (news := [Bl.row b.blocks[j]]) (O1 := O2) (O2 := []) (e := Ty_api_Block) (size := 2) (bytes := 16) (by kernel_rfl) (by simp) hy
    (fun Hf _ hf => Sl.block1 (hf _ List.mem_cons_self) rfl h4) (by simp; omega) (by simp; omega) ?_
   intro v' A' H6 l6 hA'
   refine pure_den _ (add_one (by omega)) (countY_cont (by simp [Eqs]) hlt ⟨Heap.le_trans hle2 l6, hxs.le l6, ?_⟩)
   rw [List.append_nil, hft, if_pos hc, List.map_append]; exact hA'
  ·have hc : (b.blocks[j].blocker != id && b.blocks[j].attacker != id) = false := hc
   rw [hcond] at hc
   repeat (first | refine chkN_den ?_ | refine chkV_den ?_)
   refine pure_den _ (add_one (by omega)) (countY_cont (by simp [Eqs]) hlt ⟨hle2, hxs, ?_⟩)
   rw [hft, if_neg (by rw [hc]; simp), List.append_nil]; exact hy
 have hge2 : b.blocks.length ≤ j := by simpa using hb
 rw [List.take_of_length_le hge2] at hy
 have lz := Heap.le_trans hle hle2
 repeat (first | refine chkN_den ?_ | refine chkV_den ?_)
 refine call_new (r_Without (hw.att.le lz) b12 id) ?_
 rintro x8 K8 _ ⟨z8, rfl⟩ j8
 refine ⟨[x8], rfl, ⟨z8.one, trivial⟩, ?_⟩
 have lz8 := Heap.le_trans lz j8
 repeat (first | refine chkN_den ?_ | refine chkV_den ?_)
 intro hc
 obtain ⟨H9, g9, k9, l9⟩ := hy.freeze (X := []) (hc.perm (by simp))
 have lz9 := Heap.le_trans lz8 l9
 obtain ⟨f1, f2⟩ := filter2 (p := fun r => !prR id r) (q := fun x => !onR id x) (R := fun r (x : It) => ∃ s, r = [iV x.player, iV x.id, iV x.card, iV x.trig, s] ∧ Sl H9 2 s (x.tgs.map Tg.row)) (fun r x ⟨s, e, _⟩ => by
  rw [e]
  show (!((some x.trig == some (-1)) && (some x.id == some id))) = !onR id x
  simp [onR]) rows b.stack hrl fun i r x a c => by
   obtain ⟨s, e, k⟩ := hit i r x a c
   exact ⟨s, e, k.le lz9⟩
 refine ⟨H9, [], (Ghost.perm (by simp)).trans g9, ⟨⟨w.o, x0, x1, x2, x3, x4, x5, x6, x7, x, w.q, x8, y⟩, rfl, ?_⟩, rfl⟩
 exact ⟨hw.objs.le lz9, ⟨z0.le lz9, z1.le lz9, z2.le lz9, z3.le lz9⟩, ⟨z4.le lz9, z5.le lz9, z6.le lz9, z7.le lz9⟩, ⟨_, hxs.le (Heap.le_trans j8 l9), f1, f2⟩, hw.queue.le lz9, z8.le l9, k9⟩
theorem r_Put {H : Heap} {v : BV12} {b : Bd} (h : BdS H v b) (hB : bdB b) (o : Ob) (ho : o.owner = 0 ∨ o.owner = 1) (z : Int) : Triple PP F_zeitnotref15_Put [.agg (boardC v b).toArray, .agg o.row.toArray, iV z] H [] fun r H' O' => (∃ w, r = .agg (boardC w (putB b o.owner z o.id)).toArray ∧ BdS H' w (putB b o.owner z o.id)) ∧ O' = [] := by
 refine run_zeitnotref15_Put (vs := boardC v b ++ (o.row ++ [iV z])) (by kernel_rfl) (ones_app (boardC_ones (h.r [])) (ones_app (ob_ones o) ⟨rfl, trivial⟩)) ?_
 simp only [T_zeitnotref15_Put]
 obtain ⟨b1, ⟨b2, b3, b4, b5⟩, ⟨b6, b7, b8, b9⟩, _⟩ := hB
 refine newbox_den fun r0 => newbox_den fun r1 => newbox_den fun r2 => ?_
 repeat (first | refine chkN_den ?_ | refine chkV_den ?_)
 have el : g (boardC v b ++ (o.row ++ [iV z])) 40 = iV o.owner := rfl
 rw [el]
 rcases ho with ho | ho
 ·rw [ho]
  refine ⟨.i64, 0, rfl, fun _ => ?_, fun e => absurd rfl e⟩
  repeat (first | refine chkN_den ?_ | refine chkV_den ?_)
  refine pure_den _ (eql_eq _ _) (br_den (fun hb => ?_) (fun n0 => ?_))
  ·have hz : z = 0 := by simpa using hb
   subst hz
   repeat (first | refine chkN_den ?_ | refine chkV_den ?_)
   refine app_new (e := Ty_int) (size := 1) (bytes := 8) (by kernel_rfl) h.s0.lib (by simp [ints]; omega) (by simp [ints]; omega) fun xa Oa H1 lA pa => ?_
   refine newbox_den fun r3 => ?_
   repeat (first | refine chkN_den ?_ | refine chkV_den ?_)
   refine call_append (rows := ints b.s0.lib) (news := [[iV o.id]]) (O1 := Oa) (O2 := []) (e := Ty_int) (size := 1) (bytes := 8) (by kernel_rfl) (by simp) pa (fun Hf _ hf => Sl.block1 (hf _ List.mem_cons_self) rfl ⟨rfl, trivial⟩) (by simp [ints]; omega) (by simp [ints]; omega) ?_
   intro v' A' H6 l6 hA'
   have hA2 : OSl Ty_int 1 v' (ints (b.s0.lib ++ [o.id])) A' := by rw [ints, List.map_append]; exact hA'
   repeat (first | refine chkN_den ?_ | refine chkV_den ?_)
   intro hc
   obtain ⟨H9, g9, kz, l9⟩ := hA2.freeze (X := []) (hc.perm (by simp))
   have lz := Heap.le_trans lA (Heap.le_trans l6 l9)
   exact ⟨H9, [], (Ghost.perm (by simp)).trans g9, ⟨{ v with l0 := v' }, rfl, ⟨(h.le lz).objs, ⟨kz, (h.le lz).s0.hand, (h.le lz).s0.field, (h.le lz).s0.grave⟩, (h.le lz).s1, (h.le lz).stack, (h.le lz).queue, (h.le lz).att, (h.le lz).blocks⟩⟩, rfl⟩
  repeat (first | refine chkN_den ?_ | refine chkV_den ?_)
  refine pure_den _ (eql_eq _ _) (br_den (fun hb => ?_) (fun n1 => ?_))
  ·have hz : z = 1 := by simpa using hb
   subst hz
   repeat (first | refine chkN_den ?_ | refine chkV_den ?_)
   refine app_new (e := Ty_int) (size := 1) (bytes := 8) (by kernel_rfl) h.s0.hand (by simp [ints]; omega) (by simp [ints]; omega) fun xa Oa H1 lA pa => ?_
   refine newbox_den fun r3 => ?_
   repeat (first | refine chkN_den ?_ | refine chkV_den ?_)
   refine call_append (rows := ints b.s0.hand) (news := [[iV o.id]]) (O1 := Oa) (O2 := []) (e := Ty_int) (size := 1) (bytes := 8) (by kernel_rfl) (by simp) pa (fun Hf _ hf => Sl.block1 (hf _ List.mem_cons_self) rfl ⟨rfl, trivial⟩) (by simp [ints]; omega) (by simp [ints]; omega) ?_
   intro v' A' H6 l6 hA'
   have hA2 : OSl Ty_int 1 v' (ints (b.s0.hand ++ [o.id])) A' := by rw [ints, List.map_append]; exact hA'
   repeat (first | refine chkN_den ?_ | refine chkV_den ?_)
   intro hc
   obtain ⟨H9, g9, kz, l9⟩ := hA2.freeze (X := []) (hc.perm (by simp))
   have lz := Heap.le_trans lA (Heap.le_trans l6 l9)
   exact ⟨H9, [], (Ghost.perm (by simp)).trans g9, ⟨{ v with h0 := v' }, rfl, ⟨(h.le lz).objs, ⟨(h.le lz).s0.lib, kz, (h.le lz).s0.field, (h.le lz).s0.grave⟩, (h.le lz).s1, (h.le lz).stack, (h.le lz).queue, (h.le lz).att, (h.le lz).blocks⟩⟩, rfl⟩
  repeat (first | refine chkN_den ?_ | refine chkV_den ?_)
  refine pure_den _ (eql_eq _ _) (br_den (fun hb => ?_) (fun n2 => ?_))
  ·have hz : z = 2 := by simpa using hb
   subst hz
   repeat (first | refine chkN_den ?_ | refine chkV_den ?_)
   refine app_new (e := Ty_int) (size := 1) (bytes := 8) (by kernel_rfl) h.s0.field (by simp [ints]; omega) (by simp [ints]; omega) fun xa Oa H1 lA pa => ?_
   refine newbox_den fun r3 => ?_
   repeat (first | refine chkN_den ?_ | refine chkV_den ?_)
   refine call_append (rows := ints b.s0.field) (news := [[iV o.id]]) (O1 := Oa) (O2 := []) (e := Ty_int) (size := 1) (bytes := 8) (by kernel_rfl) (by simp) pa (fun Hf _ hf => Sl.block1 (hf _ List.mem_cons_self) rfl ⟨rfl, trivial⟩) (by simp [ints]; omega) (by simp [ints]; omega) ?_
   intro v' A' H6 l6 hA'
   have hA2 : OSl Ty_int 1 v' (ints (b.s0.field ++ [o.id])) A' := by rw [ints, List.map_append]; exact hA'
   repeat (first | refine chkN_den ?_ | refine chkV_den ?_)
   intro hc
   obtain ⟨H9, g9, kz, l9⟩ := hA2.freeze (X := []) (hc.perm (by simp))
   have lz := Heap.le_trans lA (Heap.le_trans l6 l9)
   exact ⟨H9, [], (Ghost.perm (by simp)).trans g9, ⟨{ v with f0 := v' }, rfl, ⟨(h.le lz).objs, ⟨(h.le lz).s0.lib, (h.le lz).s0.hand, kz, (h.le lz).s0.grave⟩, (h.le lz).s1, (h.le lz).stack, (h.le lz).queue, (h.le lz).att, (h.le lz).blocks⟩⟩, rfl⟩
  repeat (first | refine chkN_den ?_ | refine chkV_den ?_)
  refine pure_den _ (eql_eq _ _) (br_den (fun hb => ?_) (fun n3 => ?_))
  ·have hz : z = 3 := by simpa using hb
   subst hz
   repeat (first | refine chkN_den ?_ | refine chkV_den ?_)
   refine app_new (e := Ty_int) (size := 1) (bytes := 8) (by kernel_rfl) h.s0.grave (by simp [ints]; omega) (by simp [ints]; omega) fun xa Oa H1 lA pa => ?_
   refine newbox_den fun r3 => ?_
   repeat (first | refine chkN_den ?_ | refine chkV_den ?_)
   refine call_append (rows := ints b.s0.grave) (news := [[iV o.id]]) (O1 := Oa) (O2 := []) (e := Ty_int) (size := 1) (bytes := 8) (by kernel_rfl) (by simp) pa (fun Hf _ hf => Sl.block1 (hf _ List.mem_cons_self) rfl ⟨rfl, trivial⟩) (by simp [ints]; omega) (by simp [ints]; omega) ?_
   intro v' A' H6 l6 hA'
   have hA2 : OSl Ty_int 1 v' (ints (b.s0.grave ++ [o.id])) A' := by rw [ints, List.map_append]; exact hA'
   repeat (first | refine chkN_den ?_ | refine chkV_den ?_)
   intro hc
   obtain ⟨H9, g9, kz, l9⟩ := hA2.freeze (X := []) (hc.perm (by simp))
   have lz := Heap.le_trans lA (Heap.le_trans l6 l9)
   exact ⟨H9, [], (Ghost.perm (by simp)).trans g9, ⟨{ v with g0 := v' }, rfl, ⟨(h.le lz).objs, ⟨(h.le lz).s0.lib, (h.le lz).s0.hand, (h.le lz).s0.field, kz⟩, (h.le lz).s1, (h.le lz).stack, (h.le lz).queue, (h.le lz).att, (h.le lz).blocks⟩⟩, rfl⟩
  repeat (first | refine chkN_den ?_ | refine chkV_den ?_)
  have e : putB b 0 z o.id = b := by
   have n0 : ¬ z = 0 := by simpa using n0
   have n1 : ¬ z = 1 := by simpa using n1
   have n2 : ¬ z = 2 := by simpa using n2
   have n3 : ¬ z = 3 := by simpa using n3
   simp only [putB, putZ, n0, n1, n2, n3, if_false]
   rfl
  rw [e]
  exact ret_denO ⟨⟨v, rfl, h⟩, rfl⟩
 ·rw [ho]
  refine ⟨.i64, 1, rfl, fun e => absurd e (by omega), fun _ => ⟨.i64, 1, rfl, fun _ => ?_, fun e => absurd rfl e⟩⟩
  repeat (first | refine chkN_den ?_ | refine chkV_den ?_)
  refine pure_den _ (eql_eq _ _) (br_den (fun hb => ?_) (fun n0 => ?_))
  ·have hz : z = 0 := by simpa using hb
   subst hz
   repeat (first | refine chkN_den ?_ | refine chkV_den ?_)
   refine app_new (e := Ty_int) (size := 1) (bytes := 8) (by kernel_rfl) h.s1.lib (by simp [ints]; omega) (by simp [ints]; omega) fun xa Oa H1 lA pa => ?_
   refine newbox_den fun r3 => ?_
   repeat (first | refine chkN_den ?_ | refine chkV_den ?_)
   refine call_append (rows := ints b.s1.lib) (news := [[iV o.id]]) (O1 := Oa) (O2 := []) (e := Ty_int) (size := 1) (bytes := 8) (by kernel_rfl) (by simp) pa (fun Hf _ hf => Sl.block1 (hf _ List.mem_cons_self) rfl ⟨rfl, trivial⟩) (by simp [ints]; omega) (by simp [ints]; omega) ?_
   intro v' A' H6 l6 hA'
   have hA2 : OSl Ty_int 1 v' (ints (b.s1.lib ++ [o.id])) A' := by rw [ints, List.map_append]; exact hA'
   repeat (first | refine chkN_den ?_ | refine chkV_den ?_)
   intro hc
   obtain ⟨H9, g9, kz, l9⟩ := hA2.freeze (X := []) (hc.perm (by simp))
   have lz := Heap.le_trans lA (Heap.le_trans l6 l9)
   exact ⟨H9, [], (Ghost.perm (by simp)).trans g9, ⟨{ v with l1 := v' }, rfl, ⟨(h.le lz).objs, (h.le lz).s0, ⟨kz, (h.le lz).s1.hand, (h.le lz).s1.field, (h.le lz).s1.grave⟩, (h.le lz).stack, (h.le lz).queue, (h.le lz).att, (h.le lz).blocks⟩⟩, rfl⟩
  repeat (first | refine chkN_den ?_ | refine chkV_den ?_)
  refine pure_den _ (eql_eq _ _) (br_den (fun hb => ?_) (fun n1 => ?_))
  ·have hz : z = 1 := by simpa using hb
   subst hz
   repeat (first | refine chkN_den ?_ | refine chkV_den ?_)
   refine app_new (e := Ty_int) (size := 1) (bytes := 8) (by kernel_rfl) h.s1.hand (by simp [ints]; omega) (by simp [ints]; omega) fun xa Oa H1 lA pa => ?_
   refine newbox_den fun r3 => ?_
   repeat (first | refine chkN_den ?_ | refine chkV_den ?_)
   refine call_append (rows := ints b.s1.hand) (news := [[iV o.id]]) (O1 := Oa) (O2 := []) (e := Ty_int) (size := 1) (bytes := 8) (by kernel_rfl) (by simp) pa (fun Hf _ hf => Sl.block1 (hf _ List.mem_cons_self) rfl ⟨rfl, trivial⟩) (by simp [ints]; omega) (by simp [ints]; omega) ?_
   intro v' A' H6 l6 hA'
   have hA2 : OSl Ty_int 1 v' (ints (b.s1.hand ++ [o.id])) A' := by rw [ints, List.map_append]; exact hA'
   repeat (first | refine chkN_den ?_ | refine chkV_den ?_)
   intro hc
   obtain ⟨H9, g9, kz, l9⟩ := hA2.freeze (X := []) (hc.perm (by simp))
   have lz := Heap.le_trans lA (Heap.le_trans l6 l9)
   exact ⟨H9, [], (Ghost.perm (by simp)).trans g9, ⟨{ v with h1 := v' }, rfl, ⟨(h.le lz).objs, (h.le lz).s0, ⟨(h.le lz).s1.lib, kz, (h.le lz).s1.field, (h.le lz).s1.grave⟩, (h.le lz).stack, (h.le lz).queue, (h.le lz).att, (h.le lz).blocks⟩⟩, rfl⟩
  repeat (first | refine chkN_den ?_ | refine chkV_den ?_)
  refine pure_den _ (eql_eq _ _) (br_den (fun hb => ?_) (fun n2 => ?_))
  ·have hz : z = 2 := by simpa using hb
   subst hz
   repeat (first | refine chkN_den ?_ | refine chkV_den ?_)
   refine app_new (e := Ty_int) (size := 1) (bytes := 8) (by kernel_rfl) h.s1.field (by simp [ints]; omega) (by simp [ints]; omega) fun xa Oa H1 lA pa => ?_
   refine newbox_den fun r3 => ?_
   repeat (first | refine chkN_den ?_ | refine chkV_den ?_)
   refine call_append (rows := ints b.s1.field) (news := [[iV o.id]]) (O1 := Oa) (O2 := []) (e := Ty_int) (size := 1) (bytes := 8) (by kernel_rfl) (by simp) pa (fun Hf _ hf => Sl.block1 (hf _ List.mem_cons_self) rfl ⟨rfl, trivial⟩) (by simp [ints]; omega) (by simp [ints]; omega) ?_
   intro v' A' H6 l6 hA'
   have hA2 : OSl Ty_int 1 v' (ints (b.s1.field ++ [o.id])) A' := by rw [ints, List.map_append]; exact hA'
   repeat (first | refine chkN_den ?_ | refine chkV_den ?_)
   intro hc
   obtain ⟨H9, g9, kz, l9⟩ := hA2.freeze (X := []) (hc.perm (by simp))
   have lz := Heap.le_trans lA (Heap.le_trans l6 l9)
   exact ⟨H9, [], (Ghost.perm (by simp)).trans g9, ⟨{ v with f1 := v' }, rfl, ⟨(h.le lz).objs, (h.le lz).s0, ⟨(h.le lz).s1.lib, (h.le lz).s1.hand, kz, (h.le lz).s1.grave⟩, (h.le lz).stack, (h.le lz).queue, (h.le lz).att, (h.le lz).blocks⟩⟩, rfl⟩
  repeat (first | refine chkN_den ?_ | refine chkV_den ?_)
  refine pure_den _ (eql_eq _ _) (br_den (fun hb => ?_) (fun n3 => ?_))
  ·have hz : z = 3 := by simpa using hb
   subst hz
   repeat (first | refine chkN_den ?_ | refine chkV_den ?_)
   refine app_new (e := Ty_int) (size := 1) (bytes := 8) (by kernel_rfl) h.s1.grave (by simp [ints]; omega) (by simp [ints]; omega) fun xa Oa H1 lA pa => ?_
   refine newbox_den fun r3 => ?_
   repeat (first | refine chkN_den ?_ | refine chkV_den ?_)
   refine call_append (rows := ints b.s1.grave) (news := [[iV o.id]]) (O1 := Oa) (O2 := []) (e := Ty_int) (size := 1) (bytes := 8) (by kernel_rfl) (by simp) pa (fun Hf _ hf => Sl.block1 (hf _ List.mem_cons_self) rfl ⟨rfl, trivial⟩) (by simp [ints]; omega) (by simp [ints]; omega) ?_
   intro v' A' H6 l6 hA'
   have hA2 : OSl Ty_int 1 v' (ints (b.s1.grave ++ [o.id])) A' := by rw [ints, List.map_append]; exact hA'
   repeat (first | refine chkN_den ?_ | refine chkV_den ?_)
   intro hc
   obtain ⟨H9, g9, kz, l9⟩ := hA2.freeze (X := []) (hc.perm (by simp))
   have lz := Heap.le_trans lA (Heap.le_trans l6 l9)
   exact ⟨H9, [], (Ghost.perm (by simp)).trans g9, ⟨{ v with g1 := v' }, rfl, ⟨(h.le lz).objs, (h.le lz).s0, ⟨(h.le lz).s1.lib, (h.le lz).s1.hand, (h.le lz).s1.field, kz⟩, (h.le lz).stack, (h.le lz).queue, (h.le lz).att, (h.le lz).blocks⟩⟩, rfl⟩
  repeat (first | refine chkN_den ?_ | refine chkV_den ?_)
  have e : putB b 1 z o.id = b := by
   have n0 : ¬ z = 0 := by simpa using n0
   have n1 : ¬ z = 1 := by simpa using n1
   have n2 : ¬ z = 2 := by simpa using n2
   have n3 : ¬ z = 3 := by simpa using n3
   simp only [putB, putZ, n0, n1, n2, n3, if_false]
   rfl
  rw [e]
  exact ret_denO ⟨⟨v, rfl, h⟩, rfl⟩
theorem outR_B {b : Bd} (h : bdB b) (id : Int) : bdB (outR b id) := by
 have := outB_B h id
 exact ⟨this.1, this.2.1, this.2.2.1, ⟨Nat.le_trans (List.length_filter_le _ _) h.2.2.2.1.1, fun x hx => h.2.2.2.1.2 x (List.mem_filter.1 hx).1⟩, this.2.2.2.2⟩
theorem setOb_B {b : Bd} (h : bdB b) (k : Nat) (o : Ob) : bdB (setOb b k o) := ⟨by simpa [setOb] using h.1, h.2⟩
/-- The reference's move. -/
def moveR (b : Bd) (k : Nat) (o : Ob) (z : Int) : Bd := putB (setOb (outR b o.id) k o) o.owner z o.id
theorem r_Move {H : Heap} {v : BV12} {b : Bd} (h : BdS H v b) (hB : bdB b) {k : Nat} {o : Ob} (hk : b.objs[k]? = some o) (hidx : idxO b o.id = k) (ho : o.owner = 0 ∨ o.owner = 1) (z : Int) :
  Triple PP F_zeitnotref15_Move [.agg (boardC v b).toArray, iV o.id, iV z] H [] fun r H' O' => (∃ w, r = .agg (boardC w (moveR b k (resetO o z) z)).toArray ∧ BdS H' w (moveR b k (resetO o z) z)) ∧ O' = [] := by
 refine run_zeitnotref15_Move (vs := boardC v b ++ [iV o.id, iV z]) (by kernel_rfl) (ones_app (boardC_ones (h.r [])) ⟨rfl, rfl, trivial⟩) ?_
 simp only [T_zeitnotref15_Move]
 refine newbox_den fun r0 => newbox_den fun r1 => ?_
 repeat (first | refine chkN_den ?_ | refine chkV_den ?_)
 refine call_retO (r_Index (h.r []) o.id) rfl ⟨rfl, trivial⟩ fun H1 l1 => ?_
 rw [hidx]
 replace h := h.le l1
 obtain ⟨a, h1, h2, _, h3, h4⟩ := (h.r []).objs.idx .i64 k (Ob.row o) (by rw [List.getElem?_map, hk]; rfl)
 repeat (first | refine chkN_den ?_ | refine chkV_den ?_)
 refine pure_den _ h1 (load_denR h2 h3 h4 ?_)
 repeat (first | refine chkN_den ?_ | refine chkV_den ?_)
 refine call_retO (r_Reset o z H1 []) rfl (vs := (resetO o z).row) (ob_ones _) fun H2 l2 => newbox_den fun r2 => ?_
 replace h := h.le l2
 repeat (first | refine chkN_den ?_ | refine chkV_den ?_)
 refine call_new (r_Out h hB o.id) ?_
 rintro _ H3 _ ⟨⟨w1, rfl, hw1⟩, rfl⟩ l3
 refine ⟨boardC w1 (outR b o.id), rfl, boardC_ones (hw1.r []), ?_⟩
 have hB1 := outR_B hB o.id
 repeat (first | refine chkN_den ?_ | refine chkV_den ?_)
 refine call_new (r_Set hw1 hB1 (resetO o z)) ?_
 have hset : setR (outR b o.id) (resetO o z) = setOb (outR b o.id) k (resetO o z) := by
  have : idxO (outR b o.id) (resetO o z).id = k := hidx
  simp only [setR, this, Int.toNat_natCast]
  rw [if_pos (by omega)]
 rw [hset]
 rintro _ H4 _ ⟨⟨w2, rfl, hw2⟩, rfl⟩ l4
 refine ⟨boardC w2 (setOb (outR b o.id) k (resetO o z)), rfl, boardC_ones (hw2.r []), ?_⟩
 repeat (first | refine chkN_den ?_ | refine chkV_den ?_)
 refine call_new (r_Put hw2 (setOb_B hB1 _ _) (resetO o z) ho z) ?_
 rintro _ H5 _ ⟨⟨w3, rfl, hw3⟩, rfl⟩ l5
 refine ⟨boardC w3 _, rfl, boardC_ones (hw3.r []), ?_⟩
 repeat (first | refine chkN_den ?_ | refine chkV_den ?_)
 exact ret_denO ⟨⟨w3, rfl, hw3⟩, rfl⟩
end Go.Proofs.YtieaihgbjikggaaGreat
namespace Go.Proofs.YtieaihgbjikggaaGreat
open Go Go.Sx
set_option maxRecDepth 100000
set_option maxHeartbeats 1000000
end Go.Proofs.YtieaihgbjikggaaGreat
namespace Go.Proofs.YtieaihgbjikggaaGreat
open Go Go.Sx
set_option maxRecDepth 100000
set_option maxHeartbeats 1000000
end Go.Proofs.YtieaihgbjikggaaGreat
namespace Go.Proofs.YtieaihgbjikggaaGreat
open Go Go.Sx
set_option maxRecDepth 100000
set_option maxHeartbeats 1000000
end Go.Proofs.YtieaihgbjikggaaGreat
namespace Go.Proofs.YtieaihgbjikggaaGreat
open Go Go.Sx
set_option maxRecDepth 100000
set_option maxHeartbeats 1000000
end Go.Proofs.YtieaihgbjikggaaGreat
namespace Go.Proofs.YtieaihgbjikggaaGreat
open Go Go.Sx
set_option maxRecDepth 100000
set_option maxHeartbeats 1000000
end Go.Proofs.YtieaihgbjikggaaGreat
namespace Go.Proofs.YtieaihgbjikggaaGreat
open Go Go.Sx
set_option maxRecDepth 100000
set_option maxHeartbeats 1000000
end Go.Proofs.YtieaihgbjikggaaGreat
