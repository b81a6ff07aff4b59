/- What a call of 'known' hands back. -/
import Derived.Test.YtbaegnnmedjkmaaKN
import Derived.Test.YtbaegnnmedjkmaaC21
import Derived.Test.YtbaegnnmedjkmaaP1
import Derived.Shelf.GgSortFunc.InsertionK
namespace Go.Proofs.Ytbaegnnmedjkmaa
open Go Go.Sx
set_option maxRecDepth 100000
set_option maxHeartbeats 1000000
end Go.Proofs.Ytbaegnnmedjkmaa
namespace Go.Proofs.Ytbaegnnmedjkmaa
open Go Go.Sx
set_option maxRecDepth 100000
set_option maxHeartbeats 1000000
theorem small_B {b : Bd} (h : smallBd b = true) : bdB b := by
 simp only [smallBd, stSmall, itsSmall, Bool.and_eq_true, Bool.not_eq_true', decide_eq_true_eq, decide_eq_false_iff_not, List.all_eq_true] at h
 obtain ⟨⟨a1, a2, a3, a4⟩, ⟨a5, a6, a7, a8⟩, ⟨a9, a10⟩, ⟨a11, a12⟩, ⟨a13, a14⟩, a15⟩ := h
 refine ⟨by omega, ⟨by omega, by omega, by omega, by omega⟩, ⟨by omega, by omega, by omega, by omega⟩, ⟨by omega, fun x hx => ?_⟩, ⟨by omega, fun x hx => ?_⟩, by omega, by omega⟩
 ·have := a10 x hx; omega
 ·have := a12 x hx; omega
end Go.Proofs.Ytbaegnnmedjkmaa
namespace Go.Proofs.Ytbaegnnmedjkmaa
open Go Go.Sx
set_option maxRecDepth 100000
set_option maxHeartbeats 1000000
def setR (b : Bd) (o : Ob) : Bd := if 0 ≤ idxO b o.id then setOb b (idxO b o.id).toNat o else b
theorem r_SetO {H : Heap} {v : BV12} {b : Bd} (h : BdS H v b) (hB : bdB b) (o : Ob) : Triple PP F_zeitnotref15_Set [.agg (boardC v b).toArray, .agg o.row.toArray] H [] fun r _ O' => ∃ w, r = .agg (boardC w (setR b o)).toArray ∧ OwnB tys w (setR b o) O' := by
 refine run_zeitnotref15_Set (vs := boardC v b ++ o.row) (by kernel_rfl) (ones_app (boardC_ones (h.r [])) (ob_ones o)) ?_
 simp only [T_zeitnotref15_Set]
 refine newbox_den fun r0 => newbox_den fun r1 => newbox_den fun r2 => ?_
 repeat (first | refine chkN_den ?_ | refine chkV_den ?_)
 refine call_new (r_Copy h hB) ?_
 rintro _ H3 O3 ⟨w, rfl, ho⟩ l3
 refine ⟨boardC w b, rfl, ownB_ones H3 ho, ?_⟩
 repeat (first | refine chkN_den ?_ | refine chkV_den ?_)
 refine call_retO (r_Index (ho.r (fun p hp => List.mem_append_left _ hp) H3) o.id) rfl ⟨rfl, trivial⟩ fun H4 l4 => pure_den _ (geq_eq _ _) (br_den (fun hb => ?_) (fun hb => ?_))
 ·have hb := of_decide_eq_true hb
  obtain ⟨k, x, e1, e2, e3⟩ := idxO_some (b := b) (id := o.id) (by omega)
  have e : setR b o = setOb b k o := by simp [setR, e3]
  rw [e, e3]
  obtain ⟨a', q1, O1, q2, O2, q3, q4⟩ := OwnB.store_ob ho (X := []) (O' := O3 ++ []) (by simp) e1 o
  repeat (first | refine chkN_den ?_ | refine chkV_den ?_)
  refine pure_den _ q1 (chkP_den rfl ⟨_, q2, ?_⟩)
  repeat (first | refine chkN_den ?_ | refine chkV_den ?_)
  exact ret_denO ⟨w, rfl, OwnB.perm q4 (by simpa using q3)⟩
 ·have hb := of_decide_eq_false hb
  have e : setR b o = b := by rw [setR, if_neg (by omega)]
  rw [e]
  repeat (first | refine chkN_den ?_ | refine chkV_den ?_)
  exact ret_denO ⟨w, rfl, OwnB.perm ho (by simp)⟩
theorem r_Set {H : Heap} {v : BV12} {b : Bd} (h : BdS H v b) (hB : bdB b) (o : Ob) : Triple PP F_zeitnotref15_Set [.agg (boardC v b).toArray, .agg o.row.toArray] H [] fun r H' O' => (∃ w, r = .agg (boardC w (setR b o)).toArray ∧ BdS H' w (setR b o)) ∧ O' = [] :=
 Triple.frozen (r_SetO h hB o)
theorem onR_isOn {b : Bd} (h : validBd b = true) (id : Int) : ∀ x ∈ b.stack, onR id x = isOn id x := by
 intro x hx
 have hf := List.all_eq_true.1 (valid_parts h).2.2.2 x hx
 have ht := fine_trig hf
 simp only [onR, isOn]
 by_cases hn : x.trig < 0
 ·simp [ht hn]
 ·have : ¬ x.trig = -1 := by omega
  simp [hn, this]
end Go.Proofs.Ytbaegnnmedjkmaa
namespace Go.Proofs.Ytbaegnnmedjkmaa
open Go Go.Sx
set_option maxRecDepth 100000
set_option maxHeartbeats 1000000
theorem r_Rest (o : Ob) (H : Heap) (O : Own) : RetO PP F_zeitnotref14_Rest [.agg o.row.toArray] H O (.agg (restO o).row.toArray) := by
 refine run_zeitnotref14_Rest (vs := o.row) (by kernel_rfl) (ob_ones o) ?_
 simp only [T_zeitnotref14_Rest]
 refine newbox_den fun r0 => newbox_den fun r1 => ?_
 repeat (first | refine chkN_den ?_ | refine chkV_den ?_)
 exact ret_denO ⟨rfl, rfl⟩
theorem r_Reset (o : Ob) (z : Int) (H : Heap) (O : Own) : RetO PP F_zeitnotref14_Reset [.agg o.row.toArray, iV z] H O (.agg (resetO o z).row.toArray) := by
 refine run_zeitnotref14_Reset (vs := o.row ++ [iV z]) (by kernel_rfl) (ones_app (ob_ones o) ⟨rfl, trivial⟩) ?_
 simp only [T_zeitnotref14_Reset]
 refine newbox_den fun r0 => newbox_den fun r1 => ?_
 repeat (first | refine chkN_den ?_ | refine chkV_den ?_)
 refine call_retO (r_Rest o H O) rfl (vs := (restO o).row) (ob_ones _) fun H1 l1 => ?_
 repeat (first | refine chkN_den ?_ | refine chkV_den ?_)
 refine pure_den _ (eql_eq _ _) ?_
 repeat (first | refine chkN_den ?_ | refine chkV_den ?_)
 exact ret_denO ⟨rfl, rfl⟩
theorem without_take {l : List Int} {i : Nat} (h : i < l.length) (id : Int) : without (l.take (i + 1)) id = without (l.take i) id ++ (if l[i] != id then [l[i]] else []) := by
 rw [List.take_add_one, List.getElem?_eq_getElem h, without, List.filter_append]
 congr 1
 simp only [Option.toList_some, List.filter_cons, List.filter_nil]
theorem without_len (l : List Int) (id : Int) : (without l id).length ≤ l.length := List.length_filter_le _ _
theorem r_WithoutO {H : Heap} {v : Value} {l : List Int} (h : Sl H 1 v (ints l)) (hl : l.length ≤ 1000000) (id : Int) : Triple PP F_zeitnotref15_Without [v, iV id] H [] fun v' _ O' => OSl Ty_int 1 v' (ints (without l id)) O' := by
 refine run_zeitnotref15_Without (vs := [v, iV id]) (by kernel_rfl) ⟨h.one, rfl, trivial⟩ ?_
 simp only [T_zeitnotref15_Without]
 have hlen : evalPure .len [v] = some (iV l.length) := by have := h.len; rwa [ints, List.length_map] at this
 refine countY_den l.length (fun i x H' O' => Heap.le H H' ∧ OSl Ty_int 1 x (ints (without (l.take i) id)) O') ⟨Heap.le_refl _, OSl.nil _ _⟩ ?_
 rintro i x H' O' hi - ⟨hle, hx⟩
 repeat (first | refine chkN_den ?_ | refine chkV_den ?_)
 refine pure_den _ hlen (pure_den _ (lss_eq _ _) (br_den (fun hb => ?_) (fun hb => ?_)))
 ·have hlt : i < l.length := by simpa using hb
  obtain ⟨a, h1, h2, h3, h4⟩ := (h.le hle).idx (k := .i64) (i := i) (r := [iV l[i]]) (by simp [ints, hlt])
  refine pure_den _ h1 (load_den h2 h3 h4 (pure_den _ (neq_eq _ _) (br_den (fun hc => ?_) (fun hc => ?_))))
  ·refine pure_den _ h1 (load_den h2 h3 h4 (newbox_den fun r0 => ?_))
   have hw : (without (l.take i) id).length ≤ 1000000 := Nat.le_trans (without_len _ _) (by rw [List.length_take]; omega)
   repeat (first | refine chkN_den ?_ | refine chkV_den ?_)
   refine call_append (rows := ints (without (l.take i) id)) (news := [[iV l[i]]]) (O1 := O') (O2 := []) (e := Ty_int) (size := 1) (bytes := 8) (by kernel_rfl) (by simp) hx (fun Hf _ hf => Sl.block1 (hf _ List.mem_cons_self) rfl ⟨rfl, trivial⟩) (by simp [ints]; omega) (by simp [ints]; omega) ?_
   intro v' A' H6 l6 hA'
   refine pure_den _ (add_one (by omega)) (countY_cont (by simp [Eqs]) hlt ⟨Heap.le_trans hle l6, ?_⟩)
   rw [List.append_nil, without_take hlt, if_pos hc, ints, List.map_append]; exact hA'
  ·refine pure_den _ (add_one (by omega)) (countY_cont (by simp [Eqs]) hlt ⟨hle, ?_⟩)
   have hc : (l[i] != id) = false := hc
   rw [without_take hlt, if_neg (by rw [hc]; simp), List.append_nil]; exact hx
 ·have hge : l.length ≤ i := by simpa using hb
  rw [List.take_of_length_le hge] at hx
  exact ret_denO hx
theorem Triple.frozenS {P : Program} {f : FuncId} {args : List Value} {H : Heap} {e : TypeId} {size : Nat} {rows : List (List Value)} (h : Triple P f args H [] fun v _ O' => OSl e size v rows O') :
  Triple P f args H [] fun v H' O' => Sl H' size v rows ∧ O' = [] := by
 refine h.ghost ?_
 intro v H' O' _ hc ho
 obtain ⟨H'', g, k, _⟩ := ho.freeze (X := []) (by simpa using hc)
 exact ⟨H'', [], by simpa using g, k, rfl⟩
theorem r_Without {H : Heap} {v : Value} {l : List Int} (h : Sl H 1 v (ints l)) (hl : l.length ≤ 1000000) (id : Int) : Triple PP F_zeitnotref15_Without [v, iV id] H [] fun v' H' O' => Sl H' 1 v' (ints (without l id)) ∧ O' = [] :=
 Triple.frozenS (r_WithoutO h hl id)
def outR (b : Bd) (id : Int) : Bd := { outB b id with stack := b.stack.filter fun x => !onR id x }
def prR (id : Int) (row : List Value) : Bool := (asI (g row 3) == some (-1)) && asI (g row 1) == some id
theorem outR_eq {b : Bd} (h : validBd b = true) (id : Int) : outR b id = outB b id := by
 have : (b.stack.filter fun x => !onR id x) = b.stack.filter fun x => !isOn id x := List.filter_congr fun x hx => by rw [onR_isOn h id x hx]
 simp only [outR, outB, this]
theorem filter_take {α : Type} {p : α → Bool} {l : List α} {i : Nat} (h : i < l.length) : (l.take (i + 1)).filter p = (l.take i).filter p ++ (if p l[i] then [l[i]] else []) := by
 rw [List.take_add_one, List.getElem?_eq_getElem h, List.filter_append]
 congr 1
 simp only [Option.toList_some, List.filter_cons, List.filter_nil]
theorem countY_denG {P : Program} {lab key : Nat} {x0 : Value} {body : (List Value → Heap → Own → Prop) → List Value → Tree} {H : Heap} {O : Own} {Q : Value → Heap → Own → Prop} (n : Nat) (R : Nat → Value → Heap → Own → Prop)
  (h0 : Cons H O → ∃ H1 O1, Ghost H O H1 O1 ∧ R 0 x0 H1 O1) (step : ∀ i x H' O', i ≤ n → Heap.le H H' → R i x H' O' → (body (Back (IY n R) (MY n) (n - i)) [x, iV i]).den P Q H' O') :
  (Tree.loop lab key [x0, iV 0] body).den P Q H O := by
 refine ⟨IY n R, MY n, fun hc => ?_, ?_⟩
 ·obtain ⟨H1, O1, g, r⟩ := h0 hc
  exact ⟨H1, O1, g, 0, x0, rfl, Nat.zero_le _, r⟩
 ·rintro vs H' O' _ _ hle ⟨i, x, rfl, hi, hr⟩
  exact step i x H' O' hi hle hr
theorem r_Out {H : Heap} {v : BV12} {b : Bd} (h : BdS H v b) (hB : bdB b) (id : Int) : Triple PP F_zeitnotref15_Out [.agg (boardC v b).toArray, iV id] H [] fun r H' O' => (∃ w, r = .agg (boardC w (outR b id)).toArray ∧ BdS H' w (outR b id)) ∧ O' = [] := by
 refine run_zeitnotref15_Out (vs := boardC v b ++ [iV id]) (by kernel_rfl) (ones_app (boardC_ones (h.r [])) ⟨rfl, trivial⟩) ?_
 simp only [T_zeitnotref15_Out]
 have hB' := hB
 obtain ⟨b1, ⟨b2, b3, b4, b5⟩, ⟨b6, b7, b8, b9⟩, ⟨b10, b10'⟩, b11, b12, b13⟩ := hB
 refine newbox_den fun r0 => newbox_den fun r1 => ?_
 repeat (first | refine chkN_den ?_ | refine chkV_den ?_)
 refine call_new (Triple.frozen (r_Copy h hB')) ?_
 rintro _ H1 _ ⟨⟨w, rfl, hw⟩, rfl⟩ l1
 refine ⟨boardC w b, rfl, boardC_ones (hw.r []), ?_⟩
 repeat (first | refine chkN_den ?_ | refine chkV_den ?_)
 refine call_new (r_Without hw.s0.lib b2 id) ?_
 rintro x0 K0 _ ⟨z0, rfl⟩ j0
 refine ⟨[x0], rfl, ⟨z0.one, trivial⟩, ?_⟩
 replace hw := hw.le j0
 repeat (first | refine chkN_den ?_ | refine chkV_den ?_)
 refine call_new (r_Without hw.s0.hand b3 id) ?_
 rintro x1 K1 _ ⟨z1, rfl⟩ j1
 refine ⟨[x1], rfl, ⟨z1.one, trivial⟩, ?_⟩
 replace hw := hw.le j1
 replace z0 := z0.le j1
 repeat (first | refine chkN_den ?_ | refine chkV_den ?_)
 refine call_new (r_Without hw.s0.field b4 id) ?_
 rintro x2 K2 _ ⟨z2, rfl⟩ j2
 refine ⟨[x2], rfl, ⟨z2.one, trivial⟩, ?_⟩
 replace hw := hw.le j2
 replace z0 := z0.le j2
 replace z1 := z1.le j2
 repeat (first | refine chkN_den ?_ | refine chkV_den ?_)
 refine call_new (r_Without hw.s0.grave b5 id) ?_
 rintro x3 K3 _ ⟨z3, rfl⟩ j3
 refine ⟨[x3], rfl, ⟨z3.one, trivial⟩, ?_⟩
 replace hw := hw.le j3
 replace z0 := z0.le j3
 replace z1 := z1.le j3
 replace z2 := z2.le j3
 repeat (first | refine chkN_den ?_ | refine chkV_den ?_)
 refine call_new (r_Without hw.s1.lib b6 id) ?_
 rintro x4 K4 _ ⟨z4, rfl⟩ j4
 refine ⟨[x4], rfl, ⟨z4.one, trivial⟩, ?_⟩
 replace hw := hw.le j4
 replace z0 := z0.le j4
 replace z1 := z1.le j4
 replace z2 := z2.le j4
 replace z3 := z3.le j4
 repeat (first | refine chkN_den ?_ | refine chkV_den ?_)
 refine call_new (r_Without hw.s1.hand b7 id) ?_
 rintro x5 K5 _ ⟨z5, rfl⟩ j5
 refine ⟨[x5], rfl, ⟨z5.one, trivial⟩, ?_⟩
 replace hw := hw.le j5
 replace z0 := z0.le j5
 replace z1 := z1.le j5
 replace z2 := z2.le j5
 replace z3 := z3.le j5
 replace z4 := z4.le j5
 repeat (first | refine chkN_den ?_ | refine chkV_den ?_)
 refine call_new (r_Without hw.s1.field b8 id) ?_
 rintro x6 K6 _ ⟨z6, rfl⟩ j6
 refine ⟨[x6], rfl, ⟨z6.one, trivial⟩, ?_⟩
 replace hw := hw.le j6
 replace z0 := z0.le j6
 replace z1 := z1.le j6
 replace z2 := z2.le j6
 replace z3 := z3.le j6
 replace z4 := z4.le j6
 replace z5 := z5.le j6
 repeat (first | refine chkN_den ?_ | refine chkV_den ?_)
 refine call_new (r_Without hw.s1.grave b9 id) ?_
 rintro x7 K7 _ ⟨z7, rfl⟩ j7
 refine ⟨[x7], rfl, ⟨z7.one, trivial⟩, ?_⟩
 replace hw := hw.le j7
 replace z0 := z0.le j7
 replace z1 := z1.le j7
 replace z2 := z2.le j7
 replace z3 := z3.le j7
 replace z4 := z4.le j7
 replace z5 := z5.le j7
 replace z6 := z6.le j7
 have hsl := ItsR.len (hw.r []).stack
 have hsone := ItsR.one (hw.r []).stack
 obtain ⟨rows, hs, hrl, hit⟩ := hw.stack
 repeat (first | refine chkN_den ?_ | refine chkV_den ?_)
 refine countY_den b.stack.length (fun i x H' O' => Heap.le K7 H' ∧ OSl Ty_api_Item 5 x ((rows.take i).filter fun r => !prR id r) O') ⟨Heap.le_refl _, OSl.nil _ _⟩ ?_
 rintro i x H' O' hi - ⟨hle, hx⟩
 repeat (first | refine chkN_den ?_ | refine chkV_den ?_)
 refine pure_den _ hsl (pure_den _ (lss_eq _ _) (br_den (fun hb => ?_) (fun hb => ?_)))
 ·have hlt : i < b.stack.length := by simpa using hb
  have hlt2 : i < rows.length := by omega
  obtain ⟨s, hrow, hst⟩ := hit i rows[i] b.stack[i] (List.getElem?_eq_getElem hlt2) (List.getElem?_eq_getElem hlt)
  obtain ⟨a, h1, h2, h3, h4⟩ := (hs.le hle).idx (k := .i64) (i := i) (List.getElem?_eq_getElem hlt2)
  have hpr : prR id rows[i] = onR id b.stack[i] := by
   rw [hrow]
   show ((some b.stack[i].trig == some (-1)) && (some b.stack[i].id == some id)) = onR id b.stack[i]
   simp [onR]
  have hft := filter_take (p := fun r => !prR id r) hlt2
  simp only [hpr] at hft
  rw [hrow] at h2 h3 h4
  repeat (first | refine chkN_den ?_ | refine chkV_den ?_)
  refine pure_den _ h1 (load_den h2 h3 h4 (newbox_den fun r2 => ?_))
  repeat (first | refine chkN_den ?_ | refine chkV_den ?_ | refine newbox_den fun _ => ?_ | refine pure_den _ (lss_eq _ _) ?_ | refine pure_den _ (gtr_eq _ _) ?_ | refine pure_den _ (leq_eq _ _) ?_ | refine pure_den _ (geq_eq _ _) ?_ | refine pure_den _ (eql_eq _ _) ?_ | refine pure_den _ (neq_eq _ _) ?_ | refine pure_den _ (pick_and _ _) ?_ | refine pure_den _ (pick_or _ _) ?_ | refine pure_den _ (not_eq' _) ?_ | refine pure_den _ (beql_eq _ _) ?_ | refine pure_den _ (bneq_eq _ _) ?_)
  have hcond : (b.stack[i].trig != -1 || b.stack[i].id != id) = !onR id b.stack[i] := by
   simp only [onR, bne, Bool.not_and]
  refine br_den (fun hc => ?_) (fun hc => ?_)
  ·have hc : (b.stack[i].trig != -1 || b.stack[i].id != id) = true := hc
   rw [hcond] at hc
   have hw1 : ((rows.take i).filter fun r => !prR id r).length ≤ 1000000 := Nat.le_trans (List.length_filter_le _ _) (by rw [List.length_take]; omega)
   repeat (first | refine chkN_den ?_ | refine chkV_den ?_)
   refine newbox_den fun r3 => ?_
   repeat (first | refine chkN_den ?_ | refine chkV_den ?_)
   refine call_append (rows := (rows.take i).filter fun r => !prR id r) (news := [[iV b.stack[i].player, iV b.stack[i].id, iV b.stack[i].card, iV b.stack[i].trig, s]]) (O1 := O') (O2 := []) (e := Ty_api_Item) (size := 5) (bytes := 56) (by kernel_rfl) (by simp) hx
    (fun Hf _ hf => Sl.block1 (hf _ List.mem_cons_self) rfl h4) (by simp; omega) (by simp; omega) ?_
   intro v' A' H6 l6 hA'
   refine pure_den _ (add_one (by omega)) (countY_cont (by simp [Eqs]) hlt ⟨Heap.le_trans hle l6, ?_⟩)
   rw [List.append_nil, hft, if_pos hc, hrow]; exact hA'
  ·have hc : (b.stack[i].trig != -1 || b.stack[i].id != id) = false := hc
   rw [hcond] at hc
   repeat (first | refine chkN_den ?_ | refine chkV_den ?_)
   refine pure_den _ (add_one (by omega)) (countY_cont (by simp [Eqs]) hlt ⟨hle, ?_⟩)
   rw [hft, if_neg (by rw [hc]; simp), List.append_nil]; exact hx
 have hge : b.stack.length ≤ i := by simpa using hb
 rw [List.take_of_length_le (by omega)] at hx
 clear hb
 have hbl : evalPure .len [w.b] = some (iV b.blocks.length) := by have := hw.blocks.len; rwa [List.length_map] at this
 repeat (first | refine chkN_den ?_ | refine chkV_den ?_)
 refine countY_denG b.blocks.length (fun j y H2 O2 => Heap.le H' H2 ∧ Sl H2 5 x (rows.filter fun r => !prR id r) ∧ OSl Ty_api_Block 2 y (((b.blocks.take j).filter fun x => !inFight id x).map Bl.row) O2) (fun hc => ?_) ?_
 ·obtain ⟨H2, g, k, l2⟩ := hx.freeze (X := []) (by simpa using hc)
  exact ⟨H2, [], by simpa using g, l2, k, OSl.nil _ _⟩
 rintro j y H2 O2 hj - ⟨hle2, hxs, hy⟩
 repeat (first | refine chkN_den ?_ | refine chkV_den ?_)
 refine pure_den _ hbl (pure_den _ (lss_eq _ _) (br_den (fun hb => ?_) (fun hb => ?_)))
 ·have hlt : j < b.blocks.length := by simpa using hb
  obtain ⟨a, h1, h2, h3, h4⟩ := (hw.blocks.le (Heap.le_trans hle hle2)).idx (k := .i64) (i := j) (r := Bl.row b.blocks[j]) (by simp [hlt])
  have hft := filter_take (p := fun x => !inFight id x) hlt
  repeat (first | refine chkN_den ?_ | refine chkV_den ?_)
  refine pure_den _ h1 (load_den h2 h3 h4 (newbox_den fun r2 => ?_))
  repeat (first | refine chkN_den ?_ | refine chkV_den ?_ | refine newbox_den fun _ => ?_ | refine pure_den _ (lss_eq _ _) ?_ | refine pure_den _ (gtr_eq _ _) ?_ | refine pure_den _ (leq_eq _ _) ?_ | refine pure_den _ (geq_eq _ _) ?_ | refine pure_den _ (eql_eq _ _) ?_ | refine pure_den _ (neq_eq _ _) ?_ | refine pure_den _ (pick_and _ _) ?_ | refine pure_den _ (pick_or _ _) ?_ | refine pure_den _ (not_eq' _) ?_ | refine pure_den _ (beql_eq _ _) ?_ | refine pure_den _ (bneq_eq _ _) ?_)
  have hcond : (b.blocks[j].blocker != id && b.blocks[j].attacker != id) = !inFight id b.blocks[j] := by
   simp only [inFight, bne, Bool.not_or]
  refine br_den (fun hc => ?_) (fun hc => ?_)
  ·have hc : (b.blocks[j].blocker != id && b.blocks[j].attacker != id) = true := hc
   rw [hcond] at hc
   have hw1 : ((b.blocks.take j).filter fun x => !inFight id x).length ≤ 1000000 := Nat.le_trans (List.length_filter_le _ _) (by rw [List.length_take]; omega)
   repeat (first | refine chkN_den ?_ | refine chkV_den ?_)
   refine newbox_den fun r3 => ?_
   repeat (first | refine chkN_den ?_ | refine chkV_den ?_)
   refine call_append (rows := ((b.blocks.take j).filter fun x => !inFight id x).map Bl.row) (news := [Bl.row b.blocks[j]]) (O1 := O2) (O2 := []) (e := Ty_api_Block) (size := 2) (bytes := 16) (by kernel_rfl) (by simp) hy
    (fun Hf _ hf => Sl.block1 (hf _ List.mem_cons_self) rfl h4) (by simp; omega) (by simp; omega) ?_
   intro v' A' H6 l6 hA'
   refine pure_den _ (add_one (by omega)) (countY_cont (by simp [Eqs]) hlt ⟨Heap.le_trans hle2 l6, hxs.le l6, ?_⟩)
   rw [List.append_nil, hft, if_pos hc, List.map_append]; exact hA'
  ·have hc : (b.blocks[j].blocker != id && b.blocks[j].attacker != id) = false := hc
   rw [hcond] at hc
   repeat (first | refine chkN_den ?_ | refine chkV_den ?_)
   refine pure_den _ (add_one (by omega)) (countY_cont (by simp [Eqs]) hlt ⟨hle2, hxs, ?_⟩)
   rw [hft, if_neg (by rw [hc]; simp), List.append_nil]; exact hy
 have hge2 : b.blocks.length ≤ j := by simpa using hb
 rw [List.take_of_length_le hge2] at hy
 have lz := Heap.le_trans hle hle2
 repeat (first | refine chkN_den ?_ | refine chkV_den ?_)
 refine call_new (r_Without (hw.att.le lz) b12 id) ?_
 rintro x8 K8 _ ⟨z8, rfl⟩ j8
 refine ⟨[x8], rfl, ⟨z8.one, trivial⟩, ?_⟩
 have lz8 := Heap.le_trans lz j8
 repeat (first | refine chkN_den ?_ | refine chkV_den ?_)
 intro hc
 obtain ⟨H9, g9, k9, l9⟩ := hy.freeze (X := []) (hc.perm (by simp))
 have lz9 := Heap.le_trans lz8 l9
 obtain ⟨f1, f2⟩ := filter2 (p := fun r => !prR id r) (q := fun x => !onR id x) (R := fun r (x : It) => ∃ s, r = [iV x.player, iV x.id, iV x.card, iV x.trig, s] ∧ Sl H9 2 s (x.tgs.map Tg.row)) (fun r x ⟨s, e, _⟩ => by
  rw [e]
  show (!((some x.trig == some (-1)) && (some x.id == some id))) = !onR id x
  simp [onR]) rows b.stack hrl fun i r x a c => by
   obtain ⟨s, e, k⟩ := hit i r x a c
   exact ⟨s, e, k.le lz9⟩
 refine ⟨H9, [], (Ghost.perm (by simp)).trans g9, ⟨⟨w.o, x0, x1, x2, x3, x4, x5, x6, x7, x, w.q, x8, y⟩, rfl, ?_⟩, rfl⟩
 exact ⟨hw.objs.le lz9, ⟨z0.le lz9, z1.le lz9, z2.le lz9, z3.le lz9⟩, ⟨z4.le lz9, z5.le lz9, z6.le lz9, z7.le lz9⟩, ⟨_, hxs.le (Heap.le_trans j8 l9), f1, f2⟩, hw.queue.le lz9, z8.le l9, k9⟩
theorem r_Put {H : Heap} {v : BV12} {b : Bd} (h : BdS H v b) (hB : bdB b) (o : Ob) (ho : o.owner = 0 ∨ o.owner = 1) (z : Int) : Triple PP F_zeitnotref15_Put [.agg (boardC v b).toArray, .agg o.row.toArray, iV z] H [] fun r H' O' => (∃ w, r = .agg (boardC w (putB b o.owner z o.id)).toArray ∧ BdS H' w (putB b o.owner z o.id)) ∧ O' = [] := by
 refine run_zeitnotref15_Put (vs := boardC v b ++ (o.row ++ [iV z])) (by kernel_rfl) (ones_app (boardC_ones (h.r [])) (ones_app (ob_ones o) ⟨rfl, trivial⟩)) ?_
 simp only [T_zeitnotref15_Put]
 obtain ⟨b1, ⟨b2, b3, b4, b5⟩, ⟨b6, b7, b8, b9⟩, _⟩ := hB
 refine newbox_den fun r0 => newbox_den fun r1 => newbox_den fun r2 => ?_
 repeat (first | refine chkN_den ?_ | refine chkV_den ?_)
 have el : g (boardC v b ++ (o.row ++ [iV z])) 40 = iV o.owner := rfl
 rw [el]
 rcases ho with ho | ho
 ·rw [ho]
  refine ⟨.i64, 0, rfl, fun _ => ?_, fun e => absurd rfl e⟩
  repeat (first | refine chkN_den ?_ | refine chkV_den ?_)
  refine pure_den _ (eql_eq _ _) (br_den (fun hb => ?_) (fun n0 => ?_))
  ·have hz : z = 0 := by simpa using hb
   subst hz
   repeat (first | refine chkN_den ?_ | refine chkV_den ?_)
   refine app_new (e := Ty_int) (size := 1) (bytes := 8) (by kernel_rfl) h.s0.lib (by simp [ints]; omega) (by simp [ints]; omega) fun xa Oa H1 lA pa => ?_
   refine newbox_den fun r3 => ?_
   repeat (first | refine chkN_den ?_ | refine chkV_den ?_)
   refine call_append (rows := ints b.s0.lib) (news := [[iV o.id]]) (O1 := Oa) (O2 := []) (e := Ty_int) (size := 1) (bytes := 8) (by kernel_rfl) (by simp) pa (fun Hf _ hf => Sl.block1 (hf _ List.mem_cons_self) rfl ⟨rfl, trivial⟩) (by simp [ints]; omega) (by simp [ints]; omega) ?_
   intro v' A' H6 l6 hA'
   have hA2 : OSl Ty_int 1 v' (ints (b.s0.lib ++ [o.id])) A' := by rw [ints, List.map_append]; exact hA'
   repeat (first | refine chkN_den ?_ | refine chkV_den ?_)
   intro hc
   obtain ⟨H9, g9, kz, l9⟩ := hA2.freeze (X := []) (hc.perm (by simp))
   have lz := Heap.le_trans lA (Heap.le_trans l6 l9)
   exact ⟨H9, [], (Ghost.perm (by simp)).trans g9, ⟨{ v with l0 := v' }, rfl, ⟨(h.le lz).objs, ⟨kz, (h.le lz).s0.hand, (h.le lz).s0.field, (h.le lz).s0.grave⟩, (h.le lz).s1, (h.le lz).stack, (h.le lz).queue, (h.le lz).att, (h.le lz).blocks⟩⟩, rfl⟩
  repeat (first | refine chkN_den ?_ | refine chkV_den ?_)
  refine pure_den _ (eql_eq _ _) (br_den (fun hb => ?_) (fun n1 => ?_))
  ·have hz : z = 1 := by simpa using hb
   subst hz
   repeat (first | refine chkN_den ?_ | refine chkV_den ?_)
   refine app_new (e := Ty_int) (size := 1) (bytes := 8) (by kernel_rfl) h.s0.hand (by simp [ints]; omega) (by simp [ints]; omega) fun xa Oa H1 lA pa => ?_
   refine newbox_den fun r3 => ?_
   repeat (first | refine chkN_den ?_ | refine chkV_den ?_)
   refine call_append (rows := ints b.s0.hand) (news := [[iV o.id]]) (O1 := Oa) (O2 := []) (e := Ty_int) (size := 1) (bytes := 8) (by kernel_rfl) (by simp) pa (fun Hf _ hf => Sl.block1 (hf _ List.mem_cons_self) rfl ⟨rfl, trivial⟩) (by simp [ints]; omega) (by simp [ints]; omega) ?_
   intro v' A' H6 l6 hA'
   have hA2 : OSl Ty_int 1 v' (ints (b.s0.hand ++ [o.id])) A' := by rw [ints, List.map_append]; exact hA'
   repeat (first | refine chkN_den ?_ | refine chkV_den ?_)
   intro hc
   obtain ⟨H9, g9, kz, l9⟩ := hA2.freeze (X := []) (hc.perm (by simp))
   have lz := Heap.le_trans lA (Heap.le_trans l6 l9)
   exact ⟨H9, [], (Ghost.perm (by simp)).trans g9, ⟨{ v with h0 := v' }, rfl, ⟨(h.le lz).objs, ⟨(h.le lz).s0.lib, kz, (h.le lz).s0.field, (h.le lz).s0.grave⟩, (h.le lz).s1, (h.le lz).stack, (h.le lz).queue, (h.le lz).att, (h.le lz).blocks⟩⟩, rfl⟩
  repeat (first | refine chkN_den ?_ | refine chkV_den ?_)
  refine pure_den _ (eql_eq _ _) (br_den (fun hb => ?_) (fun n2 => ?_))
  ·have hz : z = 2 := by simpa using hb
   subst hz
   repeat (first | refine chkN_den ?_ | refine chkV_den ?_)
   refine app_new (e := Ty_int) (size := 1) (bytes := 8) (by kernel_rfl) h.s0.field (by simp [ints]; omega) (by simp [ints]; omega) fun xa Oa H1 lA pa => ?_
   refine newbox_den fun r3 => ?_
   repeat (first | refine chkN_den ?_ | refine chkV_den ?_)
   refine call_append (rows := ints b.s0.field) (news := [[iV o.id]]) (O1 := Oa) (O2 := []) (e := Ty_int) (size := 1) (bytes := 8) (by kernel_rfl) (by simp) pa (fun Hf _ hf => Sl.block1 (hf _ List.mem_cons_self) rfl ⟨rfl, trivial⟩) (by simp [ints]; omega) (by simp [ints]; omega) ?_
   intro v' A' H6 l6 hA'
   have hA2 : OSl Ty_int 1 v' (ints (b.s0.field ++ [o.id])) A' := by rw [ints, List.map_append]; exact hA'
   repeat (first | refine chkN_den ?_ | refine chkV_den ?_)
   intro hc
   obtain ⟨H9, g9, kz, l9⟩ := hA2.freeze (X := []) (hc.perm (by simp))
   have lz := Heap.le_trans lA (Heap.le_trans l6 l9)
   exact ⟨H9, [], (Ghost.perm (by simp)).trans g9, ⟨{ v with f0 := v' }, rfl, ⟨(h.le lz).objs, ⟨(h.le lz).s0.lib, (h.le lz).s0.hand, kz, (h.le lz).s0.grave⟩, (h.le lz).s1, (h.le lz).stack, (h.le lz).queue, (h.le lz).att, (h.le lz).blocks⟩⟩, rfl⟩
  repeat (first | refine chkN_den ?_ | refine chkV_den ?_)
  refine pure_den _ (eql_eq _ _) (br_den (fun hb => ?_) (fun n3 => ?_))
  ·have hz : z = 3 := by simpa using hb
   subst hz
   repeat (first | refine chkN_den ?_ | refine chkV_den ?_)
   refine app_new (e := Ty_int) (size := 1) (bytes := 8) (by kernel_rfl) h.s0.grave (by simp [ints]; omega) (by simp [ints]; omega) fun xa Oa H1 lA pa => ?_
   refine newbox_den fun r3 => ?_
   repeat (first | refine chkN_den ?_ | refine chkV_den ?_)
   refine call_append (rows := ints b.s0.grave) (news := [[iV o.id]]) (O1 := Oa) (O2 := []) (e := Ty_int) (size := 1) (bytes := 8) (by kernel_rfl) (by simp) pa (fun Hf _ hf => Sl.block1 (hf _ List.mem_cons_self) rfl ⟨rfl, trivial⟩) (by simp [ints]; omega) (by simp [ints]; omega) ?_
   intro v' A' H6 l6 hA'
   have hA2 : OSl Ty_int 1 v' (ints (b.s0.grave ++ [o.id])) A' := by rw [ints, List.map_append]; exact hA'
   repeat (first | refine chkN_den ?_ | refine chkV_den ?_)
   intro hc
   obtain ⟨H9, g9, kz, l9⟩ := hA2.freeze (X := []) (hc.perm (by simp))
   have lz := Heap.le_trans lA (Heap.le_trans l6 l9)
   exact ⟨H9, [], (Ghost.perm (by simp)).trans g9, ⟨{ v with g0 := v' }, rfl, ⟨(h.le lz).objs, ⟨(h.le lz).s0.lib, (h.le lz).s0.hand, (h.le lz).s0.field, kz⟩, (h.le lz).s1, (h.le lz).stack, (h.le lz).queue, (h.le lz).att, (h.le lz).blocks⟩⟩, rfl⟩
  repeat (first | refine chkN_den ?_ | refine chkV_den ?_)
  have e : putB b 0 z o.id = b := by
   have n0 : ¬ z = 0 := by simpa using n0
   have n1 : ¬ z = 1 := by simpa using n1
   have n2 : ¬ z = 2 := by simpa using n2
   have n3 : ¬ z = 3 := by simpa using n3
   simp only [putB, putZ, n0, n1, n2, n3, if_false]
   rfl
  rw [e]
  exact ret_denO ⟨⟨v, rfl, h⟩, rfl⟩
 ·rw [ho]
  refine ⟨.i64, 1, rfl, fun e => absurd e (by omega), fun _ => ⟨.i64, 1, rfl, fun _ => ?_, fun e => absurd rfl e⟩⟩
  repeat (first | refine chkN_den ?_ | refine chkV_den ?_)
  refine pure_den _ (eql_eq _ _) (br_den (fun hb => ?_) (fun n0 => ?_))
  ·have hz : z = 0 := by simpa using hb
   subst hz
   repeat (first | refine chkN_den ?_ | refine chkV_den ?_)
   refine app_new (e := Ty_int) (size := 1) (bytes := 8) (by kernel_rfl) h.s1.lib (by simp [ints]; omega) (by simp [ints]; omega) fun xa Oa H1 lA pa => ?_
   refine newbox_den fun r3 => ?_
   repeat (first | refine chkN_den ?_ | refine chkV_den ?_)
   refine call_append (rows := ints b.s1.lib) (news := [[iV o.id]]) (O1 := Oa) (O2 := []) (e := Ty_int) (size := 1) (bytes := 8) (by kernel_rfl) (by simp) pa (fun Hf _ hf => Sl.block1 (hf _ List.mem_cons_self) rfl ⟨rfl, trivial⟩) (by simp [ints]; omega) (by simp [ints]; omega) ?_
   intro v' A' H6 l6 hA'
   have hA2 : OSl Ty_int 1 v' (ints (b.s1.lib ++ [o.id])) A' := by rw [ints, List.map_append]; exact hA'
   repeat (first | refine chkN_den ?_ | refine chkV_den ?_)
   intro hc
   obtain ⟨H9, g9, kz, l9⟩ := hA2.freeze (X := []) (hc.perm (by simp))
   have lz := Heap.le_trans lA (Heap.le_trans l6 l9)
   exact ⟨H9, [], (Ghost.perm (by simp)).trans g9, ⟨{ v with l1 := v' }, rfl, ⟨(h.le lz).objs, (h.le lz).s0, ⟨kz, (h.le lz).s1.hand, (h.le lz).s1.field, (h.le lz).s1.grave⟩, (h.le lz).stack, (h.le lz).queue, (h.le lz).att, (h.le lz).blocks⟩⟩, rfl⟩
  repeat (first | refine chkN_den ?_ | refine chkV_den ?_)
  refine pure_den _ (eql_eq _ _) (br_den (fun hb => ?_) (fun n1 => ?_))
  ·have hz : z = 1 := by simpa using hb
   subst hz
   repeat (first | refine chkN_den ?_ | refine chkV_den ?_)
   refine app_new (e := Ty_int) (size := 1) (bytes := 8) (by kernel_rfl) h.s1.hand (by simp [ints]; omega) (by simp [ints]; omega) fun xa Oa H1 lA pa => ?_
   refine newbox_den fun r3 => ?_
   repeat (first | refine chkN_den ?_ | refine chkV_den ?_)
   refine call_append (rows := ints b.s1.hand) (news := [[iV o.id]]) (O1 := Oa) (O2 := []) (e := Ty_int) (size := 1) (bytes := 8) (by kernel_rfl) (by simp) pa (fun Hf _ hf => Sl.block1 (hf _ List.mem_cons_self) rfl ⟨rfl, trivial⟩) (by simp [ints]; omega) (by simp [ints]; omega) ?_
   intro v' A' H6 l6 hA'
   have hA2 : OSl Ty_int 1 v' (ints (b.s1.hand ++ [o.id])) A' := by rw [ints, List.map_append]; exact hA'
   repeat (first | refine chkN_den ?_ | refine chkV_den ?_)
   intro hc
   obtain ⟨H9, g9, kz, l9⟩ := hA2.freeze (X := []) (hc.perm (by simp))
   have lz := Heap.le_trans lA (Heap.le_trans l6 l9)
   exact ⟨H9, [], (Ghost.perm (by simp)).trans g9, ⟨{ v with h1 := v' }, rfl, ⟨(h.le lz).objs, (h.le lz).s0, ⟨(h.le lz).s1.lib, kz, (h.le lz).s1.field, (h.le lz).s1.grave⟩, (h.le lz).stack, (h.le lz).queue, (h.le lz).att, (h.le lz).blocks⟩⟩, rfl⟩
  repeat (first | refine chkN_den ?_ | refine chkV_den ?_)
  refine pure_den _ (eql_eq _ _) (br_den (fun hb => ?_) (fun n2 => ?_))
  ·have hz : z = 2 := by simpa using hb
   subst hz
   repeat (first | refine chkN_den ?_ | refine chkV_den ?_)
   refine app_new (e := Ty_int) (size := 1) (bytes := 8) (by kernel_rfl) h.s1.field (by simp [ints]; omega) (by simp [ints]; omega) fun xa Oa H1 lA pa => ?_
   refine newbox_den fun r3 => ?_
   repeat (first | refine chkN_den ?_ | refine chkV_den ?_)
   refine call_append (rows := ints b.s1.field) (news := [[iV o.id]]) (O1 := Oa) (O2 := []) (e := Ty_int) (size := 1) (bytes := 8) (by kernel_rfl) (by simp) pa (fun Hf _ hf => Sl.block1 (hf _ List.mem_cons_self) rfl ⟨rfl, trivial⟩) (by simp [ints]; omega) (by simp [ints]; omega) ?_
   intro v' A' H6 l6 hA'
   have hA2 : OSl Ty_int 1 v' (ints (b.s1.field ++ [o.id])) A' := by rw [ints, List.map_append]; exact hA'
   repeat (first | refine chkN_den ?_ | refine chkV_den ?_)
   intro hc
   obtain ⟨H9, g9, kz, l9⟩ := hA2.freeze (X := []) (hc.perm (by simp))
   have lz := Heap.le_trans lA (Heap.le_trans l6 l9)
   exact ⟨H9, [], (Ghost.perm (by simp)).trans g9, ⟨{ v with f1 := v' }, rfl, ⟨(h.le lz).objs, (h.le lz).s0, ⟨(h.le lz).s1.lib, (h.le lz).s1.hand, kz, (h.le lz).s1.grave⟩, (h.le lz).stack, (h.le lz).queue, (h.le lz).att, (h.le lz).blocks⟩⟩, rfl⟩
  repeat (first | refine chkN_den ?_ | refine chkV_den ?_)
  refine pure_den _ (eql_eq _ _) (br_den (fun hb => ?_) (fun n3 => ?_))
  ·have hz : z = 3 := by simpa using hb
   subst hz
   repeat (first | refine chkN_den ?_ | refine chkV_den ?_)
   refine app_new (e := Ty_int) (size := 1) (bytes := 8) (by kernel_rfl) h.s1.grave (by simp [ints]; omega) (by simp [ints]; omega) fun xa Oa H1 lA pa => ?_
   refine newbox_den fun r3 => ?_
   repeat (first | refine chkN_den ?_ | refine chkV_den ?_)
   refine call_append (rows := ints b.s1.grave) (news := [[iV o.id]]) (O1 := Oa) (O2 := []) (e := Ty_int) (size := 1) (bytes := 8) (by kernel_rfl) (by simp) pa (fun Hf _ hf => Sl.block1 (hf _ List.mem_cons_self) rfl ⟨rfl, trivial⟩) (by simp [ints]; omega) (by simp [ints]; omega) ?_
   intro v' A' H6 l6 hA'
   have hA2 : OSl Ty_int 1 v' (ints (b.s1.grave ++ [o.id])) A' := by rw [ints, List.map_append]; exact hA'
   repeat (first | refine chkN_den ?_ | refine chkV_den ?_)
   intro hc
   obtain ⟨H9, g9, kz, l9⟩ := hA2.freeze (X := []) (hc.perm (by simp))
   have lz := Heap.le_trans lA (Heap.le_trans l6 l9)
   exact ⟨H9, [], (Ghost.perm (by simp)).trans g9, ⟨{ v with g1 := v' }, rfl, ⟨(h.le lz).objs, (h.le lz).s0, ⟨(h.le lz).s1.lib, (h.le lz).s1.hand, (h.le lz).s1.field, kz⟩, (h.le lz).stack, (h.le lz).queue, (h.le lz).att, (h.le lz).blocks⟩⟩, rfl⟩
  repeat (first | refine chkN_den ?_ | refine chkV_den ?_)
  have e : putB b 1 z o.id = b := by
   have n0 : ¬ z = 0 := by simpa using n0
   have n1 : ¬ z = 1 := by simpa using n1
   have n2 : ¬ z = 2 := by simpa using n2
   have n3 : ¬ z = 3 := by simpa using n3
   simp only [putB, putZ, n0, n1, n2, n3, if_false]
   rfl
  rw [e]
  exact ret_denO ⟨⟨v, rfl, h⟩, rfl⟩
theorem outR_B {b : Bd} (h : bdB b) (id : Int) : bdB (outR b id) := by
 have := outB_B h id
 exact ⟨this.1, this.2.1, this.2.2.1, ⟨Nat.le_trans (List.length_filter_le _ _) h.2.2.2.1.1, fun x hx => h.2.2.2.1.2 x (List.mem_filter.1 hx).1⟩, this.2.2.2.2⟩
theorem setOb_B {b : Bd} (h : bdB b) (k : Nat) (o : Ob) : bdB (setOb b k o) := ⟨by simpa [setOb] using h.1, h.2⟩
/-- The reference's move. -/
def moveR (b : Bd) (k : Nat) (o : Ob) (z : Int) : Bd := putB (setOb (outR b o.id) k o) o.owner z o.id
theorem r_Move {H : Heap} {v : BV12} {b : Bd} (h : BdS H v b) (hB : bdB b) {k : Nat} {o : Ob} (hk : b.objs[k]? = some o) (hidx : idxO b o.id = k) (ho : o.owner = 0 ∨ o.owner = 1) (z : Int) :
  Triple PP F_zeitnotref15_Move [.agg (boardC v b).toArray, iV o.id, iV z] H [] fun r H' O' => (∃ w, r = .agg (boardC w (moveR b k (resetO o z) z)).toArray ∧ BdS H' w (moveR b k (resetO o z) z)) ∧ O' = [] := by
 refine run_zeitnotref15_Move (vs := boardC v b ++ [iV o.id, iV z]) (by kernel_rfl) (ones_app (boardC_ones (h.r [])) ⟨rfl, rfl, trivial⟩) ?_
 simp only [T_zeitnotref15_Move]
 refine newbox_den fun r0 => newbox_den fun r1 => ?_
 repeat (first | refine chkN_den ?_ | refine chkV_den ?_)
 refine call_retO (r_Index (h.r []) o.id) rfl ⟨rfl, trivial⟩ fun H1 l1 => ?_
 rw [hidx]
 replace h := h.le l1
 obtain ⟨a, h1, h2, _, h3, h4⟩ := (h.r []).objs.idx .i64 k (Ob.row o) (by rw [List.getElem?_map, hk]; rfl)
 repeat (first | refine chkN_den ?_ | refine chkV_den ?_)
 refine pure_den _ h1 (load_denR h2 h3 h4 ?_)
 repeat (first | refine chkN_den ?_ | refine chkV_den ?_)
 refine call_retO (r_Reset o z H1 []) rfl (vs := (resetO o z).row) (ob_ones _) fun H2 l2 => newbox_den fun r2 => ?_
 replace h := h.le l2
 repeat (first | refine chkN_den ?_ | refine chkV_den ?_)
 refine call_new (r_Out h hB o.id) ?_
 rintro _ H3 _ ⟨⟨w1, rfl, hw1⟩, rfl⟩ l3
 refine ⟨boardC w1 (outR b o.id), rfl, boardC_ones (hw1.r []), ?_⟩
 have hB1 := outR_B hB o.id
 repeat (first | refine chkN_den ?_ | refine chkV_den ?_)
 refine call_new (r_Set hw1 hB1 (resetO o z)) ?_
 have hset : setR (outR b o.id) (resetO o z) = setOb (outR b o.id) k (resetO o z) := by
  have : idxO (outR b o.id) (resetO o z).id = k := hidx
  simp only [setR, this, Int.toNat_natCast]
  rw [if_pos (by omega)]
 rw [hset]
 rintro _ H4 _ ⟨⟨w2, rfl, hw2⟩, rfl⟩ l4
 refine ⟨boardC w2 (setOb (outR b o.id) k (resetO o z)), rfl, boardC_ones (hw2.r []), ?_⟩
 repeat (first | refine chkN_den ?_ | refine chkV_den ?_)
 refine call_new (r_Put hw2 (setOb_B hB1 _ _) (resetO o z) ho z) ?_
 rintro _ H5 _ ⟨⟨w3, rfl, hw3⟩, rfl⟩ l5
 refine ⟨boardC w3 _, rfl, boardC_ones (hw3.r []), ?_⟩
 repeat (first | refine chkN_den ?_ | refine chkV_den ?_)
 exact ret_denO ⟨⟨w3, rfl, hw3⟩, rfl⟩
end Go.Proofs.Ytbaegnnmedjkmaa
namespace Go.Proofs.Ytbaegnnmedjkmaa
open Go Go.Sx
set_option maxRecDepth 100000
set_option maxHeartbeats 1000000
end Go.Proofs.Ytbaegnnmedjkmaa
namespace Go.Proofs.Ytbaegnnmedjkmaa
open Go Go.Sx
set_option maxRecDepth 100000
set_option maxHeartbeats 1000000
end Go.Proofs.Ytbaegnnmedjkmaa
namespace Go.Proofs.Ytbaegnnmedjkmaa
open Go Go.Sx
set_option maxRecDepth 100000
set_option maxHeartbeats 1000000
theorem look_den {H : Heap} {O : Own} {v : Value} {ks : List Int} (h : KindS H v ks) (c : Int) :
  (∃ x : Bool, (x = true ↔ (c < 0 ∨ c ≥ (ks.length : Int))) ∧ evalPure .len [v] = some (iV ks.length) ∧ x = (decide (c < 0) || decide (c ≥ (ks.length : Int)))) ∧
  (¬ (c < 0 ∨ c ≥ (ks.length : Int)) → ∃ a r, evalPure (.idx 14) [v, iV c] = some (.pointer (some a)) ∧ H.read (.pointer (some a)) 14 = some r ∧ r.length = 14 ∧ Ones r ∧ g r 1 = iV (kindAt ks c)) := by
 obtain ⟨rows, h1, h2, h3⟩ := h
 refine ⟨⟨_, ?_, ?_, rfl⟩, fun hn => ?_⟩
 ·simp
 ·have := h1.len; rw [this, h2]
 ·have hlt : c.toNat < rows.length := by omega
  obtain ⟨a, k1, k2, k3, k4⟩ := h1.idx (k := .i64) (i := c.toNat) (List.getElem?_eq_getElem hlt)
  have hk : ks[c.toNat]? = some (ks.getD c.toNat 0) := by
   rw [List.getD_eq_getElem?_getD, List.getElem?_eq_getElem (by omega)]; rfl
  have e := h3 c.toNat _ _ (List.getElem?_eq_getElem hlt) hk
  refine ⟨a, _, ?_, k2, k3, k4, ?_⟩
  ·rw [show iV c = iV (c.toNat : Int) by rw [Int.toNat_of_nonneg (by omega)]]; exact k1
  ·rw [e, kindAt, if_neg hn]
theorem row14 {r : List Value} (h : r.length = 14) : ([g r 0, g r 1, g r 2, g r 3, g r 4, g r 5, g r 6, g r 7, g r 8, g r 9, g r 10, g r 11, g r 12, g r 13] : List Value) = r := row_eq h
abbrev zCard : List Value := [.string ⟨#[]⟩, iV 0, iV 0, iV 0, iV 0, iV 0, iV 0, iV 0, iV 0, iV 0, iV 0, .slice none 0 0, .slice none 0 0, iV 0]
def LookR (ks : List Int) (c : Int) (r : Value) (_ : Heap) : Prop := ∃ cells : List Value, r = .agg cells.toArray ∧ cells.length = 14 ∧ Ones cells ∧ g cells 1 = iV (kindAt ks c)
theorem c_look {H : Heap} {O : Own} {v : Value} {ks : List Int} (h : KindS H v ks) (o : Ob) : Triple PP F_object_look [v, .agg o.row.toArray] H O fun r H' O' => LookR ks o.card r H' ∧ O' = O := by
 refine run_object_look (vs := v :: o.row) (by kernel_rfl) ⟨h.one, ob_ones o⟩ ?_
 simp only [T_object_look]
 obtain ⟨⟨x, hx, hlen, ex⟩, hlook⟩ := look_den (O := O) h o.card
 refine newbox_den fun r0 => newbox_den fun r1 => ?_
 repeat (first | refine chkN_den ?_ | refine chkV_den ?_)
 refine pure_den _ (lss_eq _ _) ?_
 repeat (first | refine chkN_den ?_ | refine chkV_den ?_)
 refine pure_den _ hlen ?_
 repeat (first | refine chkN_den ?_ | refine chkV_den ?_ | refine newbox_den fun _ => ?_ | refine pure_den _ (lss_eq _ _) ?_ | refine pure_den _ (gtr_eq _ _) ?_ | refine pure_den _ (leq_eq _ _) ?_ | refine pure_den _ (geq_eq _ _) ?_ | refine pure_den _ (eql_eq _ _) ?_ | refine pure_den _ (neq_eq _ _) ?_ | refine pure_den _ (pick_and _ _) ?_ | refine pure_den _ (pick_or _ _) ?_ | refine pure_den _ (not_eq' _) ?_ | refine pure_den _ (beql_eq _ _) ?_ | refine pure_den _ (bneq_eq _ _) ?_)
 refine br_den (fun hb => ?_) (fun hb => ?_)
 ·have hb : (decide (o.card < 0) || decide (o.card ≥ (ks.length : Int))) = true := hb
  rw [← ex] at hb
  repeat (first | refine chkN_den ?_ | refine chkV_den ?_)
  refine ret_denO ⟨⟨zCard, rfl, rfl, ⟨rfl, rfl, rfl, rfl, rfl, rfl, rfl, rfl, rfl, rfl, rfl, rfl, rfl, rfl, trivial⟩, ?_⟩, rfl⟩
  rw [kindAt, if_pos (hx.1 hb)]; rfl
 ·have hb : (decide (o.card < 0) || decide (o.card ≥ (ks.length : Int))) = false := hb
  rw [← ex] at hb
  obtain ⟨a, r, k1, k2, k3, k4, k5⟩ := hlook (fun e => by rw [hx.2 e] at hb; cases hb)
  repeat (first | refine chkN_den ?_ | refine chkV_den ?_)
  refine pure_den _ k1 (load_denR (reads_frozen k2) k3 k4 ?_)
  repeat (first | refine chkN_den ?_ | refine chkV_den ?_)
  exact ret_denO ⟨⟨r, by rw [← row14 k3]; rfl, k3, k4, k5⟩, rfl⟩
theorem r_Card {H : Heap} {O : Own} {v : Value} {ks : List Int} (h : KindS H v ks) (o : Ob) : Triple PP F_zeitnotref14_Card [v, .agg o.row.toArray] H O fun r H' O' => LookR ks o.card r H' ∧ O' = O := by
 refine run_zeitnotref14_Card (vs := v :: o.row) (by kernel_rfl) ⟨h.one, ob_ones o⟩ ?_
 simp only [T_zeitnotref14_Card]
 obtain ⟨⟨x, hx, hlen, ex⟩, hlook⟩ := look_den (O := O) h o.card
 refine newbox_den fun r0 => newbox_den fun r1 => ?_
 repeat (first | refine chkN_den ?_ | refine chkV_den ?_)
 refine pure_den _ (lss_eq _ _) ?_
 repeat (first | refine chkN_den ?_ | refine chkV_den ?_)
 refine pure_den _ hlen ?_
 repeat (first | refine chkN_den ?_ | refine chkV_den ?_ | refine newbox_den fun _ => ?_ | refine pure_den _ (lss_eq _ _) ?_ | refine pure_den _ (gtr_eq _ _) ?_ | refine pure_den _ (leq_eq _ _) ?_ | refine pure_den _ (geq_eq _ _) ?_ | refine pure_den _ (eql_eq _ _) ?_ | refine pure_den _ (neq_eq _ _) ?_ | refine pure_den _ (pick_and _ _) ?_ | refine pure_den _ (pick_or _ _) ?_ | refine pure_den _ (not_eq' _) ?_ | refine pure_den _ (beql_eq _ _) ?_ | refine pure_den _ (bneq_eq _ _) ?_)
 refine br_den (fun hb => ?_) (fun hb => ?_)
 ·have hb : (decide (o.card < 0) || decide (o.card ≥ (ks.length : Int))) = true := hb
  rw [← ex] at hb
  repeat (first | refine chkN_den ?_ | refine chkV_den ?_)
  refine ret_denO ⟨⟨zCard, rfl, rfl, ⟨rfl, rfl, rfl, rfl, rfl, rfl, rfl, rfl, rfl, rfl, rfl, rfl, rfl, rfl, trivial⟩, ?_⟩, rfl⟩
  rw [kindAt, if_pos (hx.1 hb)]; rfl
 ·have hb : (decide (o.card < 0) || decide (o.card ≥ (ks.length : Int))) = false := hb
  rw [← ex] at hb
  obtain ⟨a, r, k1, k2, k3, k4, k5⟩ := hlook (fun e => by rw [hx.2 e] at hb; cases hb)
  repeat (first | refine chkN_den ?_ | refine chkV_den ?_)
  refine pure_den _ k1 (load_denR (reads_frozen k2) k3 k4 ?_)
  repeat (first | refine chkN_den ?_ | refine chkV_den ?_)
  exact ret_denO ⟨⟨r, by rw [← row14 k3]; rfl, k3, k4, k5⟩, rfl⟩
theorem c_Creature {H : Heap} {O : Own} {v : Value} {ks : List Int} (h : KindS H v ks) (o : Ob) : RetO PP F_object_Creature [v, .agg o.row.toArray] H O (.bool (creatB ks o)) := by
 refine run_object_Creature (vs := v :: o.row) (by kernel_rfl) ⟨h.one, ob_ones o⟩ ?_
 simp only [T_object_Creature]
 refine newbox_den fun r0 => ?_
 repeat (first | refine chkN_den ?_ | refine chkV_den ?_)
 refine pure_den _ (eql_eq _ _) (br_den (fun hb => ret_denO ⟨?_, rfl⟩) (fun hb => ?_))
 ·have hb : (o.card == -1) = true := hb
  rw [creatB, hb]; rfl
 ·have hb : (o.card == -1) = false := hb
  repeat (first | refine chkN_den ?_ | refine chkV_den ?_)
  refine call_givesO (c_look h o) ?_
  rintro _ H1 ⟨cells, rfl, k1, k2, k3⟩ l1
  refine ⟨cells, by simp [Shp.open, k1], k2, ?_⟩
  dsimp only
  rw [k3]
  repeat (first | refine chkN_den ?_ | refine chkV_den ?_ | refine newbox_den fun _ => ?_ | refine pure_den _ (lss_eq _ _) ?_ | refine pure_den _ (gtr_eq _ _) ?_ | refine pure_den _ (leq_eq _ _) ?_ | refine pure_den _ (geq_eq _ _) ?_ | refine pure_den _ (eql_eq _ _) ?_ | refine pure_den _ (neq_eq _ _) ?_ | refine pure_den _ (pick_and _ _) ?_ | refine pure_den _ (pick_or _ _) ?_ | refine pure_den _ (not_eq' _) ?_ | refine pure_den _ (beql_eq _ _) ?_ | refine pure_den _ (bneq_eq _ _) ?_)
  refine ret_denO ⟨?_, rfl⟩
  rw [creatB, hb]; rfl
theorem r_Creature {H : Heap} {O : Own} {v : Value} {ks : List Int} (h : KindS H v ks) (o : Ob) : RetO PP F_zeitnotref14_Creature [v, .agg o.row.toArray] H O (.bool (creatB ks o)) := by
 refine run_zeitnotref14_Creature (vs := v :: o.row) (by kernel_rfl) ⟨h.one, ob_ones o⟩ ?_
 simp only [T_zeitnotref14_Creature]
 refine newbox_den fun r0 => ?_
 repeat (first | refine chkN_den ?_ | refine chkV_den ?_)
 refine pure_den _ (eql_eq _ _) (br_den (fun hb => ret_denO ⟨?_, rfl⟩) (fun hb => ?_))
 ·have hb : (o.card == -1) = true := hb
  rw [creatB, hb]; rfl
 ·have hb : (o.card == -1) = false := hb
  repeat (first | refine chkN_den ?_ | refine chkV_den ?_)
  refine call_givesO (r_Card h o) ?_
  rintro _ H1 ⟨cells, rfl, k1, k2, k3⟩ l1
  refine ⟨cells, by simp [Shp.open, k1], k2, ?_⟩
  dsimp only
  rw [k3]
  repeat (first | refine chkN_den ?_ | refine chkV_den ?_ | refine newbox_den fun _ => ?_ | refine pure_den _ (lss_eq _ _) ?_ | refine pure_den _ (gtr_eq _ _) ?_ | refine pure_den _ (leq_eq _ _) ?_ | refine pure_den _ (geq_eq _ _) ?_ | refine pure_den _ (eql_eq _ _) ?_ | refine pure_den _ (neq_eq _ _) ?_ | refine pure_den _ (pick_and _ _) ?_ | refine pure_den _ (pick_or _ _) ?_ | refine pure_den _ (not_eq' _) ?_ | refine pure_den _ (beql_eq _ _) ?_ | refine pure_den _ (bneq_eq _ _) ?_)
  refine ret_denO ⟨?_, rfl⟩
  rw [creatB, hb]; rfl
def isCr (ks : List Int) (b : Bd) (p : Int) (o : Ob) : Bool := o.owner == p && (creatB ks o && (seatOf b p).field.contains o.id)
/-- The creatures of a player, as the program says. -/
def creatP (ks : List Int) (b : Bd) (p : Int) : List Int := if (withinB p 0 1 && validBd b) = true then (b.objs.filter (isCr ks b p)).map (·.id) else []
theorem c_CreaturesO {H : Heap} {cv : Value} {ks : List Int} (hk : KindS H cv ks) {v : BV12} {b : Bd} (h : BdS H v b) (p : Int) :
  Triple PP F_board_Creatures [cv, .agg (boardC v b).toArray, iV p] H [] fun r _ O' => OSl Ty_int 1 r (ints (creatP ks b p)) O' := by
 refine run_board_Creatures (vs := cv :: (boardC v b ++ [iV p])) (by kernel_rfl) ⟨hk.one, ones_app (boardC_ones (h.r [])) ⟨rfl, trivial⟩⟩ ?_
 simp only [T_board_Creatures]
 refine newbox_den fun r0 => ?_
 repeat (first | refine chkN_den ?_ | refine chkV_den ?_)
 refine call_retO (c_within p 0 1 H []) rfl ⟨rfl, trivial⟩ fun H1 l1 => pure_den _ (not_eq' _) (br_den (fun hb => ?_) (fun hb => ?_))
 ·have e : creatP ks b p = [] := by rw [creatP, if_neg]; rw [show withinB p 0 1 = false from notT hb]; simp
  rw [e]
  repeat (first | refine chkN_den ?_ | refine chkV_den ?_)
  exact ret_denO (OSl.nil _ _)
 have hw : withinB p 0 1 = true := notF hb
 replace h := h.le l1
 replace hk := hk.le l1
 repeat (first | refine chkN_den ?_ | refine chkV_den ?_)
 refine call_retO (c_board_Valid (h.r [])) rfl ⟨rfl, trivial⟩ fun H2 l2 => pure_den _ (not_eq' _) (br_den (fun hb => ?_) (fun hb => ?_))
 ·have e : creatP ks b p = [] := by rw [creatP, if_neg]; rw [show validBd b = false from notT hb]; simp
  rw [e]
  repeat (first | refine chkN_den ?_ | refine chkV_den ?_)
  exact ret_denO (OSl.nil _ _)
 have hv : validBd b = true := notF hb
 have hobl := valid_len hv
 have e : creatP ks b p = (b.objs.filter (isCr ks b p)).map (·.id) := by rw [creatP, if_pos (by rw [hw, hv]; rfl)]
 rw [e]
 clear hb e
 replace h := h.le l2
 replace hk := hk.le l2
 have lo := h.objs.len
 rw [List.length_map] at lo
 have hp : p = 0 ∨ p = 1 := by simp only [withinB, decide_eq_true_eq] at hw; omega
 repeat (first | refine chkN_den ?_ | refine chkV_den ?_)
 refine pure_den _ lo ?_
 repeat (first | refine chkN_den ?_ | refine chkV_den ?_)
 refine countY_den b.objs.length (fun i x H' O' => Heap.le H2 H' ∧ OSl Ty_int 1 x (ints (((b.objs.take i).filter (isCr ks b p)).map (·.id))) O') ⟨Heap.le_refl _, OSl.nil _ _⟩ ?_
 rintro i x H' O' hi - ⟨hle, hx⟩
 refine pure_den _ (lss_eq _ _) (br_den (fun hb => ?_) (fun hb => ?_))
 ·have hlt : i < b.objs.length := by simpa using hb
  obtain ⟨a, i1, i2, i3, i4⟩ := (h.objs.le hle).idx (k := .i64) (i := i) (r := Ob.row b.objs[i]) (by simp [hlt])
  have hft := filter_take (p := isCr ks b p) hlt
  have hnot : isCr ks b p b.objs[i] = false → ∀ H3, Heap.le H' H3 → (Heap.le H2 H3 ∧ OSl Ty_int 1 x (ints (((b.objs.take (i + 1)).filter (isCr ks b p)).map (·.id))) O') := fun hn H3 l3 => by
   rw [hft, if_neg (by rw [hn]; simp), List.append_nil]; exact ⟨Heap.le_trans hle l3, hx⟩
  repeat (first | refine chkN_den ?_ | refine chkV_den ?_)
  refine pure_den _ i1 (load_den i2 i3 i4 (newbox_den fun r1 => ?_))
  repeat (first | refine chkN_den ?_ | refine chkV_den ?_)
  refine pure_den _ (eql_eq _ _) ?_
  refine br_den (fun h1 => ?_) (fun h1 => ?_)
  ·have h1 : (b.objs[i].owner == p) = true := h1
   repeat (first | refine chkN_den ?_ | refine chkV_den ?_)
   refine call_retO (c_Creature (hk.le hle) b.objs[i]) rfl ⟨rfl, trivial⟩ fun H3 l3 => br_den (fun h2 => ?_) (fun h2 => ?_)
   ·have lz := Heap.le_trans hle l3
    repeat (first | refine chkN_den ?_ | refine chkV_den ?_)
    rcases hp with rfl | rfl
    ·refine ⟨.i64, 0, rfl, fun _ => ?_, fun e => absurd rfl e⟩
     repeat (first | refine chkN_den ?_ | refine chkV_den ?_)
     refine call_retO (c_Contains_int (((h.s0.field).le lz).rsl O') b.objs[i].id) rfl ⟨rfl, trivial⟩ fun H4 l4 => br_den (fun h3 => ?_) (fun h3 => ?_)
     ·have hcr : isCr ks b 0 b.objs[i] = true := by rw [isCr, h1, h2]; exact h3
      have hlen : ((b.objs.take i).filter (isCr ks b 0)).length ≤ 1000000 := Nat.le_trans (List.length_filter_le _ _) (by rw [List.length_take]; omega)
      repeat (first | refine chkN_den ?_ | refine chkV_den ?_)
      refine newbox_den fun r2 => ?_
      repeat (first | refine chkN_den ?_ | refine chkV_den ?_)
      refine call_append (rows := ints (((b.objs.take i).filter (isCr ks b 0)).map fun o : Ob => o.id)) (news := [[iV b.objs[i].id]]) (O1 := O') (O2 := []) (e := Ty_int) (size := 1) (bytes := 8) (by kernel_rfl) (by simp) hx (fun Hf _ hf => Sl.block1 (hf _ List.mem_cons_self) rfl ⟨rfl, trivial⟩) (by simp [ints]; omega) (by simp [ints]; omega) ?_
      intro v' A' H6 l6 hA'
      refine pure_den _ (add_one (by omega)) (countY_cont (by simp [Eqs]) hlt ⟨Heap.le_trans lz (Heap.le_trans l4 l6), ?_⟩)
      rw [List.append_nil, hft, if_pos hcr, List.map_append, ints, List.map_append]; exact hA'
     ·have hcr : isCr ks b 0 b.objs[i] = false := by rw [isCr, h1, h2]; exact h3
      repeat (first | refine chkN_den ?_ | refine chkV_den ?_)
      exact pure_den _ (add_one (by omega)) (countY_cont (by simp [Eqs]) hlt (hnot hcr _ (Heap.le_trans l3 l4)))
    ·refine ⟨.i64, 1, rfl, fun e => absurd e (by omega), fun _ => ⟨.i64, 1, rfl, fun _ => ?_, fun e => absurd rfl e⟩⟩
     repeat (first | refine chkN_den ?_ | refine chkV_den ?_)
     refine call_retO (c_Contains_int (((h.s1.field).le lz).rsl O') b.objs[i].id) rfl ⟨rfl, trivial⟩ fun H4 l4 => br_den (fun h3 => ?_) (fun h3 => ?_)
     ·have hcr : isCr ks b 1 b.objs[i] = true := by rw [isCr, h1, h2]; exact h3
      have hlen : ((b.objs.take i).filter (isCr ks b 1)).length ≤ 1000000 := Nat.le_trans (List.length_filter_le _ _) (by rw [List.length_take]; omega)
      repeat (first | refine chkN_den ?_ | refine chkV_den ?_)
      refine newbox_den fun r2 => ?_
      repeat (first | refine chkN_den ?_ | refine chkV_den ?_)
      refine call_append (rows := ints (((b.objs.take i).filter (isCr ks b 1)).map fun o : Ob => o.id)) (news := [[iV b.objs[i].id]]) (O1 := O') (O2 := []) (e := Ty_int) (size := 1) (bytes := 8) (by kernel_rfl) (by simp) hx (fun Hf _ hf => Sl.block1 (hf _ List.mem_cons_self) rfl ⟨rfl, trivial⟩) (by simp [ints]; omega) (by simp [ints]; omega) ?_
      intro v' A' H6 l6 hA'
      refine pure_den _ (add_one (by omega)) (countY_cont (by simp [Eqs]) hlt ⟨Heap.le_trans lz (Heap.le_trans l4 l6), ?_⟩)
      rw [List.append_nil, hft, if_pos hcr, List.map_append, ints, List.map_append]; exact hA'
     ·have hcr : isCr ks b 1 b.objs[i] = false := by rw [isCr, h1, h2]; exact h3
      repeat (first | refine chkN_den ?_ | refine chkV_den ?_)
      exact pure_den _ (add_one (by omega)) (countY_cont (by simp [Eqs]) hlt (hnot hcr _ (Heap.le_trans l3 l4)))
   ·have hcr : isCr ks b p b.objs[i] = false := by rw [isCr, h1, h2]; rfl
    repeat (first | refine chkN_den ?_ | refine chkV_den ?_)
    exact pure_den _ (add_one (by omega)) (countY_cont (by simp [Eqs]) hlt (hnot hcr _ l3))
  ·have h1 : (b.objs[i].owner == p) = false := h1
   have hcr : isCr ks b p b.objs[i] = false := by rw [isCr, h1]; rfl
   repeat (first | refine chkN_den ?_ | refine chkV_den ?_)
   exact pure_den _ (add_one (by omega)) (countY_cont (by simp [Eqs]) hlt (hnot hcr _ (Heap.le_refl _)))
 ·have hge : b.objs.length ≤ i := by simpa using hb
  rw [List.take_of_length_le hge] at hx
  exact ret_denO hx
theorem c_Creatures {H : Heap} {cv : Value} {ks : List Int} (hk : KindS H cv ks) {v : BV12} {b : Bd} (h : BdS H v b) (p : Int) :
  Triple PP F_board_Creatures [cv, .agg (boardC v b).toArray, iV p] H [] fun r H' O' => Sl H' 1 r (ints (creatP ks b p)) ∧ O' = [] := Triple.frozenS (c_CreaturesO hk h p)
end Go.Proofs.Ytbaegnnmedjkmaa
namespace Go.Proofs.Ytbaegnnmedjkmaa
open Go Go.Sx
set_option maxRecDepth 100000
set_option maxHeartbeats 1000000
theorem ord_pairwise : ∀ {l : List Ob} {prev : Option Int}, ordP prev l = true → (l.map (·.id)).Pairwise (· < ·)
 | [], _, _ => List.Pairwise.nil
 | a :: l, prev, h => by
  simp only [ordP, Bool.and_eq_true] at h
  rw [List.map_cons, List.pairwise_cons]
  refine ⟨fun x hx => ?_, ord_pairwise h.2⟩
  obtain ⟨o, ho, rfl⟩ := List.mem_map.1 hx
  exact (ordP_spec h.2).1 o ho _ rfl
end Go.Proofs.Ytbaegnnmedjkmaa
namespace Go.Proofs.Ytbaegnnmedjkmaa
open Go Go.Sx
set_option maxRecDepth 100000
set_option maxHeartbeats 1000000
theorem zCdR (H : Heap) : CdR H zCard zCd := ⟨rfl, EffsS.nil H, TrigsS.nil H⟩
theorem looks_den {H : Heap} {v : Value} {cs : List Cd} (h : CardsS H v cs) (c : Int) (hn : ¬ (c < 0 ∨ c ≥ (cs.length : Int))) :
  ∃ a r, evalPure (.idx 14) [v, iV c] = some (.pointer (some a)) ∧ H.read (.pointer (some a)) 14 = some r ∧ r.length = 14 ∧ Ones r ∧ CdR H r (cdAt cs c) := by
 obtain ⟨rows, h1, h2, h3⟩ := h
 have hlt : c.toNat < rows.length := by omega
 obtain ⟨a, k1, k2, k3, k4⟩ := h1.idx (k := .i64) (i := c.toNat) (List.getElem?_eq_getElem hlt)
 have hk : cs[c.toNat]? = some (cdAt cs c) := by
  rw [cdAt, if_neg hn, List.getD_eq_getElem?_getD, List.getElem?_eq_getElem (by omega)]; rfl
 refine ⟨a, _, ?_, k2, k3, k4, h3 c.toNat _ _ (List.getElem?_eq_getElem hlt) hk⟩
 rw [show iV c = iV (c.toNat : Int) by rw [Int.toNat_of_nonneg (by omega)]]; exact k1
/-- What a look at a card hands back. -/
def LookC (cs : List Cd) (c : Int) (v : Value) (H : Heap) : Prop := ∃ cells : List Value, v = .agg cells.toArray ∧ cells.length = 14 ∧ Ones cells ∧ CdR H cells (cdAt cs c)
theorem c_lookC {H : Heap} {O : Own} {v : Value} {cs : List Cd} (h : CardsS H v cs) (o : Ob) : Triple PP F_object_look [v, .agg o.row.toArray] H O fun r H' O' => LookC cs o.card r H' ∧ O' = O := by
 refine run_object_look (vs := v :: o.row) (by kernel_rfl) ⟨h.one, ob_ones o⟩ ?_
 simp only [T_object_look]
 refine newbox_den fun r0 => newbox_den fun r1 => ?_
 repeat (first | refine chkN_den ?_ | refine chkV_den ?_)
 refine pure_den _ (lss_eq _ _) ?_
 repeat (first | refine chkN_den ?_ | refine chkV_den ?_)
 refine pure_den _ h.len ?_
 repeat (first | refine chkN_den ?_ | refine chkV_den ?_ | refine newbox_den fun _ => ?_ | refine pure_den _ (lss_eq _ _) ?_ | refine pure_den _ (gtr_eq _ _) ?_ | refine pure_den _ (leq_eq _ _) ?_ | refine pure_den _ (geq_eq _ _) ?_ | refine pure_den _ (eql_eq _ _) ?_ | refine pure_den _ (neq_eq _ _) ?_ | refine pure_den _ (pick_and _ _) ?_ | refine pure_den _ (pick_or _ _) ?_ | refine pure_den _ (not_eq' _) ?_ | refine pure_den _ (beql_eq _ _) ?_ | refine pure_den _ (bneq_eq _ _) ?_)
 refine br_den (fun hb => ?_) (fun hb => ?_)
 ·have hb : (decide (o.card < 0) || decide (o.card ≥ (cs.length : Int))) = true := hb
  repeat (first | refine chkN_den ?_ | refine chkV_den ?_)
  refine ret_denO ⟨⟨zCard, rfl, rfl, ⟨rfl, rfl, rfl, rfl, rfl, rfl, rfl, rfl, rfl, rfl, rfl, rfl, rfl, rfl, trivial⟩, ?_⟩, rfl⟩
  rw [cdAt, if_pos (by simpa using hb)]; exact zCdR H
 ·have hb : (decide (o.card < 0) || decide (o.card ≥ (cs.length : Int))) = false := hb
  obtain ⟨a, r, k1, k2, k3, k4, k5⟩ := looks_den h o.card (by simpa [Bool.or_eq_false_iff] using hb)
  repeat (first | refine chkN_den ?_ | refine chkV_den ?_)
  refine pure_den _ k1 (load_denR (reads_frozen k2) k3 k4 ?_)
  repeat (first | refine chkN_den ?_ | refine chkV_den ?_)
  exact ret_denO ⟨⟨r, by rw [← row14 k3]; rfl, k3, k4, k5⟩, rfl⟩
theorem c_CloneE {H : Heap} {v : Value} {l : List (List Value)} (h : Sl H 5 v l) (hb : l.length ≤ 2 ^ 30) : Triple PP F_slices_Clone_api_Effect_api_Effect [v] H [] fun v' H' O' => OSl Ty_api_Effect 5 v' l O' := by
 refine run_slices_Clone_api_Effect_api_Effect (vs := [v]) (by kernel_rfl) ⟨h.one, trivial⟩ ?_
 simp only [T_slices_Clone_api_Effect_api_Effect]
 obtain ⟨a, cap, rfl, h1, h2, h3⟩ := h
 have hev : evalPure (.bin .eql .slice) [.slice a l.length cap, .slice none 0 0] = some (.bool a.isNone) := by cases a <;> rfl
 refine pure_den _ hev (br_den (fun hn => ret_denO ?_) (fun hn => fun r0 => ?_))
 ·have hl : l = [] := by
   by_cases hl : l = []
   ·exact hl
   ·obtain ⟨ad, rfl, _⟩ := h3 hl; cases hn
  subst hl
  exact OSl.nil Ty_api_Effect 5
 ·refine call_append (rows := []) (news := l) (O1 := []) (O2 := []) (e := Ty_api_Effect) (size := 5) (bytes := 40) (by kernel_rfl) (List.Perm.refl _) (.inl ⟨⟨_, rfl⟩, rfl, rfl⟩) (fun Hf hl _ => Sl.le hl ⟨a, cap, rfl, h1, h2, h3⟩) (by simp; omega) (by simp; omega) ?_
  intro v' O1' H' _ ho
  refine ret_denO ?_
  rw [List.append_nil]
  exact ho
theorem c_CloneT {H : Heap} {v : Value} {l : List (List Value)} (h : Sl H 2 v l) (hb : l.length ≤ 2 ^ 30) : Triple PP F_slices_Clone_api_Trigger_api_Trigger [v] H [] fun v' H' O' => OSl Ty_api_Trigger 2 v' l O' := by
 refine run_slices_Clone_api_Trigger_api_Trigger (vs := [v]) (by kernel_rfl) ⟨h.one, trivial⟩ ?_
 simp only [T_slices_Clone_api_Trigger_api_Trigger]
 obtain ⟨a, cap, rfl, h1, h2, h3⟩ := h
 have hev : evalPure (.bin .eql .slice) [.slice a l.length cap, .slice none 0 0] = some (.bool a.isNone) := by cases a <;> rfl
 refine pure_den _ hev (br_den (fun hn => ret_denO ?_) (fun hn => fun r0 => ?_))
 ·have hl : l = [] := by
   by_cases hl : l = []
   ·exact hl
   ·obtain ⟨ad, rfl, _⟩ := h3 hl; cases hn
  subst hl
  exact OSl.nil Ty_api_Trigger 2
 ·refine call_append (rows := []) (news := l) (O1 := []) (O2 := []) (e := Ty_api_Trigger) (size := 2) (bytes := 32) (by kernel_rfl) (List.Perm.refl _) (.inl ⟨⟨_, rfl⟩, rfl, rfl⟩) (fun Hf hl _ => Sl.le hl ⟨a, cap, rfl, h1, h2, h3⟩) (by simp; omega) (by simp; omega) ?_
  intro v' O1' H' _ ho
  refine ret_denO ?_
  rw [List.append_nil]
  exact ho
/-- What a copy of a card hands back. -/
def CopyC (c : Cd) (v : Value) (H : Heap) : Prop := ∃ cells : List Value, v = .agg cells.toArray ∧ cells.length = 14 ∧ Ones cells ∧ g cells 1 = iV c.kind ∧ EffsS H (g cells 11) c.tg
theorem ones_at {l : List Value} (h : Ones l) {i : Nat} (hi : i < l.length) : (g l i).oneCell' = true := by
 rw [g, List.getD_eq_getElem?_getD, List.getElem?_eq_getElem hi]
 exact ones_mem h _ (List.getElem_mem hi)
theorem c_CardCopy {H : Heap} {cells : List Value} {c : Cd} (h : CdR H cells c) (hl : cells.length = 14) (ho : Ones cells) (hli : cdLight c = true) :
  Triple PP F_card_Copy [.agg cells.toArray] H [] fun r H' O' => CopyC c r H' ∧ O' = [] := by
 simp only [cdLight, Bool.and_eq_true, Bool.not_eq_true', Bool.or_eq_false_iff, decide_eq_false_iff_not, List.all_eq_true] at hli
 obtain ⟨⟨b1, b2⟩, b3⟩ := hli
 obtain ⟨hk, ⟨erows, e1, e2, e3⟩, ⟨trows, t1, t2, t3⟩⟩ := h
 refine run_card_Copy (vs := cells) (by rw [← row14 hl]; kernel_rfl) ho ?_
 simp only [T_card_Copy]
 refine newbox_den fun r0 => newbox_den fun r1 => ?_
 repeat (first | refine chkN_den ?_ | refine chkV_den ?_)
 refine call_new (Triple.frozenS (c_CloneE e1 (by omega))) ?_
 rintro x H1 _ ⟨hx, rfl⟩ l1
 refine ⟨[x], rfl, ⟨hx.one, trivial⟩, ?_⟩
 repeat (first | refine chkN_den ?_ | refine chkV_den ?_)
 refine call_new (c_CloneT (t1.le l1) (by omega)) fun y H2 O2 hy l2 => ⟨[y], rfl, ⟨hy.one, trivial⟩, ?_⟩
 have ylen := hy.len
 rw [t2] at ylen
 repeat (first | refine chkN_den ?_ | refine chkV_den ?_)
 refine pure_den _ ylen ?_
 refine count_den c.tr.length (fun i H' O' => Heap.le H2 H' ∧ ∃ rows' A, O'.Perm A ∧ OSl Ty_api_Trigger 2 y rows' A ∧ rows'.length = c.tr.length ∧ ∀ j, i ≤ j → rows'[j]? = trows[j]?) ⟨Heap.le_refl _, trows, O2, by simp, hy, t2, fun _ _ => rfl⟩ ?_
 rintro i H' O' hi - ⟨hle, rows', A, hp, hA, hrl, hrest⟩
 refine pure_den _ (lss_eq _ _) (br_den (fun hb => ?_) (fun hb => ?_))
 ·have hlt : i < c.tr.length := by simpa using hb
  have hri : rows'[i]? = some trows[i] := by rw [hrest i (Nat.le_refl _)]; exact List.getElem?_eq_getElem (by omega)
  obtain ⟨er, k1, k2⟩ := t3 i trows[i] c.tr[i] (List.getElem?_eq_getElem (by omega)) (List.getElem?_eq_getElem hlt)
  have hb3 := b3 _ (List.getElem_mem hlt)
  obtain ⟨a, i1, i2, i3, i4⟩ := hA.idx (fun p h => hp.mem_iff.2 h) H' (k := .i64) hri
  obtain ⟨w1, w2⟩ := hA.rows_ok hri
  repeat (first | refine chkN_den ?_ | refine chkV_den ?_ | refine chkP_den rfl ?_)
  refine pure_den _ i1 (load_denR i3 w1 w2 (newbox_den fun r2 => ?_))
  repeat (first | refine chkN_den ?_ | refine chkV_den ?_ | refine chkP_den rfl ?_)
  refine call_new (Triple.frozenS (c_CloneE (k1.le (Heap.le_trans l1 (Heap.le_trans l2 hle))) (by rw [k2]; omega))) ?_
  rintro z H3 _ ⟨hz, rfl⟩ l3
  refine ⟨[z], rfl, ⟨hz.one, trivial⟩, ?_⟩
  obtain ⟨a2, j1, j2⟩ := hA.store (O := [] ++ O') (O2 := []) (by simpa using hp) (k := .i64) hri
  obtain ⟨A', hst, hA'⟩ := j2 1 [z] (by simp [w1]) ⟨hz.one, trivial⟩
  repeat (first | refine chkN_den ?_ | refine chkV_den ?_ | refine chkP_den rfl ?_)
  refine pure_den _ j1 ?_
  repeat (first | refine chkN_den ?_ | refine chkV_den ?_ | refine chkP_den rfl ?_)
  refine ⟨_, hst, ?_⟩
  repeat (first | refine chkN_den ?_ | refine chkV_den ?_ | refine chkP_den rfl ?_)
  refine pure_den _ (add_one (by omega)) (count_cont (by simp [Eqs]) hlt ⟨Heap.le_trans hle l3, _, A', by simp, hA', by simp [hrl], fun j hj => ?_⟩)
  rw [List.getElem?_set_ne (by omega)]
  exact hrest j (by omega)
 ·repeat (first | refine chkN_den ?_ | refine chkV_den ?_ | refine chkP_den rfl ?_)
  refine ret_drop ⟨⟨[g cells 0, g cells 1, g cells 2, g cells 3, g cells 4, g cells 5, g cells 6, g cells 7, g cells 8, g cells 9, g cells 10, x, y, g cells 13], rfl, rfl, ?_, hk, ⟨erows, hx.le (Heap.le_trans l2 hle), e2, e3⟩⟩, rfl⟩
  exact ⟨ones_at ho (by omega), ones_at ho (by omega), ones_at ho (by omega), ones_at ho (by omega), ones_at ho (by omega), ones_at ho (by omega), ones_at ho (by omega), ones_at ho (by omega), ones_at ho (by omega), ones_at ho (by omega), ones_at ho (by omega), hx.one, hy.one, ones_at ho (by omega), trivial⟩
theorem c_objCard {H : Heap} {v : Value} {cs : List Cd} (h : CardsS H v cs) (hli : lightB cs = true) (o : Ob) : Triple PP F_object_Card [v, .agg o.row.toArray] H [] fun r H' O' => CopyC (cdAt cs o.card) r H' ∧ O' = [] := by
 refine run_object_Card (vs := v :: o.row) (by kernel_rfl) ⟨h.one, ob_ones o⟩ ?_
 simp only [T_object_Card]
 refine newbox_den fun r0 => newbox_den fun r1 => ?_
 repeat (first | refine chkN_den ?_ | refine chkV_den ?_)
 refine call_new (c_lookC (O := []) h o) ?_
 rintro _ H1 _ ⟨⟨cells, rfl, k1, k2, k3⟩, rfl⟩ l1
 refine ⟨cells, by simp [Shp.open, k1], k2, ?_⟩
 repeat (first | refine chkN_den ?_ | refine chkV_den ?_)
 have hrow := row14 k1
 refine call_new (c_CardCopy (cells := [g cells 0, g cells 1, g cells 2, g cells 3, g cells 4, g cells 5, g cells 6, g cells 7, g cells 8, g cells 9, g cells 10, g cells 11, g cells 12, g cells 13]) (by rw [hrow]; exact k3) rfl (by rw [hrow]; exact k2) (light_at hli _)) ?_
 rintro _ H2 _ ⟨⟨cells2, rfl, m1, m2, m3, m4⟩, rfl⟩ l2
 refine ⟨cells2, by simp [Shp.open, m1], m2, ?_⟩
 repeat (first | refine chkN_den ?_ | refine chkV_den ?_)
 exact ret_denO ⟨⟨cells2, by rw [← row14 m1]; rfl, m1, m2, m3, m4⟩, rfl⟩
theorem filter_take' {α : Type} {p : α → Bool} {l : List α} {i : Nat} (h : i < l.length) : ((l.take (i + 1)).filter p).length = ((l.take i).filter p).length + if p l[i] then 1 else 0 := by
 rw [List.take_add_one, List.getElem?_eq_getElem h, List.filter_append, List.length_append]
 congr 1
 by_cases hp : p l[i] <;> simp [hp]
theorem eff_idx {H : Heap} {O : Own} {v : Value} {tg : List Int} (h : EffsS H v tg) {i : Nat} (hi : i < tg.length) :
  ∃ a r, evalPure (.idx 5) [v, iV i] = some (.pointer (some a)) ∧ H.read (.pointer (some a)) 5 = some r ∧ r.length = 5 ∧ Ones r ∧ g r 1 = iV tg[i] ∧ Reads H O (ptrAdd (.pointer (some a)) 1) 1 [iV tg[i]] := by
 obtain ⟨rows, h1, h2, h3⟩ := h
 have hlt : i < rows.length := by omega
 obtain ⟨a, k1, k2, k3, k4⟩ := h1.idx (k := .i64) (i := i) (List.getElem?_eq_getElem hlt)
 have hg := h3 i _ _ (List.getElem?_eq_getElem hlt) (List.getElem?_eq_getElem hi)
 obtain ⟨a2, j1, _, j3, _⟩ := (h1.rsl O).idx .i64 i rows[i] (by simp [hlt])
 obtain rfl : a2 = a := by rw [j1] at k1; simpa using k1
 have hr := j3 1 1 (by omega)
 refine ⟨_, _, k1, k2, k3, k4, hg, ?_⟩
 have e : ((rows[i]).drop 1).take 1 = [iV tg[i]] := by
  match hm : rows[i], k3 with
  | [_, b, _, _, _], _ => rw [hm] at hg; simpa [g] using hg
 rw [e] at hr
 exact hr
theorem c_Targets {H : Heap} {O : Own} {v : Value} {tg : List Int} (h : EffsS H v tg) (hb : tg.length ≤ 1000000) : RetO PP F_effect_Targets [v] H O (iV (needsOf tg).length) := by
 refine run_effect_Targets (vs := [v]) (by kernel_rfl) ⟨h.one, trivial⟩ ?_
 simp only [T_effect_Targets]
 refine pure_den _ h.len ?_
 refine countY_den tg.length (fun i x H' O' => O' = O ∧ Heap.le H H' ∧ x = iV (needsOf (tg.take i)).length) ⟨rfl, Heap.le_refl _, rfl⟩ ?_
 rintro i x H' O' hi - ⟨rfl, hle, rfl⟩
 repeat (first | refine chkN_den ?_ | refine chkV_den ?_)
 refine pure_den _ (lss_eq _ _) (br_den (fun hb => ?_) (fun hb => ?_))
 ·have hlt : i < tg.length := by simpa using hb
  obtain ⟨a, r, k1, k2, k3, k4, k5, _⟩ := eff_idx (O := O') (h.le hle) hlt
  repeat (first | refine chkN_den ?_ | refine chkV_den ?_)
  refine pure_den _ k1 (load_denR (reads_frozen k2) k3 k4 (newbox_den fun r0 => ?_))
  repeat (first | refine chkN_den ?_ | refine chkV_den ?_)
  rw [k5]
  refine pure_den _ (neq_eq _ _) ?_
  have hft := filter_take' (p := fun t : Int => t != 0) hlt
  have hfl : ((tg.take i).filter fun t : Int => t != 0).length ≤ tg.length := Nat.le_trans (List.length_filter_le _ _) (by rw [List.length_take]; omega)
  refine br_den (fun hc => ?_) (fun hc => ?_)
  ·have hc : (tg[i] != 0) = true := hc
   rw [if_pos hc] at hft
   refine pure_den _ (add_one (by rw [needsOf]; omega)) (pure_den _ (add_one (by omega)) (countY_cont (by simp [Eqs]) hlt ⟨rfl, hle, ?_⟩))
   rw [needsOf, needsOf, hft]
  ·have hc : (tg[i] != 0) = false := hc
   rw [if_neg (by rw [hc]; simp)] at hft
   refine pure_den _ (add_one (by omega)) (countY_cont (by simp [Eqs]) hlt ⟨rfl, hle, ?_⟩)
   rw [needsOf, needsOf, hft]; rfl
 ·have hge : tg.length ≤ i := by simpa using hb
  rw [List.take_of_length_le hge]
  exact ret_denO ⟨rfl, rfl⟩
end Go.Proofs.Ytbaegnnmedjkmaa
namespace Go.Proofs.Ytbaegnnmedjkmaa
open Go Go.Sx
set_option maxRecDepth 100000
set_option maxHeartbeats 1000000
def obOf (c : Int) : Ob := ⟨0, c, 0, 0, 0, 0, 0, 0, 0, false, false, false⟩
def isSp (k : Int) : Bool := k == 3 || k == 4
def spellP (cs : List Cd) (x : It) : Bool := (isSp (cdAt cs x.card).kind && decide (x.trig < 0)) && decide ((x.tgs.length : Int) ≥ ((needsOf (cdAt cs x.card).tg).length : Int))
theorem light_tg {cs : List Cd} (h : lightB cs = true) (c : Int) : (cdAt cs c).tg.length ≤ 5 := by
 have := light_at h c
 simp only [cdLight, Bool.and_eq_true, Bool.not_eq_true', Bool.or_eq_false_iff, decide_eq_false_iff_not] at this
 omega
theorem c_spell {H : Heap} {v : Value} {cs : List Cd} (h : CardsS H v cs) (hli : lightB cs = true) {row : List Value} {x : It} (hx : ItR H [] row x) : RetO PP F_target_spell [v, .agg row.toArray] H [] (.bool (spellP cs x)) := by
 obtain ⟨s, rfl, hs⟩ := hx
 refine run_target_spell (vs := [v, iV x.player, iV x.id, iV x.card, iV x.trig, s]) (by kernel_rfl) ⟨h.one, rfl, rfl, rfl, rfl, hs.one, trivial⟩ ?_
 simp only [T_target_spell]
 refine newbox_den fun r0 => ?_
 repeat (first | refine chkN_den ?_ | refine chkV_den ?_)
 refine call_new (c_objCard h hli (obOf x.card)) ?_
 rintro _ H1 _ ⟨⟨cells, rfl, k1, k2, k3, k4⟩, rfl⟩ l1
 refine ⟨cells, by simp [Shp.open, k1], k2, newbox_den fun r1 => ?_⟩
 have k3 : g cells 1 = iV (cdAt cs x.card).kind := k3
 have k4 : EffsS H1 (g cells 11) (cdAt cs x.card).tg := k4
 repeat (first | refine chkN_den ?_ | refine chkV_den ?_)
 rw [k3]
 have hsl : evalPure .len [s] = some (iV x.tgs.length) := by have := hs.len; rwa [List.length_map] at this
 repeat (first | refine chkN_den ?_ | refine chkV_den ?_ | refine newbox_den fun _ => ?_ | refine pure_den _ (lss_eq _ _) ?_ | refine pure_den _ (gtr_eq _ _) ?_ | refine pure_den _ (leq_eq _ _) ?_ | refine pure_den _ (geq_eq _ _) ?_ | refine pure_den _ (eql_eq _ _) ?_ | refine pure_den _ (neq_eq _ _) ?_ | refine pure_den _ (pick_and _ _) ?_ | refine pure_den _ (pick_or _ _) ?_ | refine pure_den _ (not_eq' _) ?_ | refine pure_den _ (beql_eq _ _) ?_ | refine pure_den _ (bneq_eq _ _) ?_)
 refine br_den (fun hb => ?_) (fun hb => ?_)
 ·have hb : (isSp (cdAt cs x.card).kind && decide (x.trig < 0)) = true := hb
  repeat (first | refine chkN_den ?_ | refine chkV_den ?_)
  refine pure_den _ hsl ?_
  repeat (first | refine chkN_den ?_ | refine chkV_den ?_)
  refine call_retO (c_Targets k4 (by have := light_tg hli x.card; omega)) rfl ⟨rfl, trivial⟩ fun H2 l2 => ?_
  refine pure_den _ (geq_eq _ _) (ret_denO ⟨?_, rfl⟩)
  rw [spellP, hb, Bool.true_and]
 ·have hb : (isSp (cdAt cs x.card).kind && decide (x.trig < 0)) = false := hb
  refine ret_denO ⟨?_, rfl⟩
  rw [spellP, hb, Bool.false_and]
end Go.Proofs.Ytbaegnnmedjkmaa
namespace Go.Sx
open Go
theorem Models.grown {w : World} {H : Heap} {O : Own} (h : Models w H O) (os : Array Obj) : Models (Sort.grow w os) H O := by
 have keep : ∀ b (x : Obj), w.heap[b]? = some x → (w.heap ++ os)[b]? = some x := fun b x hb => by
  have hlt : b < w.heap.size := by
   rcases Nat.lt_or_ge b w.heap.size with h | h
   ·exact h
   ·rw [Array.getElem?_eq_none h] at hb; cases hb
  rw [Array.getElem?_append_left hlt]; exact hb
 exact ⟨fun b x hb => keep b x (h.pers b x hb), fun p hp => ⟨keep _ _ (h.own p hp).1, (h.own p hp).2⟩, h.nodup, h.env⟩
def encT (x : Int) : List Value := [iV x, iV 0]
theorem encT_len (d : List Int) : (d.map encT).flatten.length = d.length * 2 := by
 have := flatten_len (rows := d.map encT) (size := 2) (by simp [encT])
 rwa [List.length_map] at this
theorem flatK_encT (d : List Int) : (Sort.flatK encT 2 d.toArray).toList = (d.map encT).flatten := by
 refine List.ext_getElem? fun t => ?_
 have hl := encT_len d
 rcases Nat.lt_or_ge t (d.length * 2) with h | h
 ·have h1 := Sort.get_flatK encT 2 d.toArray t (by simpa using h)
  rw [getElem!_pos _ t (by simpa using h)] at h1
  have hd : t / 2 < d.length := by omega
  rw [getElem!_pos _ (t / 2) (by simpa using hd)] at h1
  rw [List.getElem?_eq_getElem (by simpa using h), Array.getElem_toList, h1]
  have hg : (d.map encT)[t / 2]? = some (encT d[t / 2]) := by simp [hd]
  have p := flatten_get (rows := d.map encT) (size := 2) (by simp [encT]) hg
  have e : (d.map encT).flatten[t]? = (encT d[t / 2])[t % 2]? := by
   rw [← p, List.getElem?_take, if_pos (by omega), List.getElem?_drop]
   congr 1; omega
  rw [e]
  rcases Nat.mod_two_eq_zero_or_one t with h2 | h2 <;> rw [h2] <;> rfl
 ·rw [List.getElem?_eq_none (by simpa using h), List.getElem?_eq_none (by omega)]
theorem putCells_all (F : List Value) (cs : List Value) (h : F.length ≤ cs.length) : Sort.putCells id 0 F.toArray cs.toArray = (F ++ cs.drop F.length).toArray := by
 refine Array.ext' (List.ext_getElem? fun k => ?_)
 simp only [Sort.putCells, Array.toList_mapIdx, List.getElem?_mapIdx, List.getElem?_append, List.size_toArray, id]
 by_cases hk : k < F.length
 ·rw [if_pos hk, List.getElem?_eq_getElem (by omega : k < cs.length), List.getElem?_eq_getElem hk]
  simp only [Option.map_some, Option.some.injEq]
  rw [if_pos ⟨Nat.zero_le _, by omega⟩, Nat.sub_zero, getElem!_pos _ k (by simpa using hk)]
  rfl
 ·rw [if_neg hk, List.getElem?_drop, show F.length + (k - F.length) = k by omega]
  rcases Nat.lt_or_ge k cs.length with hc | hc
  ·rw [List.getElem?_eq_getElem hc, Option.map_some, if_neg (by omega)]
  ·rw [List.getElem?_eq_none hc]; rfl
theorem sort_models {w : World} {H : Heap} {r : Nat} {cs : List Value} {T : TypeId} {O : Own} (hm : Models w H ((r, .cells cs.toArray T (0, 0)) :: O)) {d : List Int} (hl : d.length * 2 ≤ cs.length) (n : Nat) (os : Array Obj) :
  Models (Go.Proofs.sortWorldK encT 2 w r 0 n d.toArray os) H ((r, .cells ((d.map encT).flatten ++ cs.drop (d.length * 2)).toArray T (0, 0)) :: O) := by
 have hrow := (hm.own (r, .cells cs.toArray T (0, 0)) (by simp)).1
 unfold Go.Proofs.sortWorldK
 refine Models.grown (Models.update (w := w) (w' := Sort.putRowK encT 2 (Sort.ahead w n) r 0 d.toArray) (o' := .cells ((d.map encT).flatten ++ cs.drop (d.length * 2)).toArray T (0, 0)) hm (fun b hb => ?_) ?_ rfl) os
 ·simp [Sort.putRowK, Sort.putRow, Sort.mapBlock, Sort.ahead, Array.getElem?_modify, Ne.symm hb]
 ·have hF := flatK_encT d
  have e : Sort.flatK encT 2 d.toArray = ((d.map encT).flatten).toArray := by rw [← hF]
  simp only [Sort.putRowK, Sort.putRow, Sort.mapBlock, Sort.ahead, Array.getElem?_modify, if_true, hrow, Option.map_some, Sort.onCells, e]
  rw [putCells_all _ _ (by rw [encT_len]; exact hl), encT_len]
theorem sort_holds {w : World} {H : Heap} {r : Nat} {cs : List Value} {T : TypeId} {O : Own} (hm : Models w H ((r, .cells cs.toArray T (0, 0)) :: O)) {d : List Int} (hd : (d.map encT).flatten = cs.take (d.length * 2)) (hl : d.length * 2 ≤ cs.length) :
  Sort.HoldsK encT 2 w r 0 d.toArray ∧ r < w.heap.size := by
 have hrow := (hm.own (r, .cells cs.toArray T (0, 0)) (by simp)).1
 have hlt : r < w.heap.size := by
  rcases Nat.lt_or_ge r w.heap.size with h | h
  ·exact h
  ·rw [Array.getElem?_eq_none h] at hrow; cases hrow
 have e : Sort.flatK encT 2 d.toArray = ((d.map encT).flatten).toArray := by rw [← flatK_encT d]
 refine ⟨fun j hj => ?_, hlt⟩
 rw [e] at hj ⊢
 have hj' : j < d.length * 2 := by rw [← encT_len d]; simpa using hj
 have hv : ((d.map encT).flatten.toArray[j]!) = cs[j]'(by omega) := by
  rw [getElem!_pos _ j hj]
  have : (d.map encT).flatten[j]? = cs[j]? := by rw [hd, List.getElem?_take, if_pos hj']
  rw [List.getElem?_eq_getElem (by simpa using hj), List.getElem?_eq_getElem (by omega : j < cs.length)] at this
  simpa using this
 constructor
 ·rw [hv]
  simp only [World.cell?, hrow, Nat.zero_add, id]
  simp [List.getElem?_eq_getElem (by omega : j < cs.length)]
 ·rw [Nat.zero_add]; exact frozen_of_row w r j _ T hrow
end Go.Sx
