/- Boards in which an object has moved, or is removed: the reference's. -/
import Derived.Test.YtjaegdkkiefchaaGreatDoorC30
namespace Go.Proofs.YtjaegdkkiefchaaGreatDoor
open Go Go.Sx
set_option maxRecDepth 100000
set_option maxHeartbeats 1000000
theorem r_Rest (o : Ob) (H : Heap) (O : Own) : RetO PP F_zeitnotref14_Rest [.agg o.row.toArray] H O (.agg (restO o).row.toArray) := by
 refine run_zeitnotref14_Rest (vs := o.row) (by kernel_rfl) (ob_ones o) ?_
 simp only [T_zeitnotref14_Rest]
 refine newbox_den fun r0 => newbox_den fun r1 => ?_
 repeat (first | refine chkN_den ?_ | refine chkV_den ?_)
 exact ret_denO ⟨rfl, rfl⟩
theorem r_Reset (o : Ob) (z : Int) (H : Heap) (O : Own) : RetO PP F_zeitnotref14_Reset [.agg o.row.toArray, iV z] H O (.agg (resetO o z).row.toArray) := by
 refine run_zeitnotref14_Reset (vs := o.row ++ [iV z]) (by kernel_rfl) (ones_app (ob_ones o) ⟨rfl, trivial⟩) ?_
 simp only [T_zeitnotref14_Reset]
 refine newbox_den fun r0 => newbox_den fun r1 => ?_
 repeat (first | refine chkN_den ?_ | refine chkV_den ?_)
 refine call_retO (r_Rest o H O) rfl (vs := (restO o).row) (ob_ones _) fun H1 l1 => ?_
 repeat (first | refine chkN_den ?_ | refine chkV_den ?_)
 refine pure_den _ (eql_eq _ _) ?_
 repeat (first | refine chkN_den ?_ | refine chkV_den ?_)
 exact ret_denO ⟨rfl, rfl⟩
theorem without_take {l : List Int} {i : Nat} (h : i < l.length) (id : Int) : without (l.take (i + 1)) id = without (l.take i) id ++ (if l[i] != id then [l[i]] else []) := by
 rw [List.take_add_one, List.getElem?_eq_getElem h, without, List.filter_append]
 congr 1
 simp only [Option.toList_some, List.filter_cons, List.filter_nil]
theorem without_len (l : List Int) (id : Int) : (without l id).length ≤ l.length := List.length_filter_le _ _
theorem r_WithoutO {H : Heap} {v : Value} {l : List Int} (h : Sl H 1 v (ints l)) (hl : l.length ≤ 1000000) (id : Int) : Triple PP F_zeitnotref15_Without [v, iV id] H [] fun v' _ O' => OSl Ty_int 1 v' (ints (without l id)) O' := by
 refine run_zeitnotref15_Without (vs := [v, iV id]) (by kernel_rfl) ⟨h.one, rfl, trivial⟩ ?_
 simp only [T_zeitnotref15_Without]
 have hlen : evalPure .len [v] = some (iV l.length) := by have := h.len; rwa [ints, List.length_map] at this
 refine countY_den l.length (fun i x H' O' => Heap.le H H' ∧ OSl Ty_int 1 x (ints (without (l.take i) id)) O') ⟨Heap.le_refl _, OSl.nil _ _⟩ ?_
 rintro i x H' O' hi - ⟨hle, hx⟩
 repeat (first | refine chkN_den ?_ | refine chkV_den ?_)
 refine pure_den _ hlen (pure_den _ (lss_eq _ _) (br_den (fun hb => ?_) (fun hb => ?_)))
 ·have hlt : i < l.length := by simpa using hb
  obtain ⟨a, h1, h2, h3, h4⟩ := (h.le hle).idx (k := .i64) (i := i) (r := [iV l[i]]) (by simp [ints, hlt])
  refine pure_den _ h1 (load_den h2 h3 h4 (pure_den _ (neq_eq _ _) (br_den (fun hc => ?_) (fun hc => ?_))))
  ·refine pure_den _ h1 (load_den h2 h3 h4 (newbox_den fun r0 => ?_))
   have hw : (without (l.take i) id).length ≤ 1000000 := Nat.le_trans (without_len _ _) (by rw [List.length_take]; omega)
   repeat (first | refine chkN_den ?_ | refine chkV_den ?_)
   refine call_append (rows := ints (without (l.take i) id)) (news := [[iV l[i]]]) (O1 := O') (O2 := []) (e := Ty_int) (size := 1) (bytes := 8) (by kernel_rfl) (by simp) hx (fun Hf _ hf => Sl.block1 (hf _ List.mem_cons_self) rfl ⟨rfl, trivial⟩) (by simp [ints]; omega) (by simp [ints]; omega) ?_
   intro v' A' H6 l6 hA'
   refine pure_den _ (add_one (by omega)) (countY_cont (by simp [Eqs]) hlt ⟨Heap.le_trans hle l6, ?_⟩)
   rw [List.append_nil, without_take hlt, if_pos hc, ints, List.map_append]; exact hA'
  ·refine pure_den _ (add_one (by omega)) (countY_cont (by simp [Eqs]) hlt ⟨hle, ?_⟩)
   have hc : (l[i] != id) = false := hc
   rw [without_take hlt, if_neg (by rw [hc]; simp), List.append_nil]; exact hx
 ·have hge : l.length ≤ i := by simpa using hb
  rw [List.take_of_length_le hge] at hx
  exact ret_denO hx
theorem Triple.frozenS {P : Program} {f : FuncId} {args : List Value} {H : Heap} {e : TypeId} {size : Nat} {rows : List (List Value)} (h : Triple P f args H [] fun v _ O' => OSl e size v rows O') :
  Triple P f args H [] fun v H' O' => Sl H' size v rows ∧ O' = [] := by
 refine h.ghost ?_
 intro v H' O' _ hc ho
 obtain ⟨H'', g, k, _⟩ := ho.freeze (X := []) (by simpa using hc)
 exact ⟨H'', [], by simpa using g, k, rfl⟩
theorem r_Without {H : Heap} {v : Value} {l : List Int} (h : Sl H 1 v (ints l)) (hl : l.length ≤ 1000000) (id : Int) : Triple PP F_zeitnotref15_Without [v, iV id] H [] fun v' H' O' => Sl H' 1 v' (ints (without l id)) ∧ O' = [] :=
 Triple.frozenS (r_WithoutO h hl id)
def outR (b : Bd) (id : Int) : Bd := { outB b id with stack := b.stack.filter fun x => !onR id x }
def prR (id : Int) (row : List Value) : Bool := (asI (g row 3) == some (-1)) && asI (g row 1) == some id
theorem outR_eq {b : Bd} (h : validBd b = true) (id : Int) : outR b id = outB b id := by
 have : (b.stack.filter fun x => !onR id x) = b.stack.filter fun x => !isOn id x := List.filter_congr fun x hx => by rw [onR_isOn h id x hx]
 simp only [outR, outB, this]
theorem filter_take {α : Type} {p : α → Bool} {l : List α} {i : Nat} (h : i < l.length) : (l.take (i + 1)).filter p = (l.take i).filter p ++ (if p l[i] then [l[i]] else []) := by
 rw [List.take_add_one, List.getElem?_eq_getElem h, List.filter_append]
 congr 1
 simp only [Option.toList_some, List.filter_cons, List.filter_nil]
theorem countY_denG {P : Program} {lab key : Nat} {x0 : Value} {body : (List Value → Heap → Own → Prop) → List Value → Tree} {H : Heap} {O : Own} {Q : Value → Heap → Own → Prop} (n : Nat) (R : Nat → Value → Heap → Own → Prop)
  (h0 : Cons H O → ∃ H1 O1, Ghost H O H1 O1 ∧ R 0 x0 H1 O1) (step : ∀ i x H' O', i ≤ n → Heap.le H H' → R i x H' O' → (body (Back (IY n R) (MY n) (n - i)) [x, iV i]).den P Q H' O') :
  (Tree.loop lab key [x0, iV 0] body).den P Q H O := by
 refine ⟨IY n R, MY n, fun hc => ?_, ?_⟩
 ·obtain ⟨H1, O1, g, r⟩ := h0 hc
  exact ⟨H1, O1, g, 0, x0, rfl, Nat.zero_le _, r⟩
 ·rintro vs H' O' _ _ hle ⟨i, x, rfl, hi, hr⟩
  exact step i x H' O' hi hle hr
theorem r_Out {H : Heap} {v : BV12} {b : Bd} (h : BdS H v b) (hB : bdB b) (id : Int) : Triple PP F_zeitnotref15_Out [.agg (boardC v b).toArray, iV id] H [] fun r H' O' => (∃ w, r = .agg (boardC w (outR b id)).toArray ∧ BdS H' w (outR b id)) ∧ O' = [] := by
 refine run_zeitnotref15_Out (vs := boardC v b ++ [iV id]) (by kernel_rfl) (ones_app (boardC_ones (h.r [])) ⟨rfl, trivial⟩) ?_
 simp only [T_zeitnotref15_Out]
 have hB' := hB
 obtain ⟨b1, ⟨b2, b3, b4, b5⟩, ⟨b6, b7, b8, b9⟩, ⟨b10, b10'⟩, b11, b12, b13⟩ := hB
 refine newbox_den fun r0 => newbox_den fun r1 => ?_
 repeat (first | refine chkN_den ?_ | refine chkV_den ?_)
 refine call_new (Triple.frozen (r_Copy h hB')) ?_
 rintro _ H1 _ ⟨⟨w, rfl, hw⟩, rfl⟩ l1
 refine ⟨boardC w b, rfl, boardC_ones (hw.r []), ?_⟩
 repeat (first | refine chkN_den ?_ | refine chkV_den ?_)
 refine call_new (r_Without hw.s0.lib b2 id) ?_
 rintro x0 K0 _ ⟨z0, rfl⟩ j0
 refine ⟨[x0], rfl, ⟨z0.one, trivial⟩, ?_⟩
 replace hw := hw.le j0
 repeat (first | refine chkN_den ?_ | refine chkV_den ?_)
 refine call_new (r_Without hw.s0.hand b3 id) ?_
 rintro x1 K1 _ ⟨z1, rfl⟩ j1
 refine ⟨[x1], rfl, ⟨z1.one, trivial⟩, ?_⟩
 replace hw := hw.le j1
 replace z0 := z0.le j1
 repeat (first | refine chkN_den ?_ | refine chkV_den ?_)
 refine call_new (r_Without hw.s0.field b4 id) ?_
 rintro x2 K2 _ ⟨z2, rfl⟩ j2
 refine ⟨[x2], rfl, ⟨z2.one, trivial⟩, ?_⟩
 replace hw := hw.le j2
 replace z0 := z0.le j2
 replace z1 := z1.le j2
 repeat (first | refine chkN_den ?_ | refine chkV_den ?_)
 refine call_new (r_Without hw.s0.grave b5 id) ?_
 rintro x3 K3 _ ⟨z3, rfl⟩ j3
 refine ⟨[x3], rfl, ⟨z3.one, trivial⟩, ?_⟩
 replace hw := hw.le j3
 replace z0 := z0.le j3
 replace z1 := z1.le j3
 replace z2 := z2.le j3
 repeat (first | refine chkN_den ?_ | refine chkV_den ?_)
 refine call_new (r_Without hw.s1.lib b6 id) ?_
 rintro x4 K4 _ ⟨z4, rfl⟩ j4
 refine ⟨[x4], rfl, ⟨z4.one, trivial⟩, ?_⟩
 replace hw := hw.le j4
 replace z0 := z0.le j4
 replace z1 := z1.le j4
 replace z2 := z2.le j4
 replace z3 := z3.le j4
 repeat (first | refine chkN_den ?_ | refine chkV_den ?_)
 refine call_new (r_Without hw.s1.hand b7 id) ?_
 rintro x5 K5 _ ⟨z5, rfl⟩ j5
 refine ⟨[x5], rfl, ⟨z5.one, trivial⟩, ?_⟩
 replace hw := hw.le j5
 replace z0 := z0.le j5
 replace z1 := z1.le j5
 replace z2 := z2.le j5
 replace z3 := z3.le j5
 replace z4 := z4.le j5
 repeat (first | refine chkN_den ?_ | refine chkV_den ?_)
 refine call_new (r_Without hw.s1.field b8 id) ?_
 rintro x6 K6 _ ⟨z6, rfl⟩ j6
 refine ⟨[x6], rfl, ⟨z6.one, trivial⟩, ?_⟩
 replace hw := hw.le j6
 replace z0 := z0.le j6
 replace z1 := z1.le j6
 replace z2 := z2.le j6
 replace z3 := z3.le j6
 replace z4 := z4.le j6
 replace z5 := z5.le j6
 repeat (first | refine chkN_den ?_ | refine chkV_den ?_)
 refine call_new (r_Without hw.s1.grave b9 id) ?_
 rintro x7 K7 _ ⟨z7, rfl⟩ j7
 refine ⟨[x7], rfl, ⟨z7.one, trivial⟩, ?_⟩
 replace hw := hw.le j7
 replace z0 := z0.le j7
 replace z1 := z1.le j7
 replace z2 := z2.le j7
 replace z3 := z3.le j7
 replace z4 := z4.le j7
 replace z5 := z5.le j7
 replace z6 := z6.le j7
 have hsl := ItsR.len (hw.r []).stack
 have hsone := ItsR.one (hw.r []).stack
 obtain ⟨rows, hs, hrl, hit⟩ := hw.stack
 repeat (first | refine chkN_den ?_ | refine chkV_den ?_)
 refine countY_den b.stack.length (fun i x H' O' => Heap.le K7 H' ∧ OSl Ty_api_Item 5 x ((rows.take i).filter fun r => !prR id r) O') ⟨Heap.le_refl _, OSl.nil _ _⟩ ?_
 rintro i x H' O' hi - ⟨hle, hx⟩
 repeat (first | refine chkN_den ?_ | refine chkV_den ?_)
 refine pure_den _ hsl (pure_den _ (lss_eq _ _) (br_den (fun hb => ?_) (fun hb => ?_)))
 ·have hlt : i < b.stack.length := by simpa using hb
  have hlt2 : i < rows.length := by omega
  obtain ⟨s, hrow, hst⟩ := hit i rows[i] b.stack[i] (List.getElem?_eq_getElem hlt2) (List.getElem?_eq_getElem hlt)
  obtain ⟨a, h1, h2, h3, h4⟩ := (hs.le hle).idx (k := .i64) (i := i) (List.getElem?_eq_getElem hlt2)
  have hpr : prR id rows[i] = onR id b.stack[i] := by
   rw [hrow]
   show ((some b.stack[i].trig == some (-1)) && (some b.stack[i].id == some id)) = onR id b.stack[i]
   simp [onR]
  have hft := filter_take (p := fun r => !prR id r) hlt2
  simp only [hpr] at hft
  rw [hrow] at h2 h3 h4
  repeat (first | refine chkN_den ?_ | refine chkV_den ?_)
  refine pure_den _ h1 (load_den h2 h3 h4 (newbox_den fun r2 => ?_))
  repeat (first | refine chkN_den ?_ | refine chkV_den ?_ | refine newbox_den fun _ => ?_ | refine pure_den _ (lss_eq _ _) ?_ | refine pure_den _ (gtr_eq _ _) ?_ | refine pure_den _ (leq_eq _ _) ?_ | refine pure_den _ (geq_eq _ _) ?_ | refine pure_den _ (eql_eq _ _) ?_ | refine pure_den _ (neq_eq _ _) ?_ | refine pure_den _ (pick_and _ _) ?_ | refine pure_den _ (pick_or _ _) ?_ | refine pure_den _ (not_eq' _) ?_ | refine pure_den _ (beql_eq _ _) ?_ | refine pure_den _ (bneq_eq _ _) ?_)
  have hcond : (b.stack[i].trig != -1 || b.stack[i].id != id) = !onR id b.stack[i] := by
   simp only [onR, bne, Bool.not_and]
  refine br_den (fun hc => ?_) (fun hc => ?_)
  ·have hc : (b.stack[i].trig != -1 || b.stack[i].id != id) = true := hc
   rw [hcond] at hc
   have hw1 : ((rows.take i).filter fun r => !prR id r).length ≤ 1000000 := Nat.le_trans (List.length_filter_le _ _) (by rw [List.length_take]; omega)
   repeat (first | refine chkN_den ?_ | refine chkV_den ?_)
   refine newbox_den fun r3 => ?_
   repeat (first | refine chkN_den ?_ | refine chkV_den ?_)
   refine call_append (rows := (rows.take i).filter fun r => !prR id r) (news := [[iV b.stack[i].player, iV b.stack[i].id, iV b.stack[i].card, iV b.stack[i].trig, s]]) (O1 := O') (O2 := []) (e := Ty_api_Item) (size := 5) (bytes := 56) (by kernel_rfl) (by simp) hx
    (fun Hf _ hf => Sl.block1 (hf _ List.mem_cons_self) rfl h4) (by simp; omega) (by simp; omega) ?_
   intro v' A' H6 l6 hA'
   refine pure_den _ (add_one (by omega)) (countY_cont (by simp [Eqs]) hlt ⟨Heap.le_trans hle l6, ?_⟩)
   rw [List.append_nil, hft, if_pos hc, hrow]; exact hA'
  ·have hc : (b.stack[i].trig != -1 || b.stack[i].id != id) = false := hc
   rw [hcond] at hc
   repeat (first | refine chkN_den ?_ | refine chkV_den ?_)
   refine pure_den _ (add_one (by omega)) (countY_cont (by simp [Eqs]) hlt ⟨hle, ?_⟩)
   rw [hft, if_neg (by rw [hc]; simp), List.append_nil]; exact hx
 have hge : b.stack.length ≤ i := by simpa using hb
 rw [List.take_of_length_le (by omega)] at hx
 clear hb
 have hbl : evalPure .len [w.b] = some (iV b.blocks.length) := by have := hw.blocks.len; rwa [List.length_map] at this
 repeat (first | refine chkN_den ?_ | refine chkV_den ?_)
 refine countY_denG b.blocks.length (fun j y H2 O2 => Heap.le H' H2 ∧ Sl H2 5 x (rows.filter fun r => !prR id r) ∧ OSl Ty_api_Block 2 y (((b.blocks.take j).filter fun x => !inFight id x).map Bl.row) O2) (fun hc => ?_) ?_
 ·obtain ⟨H2, g, k, l2⟩ := hx.freeze (X := []) (by simpa using hc)
  exact ⟨H2, [], by simpa using g, l2, k, OSl.nil _ _⟩
 rintro j y H2 O2 hj - ⟨hle2, hxs, hy⟩
 repeat (first | refine chkN_den ?_ | refine chkV_den ?_)
 refine pure_den _ hbl (pure_den _ (lss_eq _ _) (br_den (fun hb => ?_) (fun hb => ?_)))
 ·have hlt : j < b.blocks.length := by simpa using hb
  obtain ⟨a, h1, h2, h3, h4⟩ := (hw.blocks.le (Heap.le_trans hle hle2)).idx (k := .i64) (i := j) (r := Bl.row b.blocks[j]) (by simp [hlt])
  have hft := filter_take (p := fun x => !inFight id x) hlt
  repeat (first | refine chkN_den ?_ | refine chkV_den ?_)
  refine pure_den _ h1 (load_den h2 h3 h4 (newbox_den fun r2 => ?_))
  repeat (first | refine chkN_den ?_ | refine chkV_den ?_ | refine newbox_den fun _ => ?_ | refine pure_den _ (lss_eq _ _) ?_ | refine pure_den _ (gtr_eq _ _) ?_ | refine pure_den _ (leq_eq _ _) ?_ | refine pure_den _ (geq_eq _ _) ?_ | refine pure_den _ (eql_eq _ _) ?_ | refine pure_den _ (neq_eq _ _) ?_ | refine pure_den _ (pick_and _ _) ?_ | refine pure_den _ (pick_or _ _) ?_ | refine pure_den _ (not_eq' _) ?_ | refine pure_den _ (beql_eq _ _) ?_ | refine pure_den _ (bneq_eq _ _) ?_)
  have hcond : (b.blocks[j].blocker != id && b.blocks[j].attacker != id) = !inFight id b.blocks[j] := by
   simp only [inFight, bne, Bool.not_or]
  refine br_den (fun hc => ?_) (fun hc => ?_)
  ·have hc : (b.blocks[j].blocker != id && b.blocks[j].attacker != id) = true := hc
   rw [hcond] at hc
   have hw1 : ((b.blocks.take j).filter fun x => !inFight id x).length ≤ 1000000 := Nat.le_trans (List.length_filter_le _ _) (by rw [List.length_take]; omega)
   repeat (first | refine chkN_den ?_ | refine chkV_den ?_)
   refine newbox_den fun r3 => ?_
   repeat (first | refine chkN_den ?_ | refine chkV_den ?_)
   refine call_append (rows := ((b.blocks.take j).filter fun x => !inFight id x).map Bl.row) (news := [Bl.row b.blocks[j]]) (O1 := O2) (O2 := []) (e := Ty_api_Block) (size := 2) (bytes := 16) (by kernel_rfl) (by simp) hy
    (fun Hf _ hf => Sl.block1 (hf _ List.mem_cons_self) rfl h4) (by simp; omega) (by simp; omega) ?_
   intro v' A' H6 l6 hA'
   refine pure_den _ (add_one (by omega)) (countY_cont (by simp [Eqs]) hlt ⟨Heap.le_trans hle2 l6, hxs.le l6, ?_⟩)
   rw [List.append_nil, hft, if_pos hc, List.map_append]; exact hA'
  ·have hc : (b.blocks[j].blocker != id && b.blocks[j].attacker != id) = false := hc
   rw [hcond] at hc
   repeat (first | refine chkN_den ?_ | refine chkV_den ?_)
   refine pure_den _ (add_one (by omega)) (countY_cont (by simp [Eqs]) hlt ⟨hle2, hxs, ?_⟩)
   rw [hft, if_neg (by rw [hc]; simp), List.append_nil]; exact hy
 have hge2 : b.blocks.length ≤ j := by simpa using hb
 rw [List.take_of_length_le hge2] at hy
 have lz := Heap.le_trans hle hle2
 repeat (first | refine chkN_den ?_ | refine chkV_den ?_)
 refine call_new (r_Without (hw.att.le lz) b12 id) ?_
 rintro x8 K8 _ ⟨z8, rfl⟩ j8
 refine ⟨[x8], rfl, ⟨z8.one, trivial⟩, ?_⟩
 have lz8 := Heap.le_trans lz j8
 repeat (first | refine chkN_den ?_ | refine chkV_den ?_)
 intro hc
 obtain ⟨H9, g9, k9, l9⟩ := hy.freeze (X := []) (hc.perm (by simp))
 have lz9 := Heap.le_trans lz8 l9
 obtain ⟨f1, f2⟩ := filter2 (p := fun r => !prR id r) (q := fun x => !onR id x) (R := fun r (x : It) => ∃ s, r = [iV x.player, iV x.id, iV x.card, iV x.trig, s] ∧ Sl H9 2 s (x.tgs.map Tg.row)) (fun r x ⟨s, e, _⟩ => by
  rw [e]
  show (!((some x.trig == some (-1)) && (some x.id == some id))) = !onR id x
  simp [onR]) rows b.stack hrl fun i r x a c => by
   obtain ⟨s, e, k⟩ := hit i r x a c
   exact ⟨s, e, k.le lz9⟩
 refine ⟨H9, [], (Ghost.perm (by simp)).trans g9, ⟨⟨w.o, x0, x1, x2, x3, x4, x5, x6, x7, x, w.q, x8, y⟩, rfl, ?_⟩, rfl⟩
 exact ⟨hw.objs.le lz9, ⟨z0.le lz9, z1.le lz9, z2.le lz9, z3.le lz9⟩, ⟨z4.le lz9, z5.le lz9, z6.le lz9, z7.le lz9⟩, ⟨_, hxs.le (Heap.le_trans j8 l9), f1, f2⟩, hw.queue.le lz9, z8.le l9, k9⟩
theorem r_Put {H : Heap} {v : BV12} {b : Bd} (h : BdS H v b) (hB : bdB b) (o : Ob) (ho : o.owner = 0 ∨ o.owner = 1) (z : Int) : Triple PP F_zeitnotref15_Put [.agg (boardC v b).toArray, .agg o.row.toArray, iV z] H [] fun r H' O' => (∃ w, r = .agg (boardC w (putB b o.owner z o.id)).toArray ∧ BdS H' w (putB b o.owner z o.id)) ∧ O' = [] := by
 refine run_zeitnotref15_Put (vs := boardC v b ++ (o.row ++ [iV z])) (by kernel_rfl) (ones_app (boardC_ones (h.r [])) (ones_app (ob_ones o) ⟨rfl, trivial⟩)) ?_
 simp only [T_zeitnotref15_Put]
 obtain ⟨b1, ⟨b2, b3, b4, b5⟩, ⟨b6, b7, b8, b9⟩, _⟩ := hB
 refine newbox_den fun r0 => newbox_den fun r1 => newbox_den fun r2 => ?_
 repeat (first | refine chkN_den ?_ | refine chkV_den ?_)
 have el : g (boardC v b ++ (o.row ++ [iV z])) 40 = iV o.owner := rfl
 rw [el]
 rcases ho with ho | ho
 ·rw [ho]
  refine ⟨.i64, 0, rfl, fun _ => ?_, fun e => absurd rfl e⟩
  repeat (first | refine chkN_den ?_ | refine chkV_den ?_)
  refine pure_den _ (eql_eq _ _) (br_den (fun hb => ?_) (fun n0 => ?_))
  ·have hz : z = 0 := by simpa using hb
   subst hz
   repeat (first | refine chkN_den ?_ | refine chkV_den ?_)
   refine app_new (e := Ty_int) (size := 1) (bytes := 8) (by kernel_rfl) h.s0.lib (by simp [ints]; omega) (by simp [ints]; omega) fun xa Oa H1 lA pa => ?_
   refine newbox_den fun r3 => ?_
   repeat (first | refine chkN_den ?_ | refine chkV_den ?_)
   refine call_append (rows := ints b.s0.lib) (news := [[iV o.id]]) (O1 := Oa) (O2 := []) (e := Ty_int) (size := 1) (bytes := 8) (by kernel_rfl) (by simp) pa (fun Hf _ hf => Sl.block1 (hf _ List.mem_cons_self) rfl ⟨rfl, trivial⟩) (by simp [ints]; omega) (by simp [ints]; omega) ?_
   intro v' A' H6 l6 hA'
   have hA2 : OSl Ty_int 1 v' (ints (b.s0.lib ++ [o.id])) A' := by rw [ints, List.map_append]; exact hA'
   repeat (first | refine chkN_den ?_ | refine chkV_den ?_)
   intro hc
   obtain ⟨H9, g9, kz, l9⟩ := hA2.freeze (X := []) (hc.perm (by simp))
   have lz := Heap.le_trans lA (Heap.le_trans l6 l9)
   exact ⟨H9, [], (Ghost.perm (by simp)).trans g9, ⟨{ v with l0 := v' }, rfl, ⟨(h.le lz).objs, ⟨kz, (h.le lz).s0.hand, (h.le lz).s0.field, (h.le lz).s0.grave⟩, (h.le lz).s1, (h.le lz).stack, (h.le lz).queue, (h.le lz).att, (h.le lz).blocks⟩⟩, rfl⟩
  repeat (first | refine chkN_den ?_ | refine chkV_den ?_)
  refine pure_den _ (eql_eq _ _) (br_den (fun hb => ?_) (fun n1 => ?_))
  ·have hz : z = 1 := by simpa using hb
   subst hz
   repeat (first | refine chkN_den ?_ | refine chkV_den ?_)
   refine app_new (e := Ty_int) (size := 1) (bytes := 8) (by kernel_rfl) h.s0.hand (by simp [ints]; omega) (by simp [ints]; omega) fun xa Oa H1 lA pa => ?_
   refine newbox_den fun r3 => ?_
   repeat (first | refine chkN_den ?_ | refine chkV_den ?_)
   refine call_append (rows := ints b.s0.hand) (news := [[iV o.id]]) (O1 := Oa) (O2 := []) (e := Ty_int) (size := 1) (bytes := 8) (by kernel_rfl) (by simp) pa (fun Hf _ hf => Sl.block1 (hf _ List.mem_cons_self) rfl ⟨rfl, trivial⟩) (by simp [ints]; omega) (by simp [ints]; omega) ?_
   intro v' A' H6 l6 hA'
   have hA2 : OSl Ty_int 1 v' (ints (b.s0.hand ++ [o.id])) A' := by rw [ints, List.map_append]; exact hA'
   repeat (first | refine chkN_den ?_ | refine chkV_den ?_)
   intro hc
   obtain ⟨H9, g9, kz, l9⟩ := hA2.freeze (X := []) (hc.perm (by simp))
   have lz := Heap.le_trans lA (Heap.le_trans l6 l9)
   exact ⟨H9, [], (Ghost.perm (by simp)).trans g9, ⟨{ v with h0 := v' }, rfl, ⟨(h.le lz).objs, ⟨(h.le lz).s0.lib, kz, (h.le lz).s0.field, (h.le lz).s0.grave⟩, (h.le lz).s1, (h.le lz).stack, (h.le lz).queue, (h.le lz).att, (h.le lz).blocks⟩⟩, rfl⟩
  repeat (first | refine chkN_den ?_ | refine chkV_den ?_)
  refine pure_den _ (eql_eq _ _) (br_den (fun hb => ?_) (fun n2 => ?_))
  ·have hz : z = 2 := by simpa using hb
   subst hz
   repeat (first | refine chkN_den ?_ | refine chkV_den ?_)
   refine app_new (e := Ty_int) (size := 1) (bytes := 8) (by kernel_rfl) h.s0.field (by simp [ints]; omega) (by simp [ints]; omega) fun xa Oa H1 lA pa => ?_
   refine newbox_den fun r3 => ?_
   repeat (first | refine chkN_den ?_ | refine chkV_den ?_)
   refine call_append (rows := ints b.s0.field) (news := [[iV o.id]]) (O1 := Oa) (O2 := []) (e := Ty_int) (size := 1) (bytes := 8) (by kernel_rfl) (by simp) pa (fun Hf _ hf => Sl.block1 (hf _ List.mem_cons_self) rfl ⟨rfl, trivial⟩) (by simp [ints]; omega) (by simp [ints]; omega) ?_
   intro v' A' H6 l6 hA'
   have hA2 : OSl Ty_int 1 v' (ints (b.s0.field ++ [o.id])) A' := by rw [ints, List.map_append]; exact hA'
   repeat (first | refine chkN_den ?_ | refine chkV_den ?_)
   intro hc
   obtain ⟨H9, g9, kz, l9⟩ := hA2.freeze (X := []) (hc.perm (by simp))
   have lz := Heap.le_trans lA (Heap.le_trans l6 l9)
   exact ⟨H9, [], (Ghost.perm (by simp)).trans g9, ⟨{ v with f0 := v' }, rfl, ⟨(h.le lz).objs, ⟨(h.le lz).s0.lib, (h.le lz).s0.hand, kz, (h.le lz).s0.grave⟩, (h.le lz).s1, (h.le lz).stack, (h.le lz).queue, (h.le lz).att, (h.le lz).blocks⟩⟩, rfl⟩
  repeat (first | refine chkN_den ?_ | refine chkV_den ?_)
  refine pure_den _ (eql_eq _ _) (br_den (fun hb => ?_) (fun n3 => ?_))
  ·have hz : z = 3 := by simpa using hb
   subst hz
   repeat (first | refine chkN_den ?_ | refine chkV_den ?_)
   refine app_new (e := Ty_int) (size := 1) (bytes := 8) (by kernel_rfl) h.s0.grave (by simp [ints]; omega) (by simp [ints]; omega) fun xa Oa H1 lA pa => ?_
   refine newbox_den fun r3 => ?_
   repeat (first | refine chkN_den ?_ | refine chkV_den ?_)
   refine call_append (rows := ints b.s0.grave) (news := [[iV o.id]]) (O1 := Oa) (O2 := []) (e := Ty_int) (size := 1) (bytes := 8) (by kernel_rfl) (by simp) pa (fun Hf _ hf => Sl.block1 (hf _ List.mem_cons_self) rfl ⟨rfl, trivial⟩) (by simp [ints]; omega) (by simp [ints]; omega) ?_
   intro v' A' H6 l6 hA'
   have hA2 : OSl Ty_int 1 v' (ints (b.s0.grave ++ [o.id])) A' := by rw [ints, List.map_append]; exact hA'
   repeat (first | refine chkN_den ?_ | refine chkV_den ?_)
   intro hc
   obtain ⟨H9, g9, kz, l9⟩ := hA2.freeze (X := []) (hc.perm (by simp))
   have lz := Heap.le_trans lA (Heap.le_trans l6 l9)
   exact ⟨H9, [], (Ghost.perm (by simp)).trans g9, ⟨{ v with g0 := v' }, rfl, ⟨(h.le lz).objs, ⟨(h.le lz).s0.lib, (h.le lz).s0.hand, (h.le lz).s0.field, kz⟩, (h.le lz).s1, (h.le lz).stack, (h.le lz).queue, (h.le lz).att, (h.le lz).blocks⟩⟩, rfl⟩
  repeat (first | refine chkN_den ?_ | refine chkV_den ?_)
  have e : putB b 0 z o.id = b := by
   have n0 : ¬ z = 0 := by simpa using n0
   have n1 : ¬ z = 1 := by simpa using n1
   have n2 : ¬ z = 2 := by simpa using n2
   have n3 : ¬ z = 3 := by simpa using n3
   simp only [putB, putZ, n0, n1, n2, n3, if_false]
   rfl
  rw [e]
  exact ret_denO ⟨⟨v, rfl, h⟩, rfl⟩
 ·rw [ho]
  refine ⟨.i64, 1, rfl, fun e => absurd e (by omega), fun _ => ⟨.i64, 1, rfl, fun _ => ?_, fun e => absurd rfl e⟩⟩
  repeat (first | refine chkN_den ?_ | refine chkV_den ?_)
  refine pure_den _ (eql_eq _ _) (br_den (fun hb => ?_) (fun n0 => ?_))
  ·have hz : z = 0 := by simpa using hb
   subst hz
   repeat (first | refine chkN_den ?_ | refine chkV_den ?_)
   refine app_new (e := Ty_int) (size := 1) (bytes := 8) (by kernel_rfl) h.s1.lib (by simp [ints]; omega) (by simp [ints]; omega) fun xa Oa H1 lA pa => ?_
   refine newbox_den fun r3 => ?_
   repeat (first | refine chkN_den ?_ | refine chkV_den ?_)
   refine call_append (rows := ints b.s1.lib) (news := [[iV o.id]]) (O1 := Oa) (O2 := []) (e := Ty_int) (size := 1) (bytes := 8) (by kernel_rfl) (by simp) pa (fun Hf _ hf => Sl.block1 (hf _ List.mem_cons_self) rfl ⟨rfl, trivial⟩) (by simp [ints]; omega) (by simp [ints]; omega) ?_
   intro v' A' H6 l6 hA'
   have hA2 : OSl Ty_int 1 v' (ints (b.s1.lib ++ [o.id])) A' := by rw [ints, List.map_append]; exact hA'
   repeat (first | refine chkN_den ?_ | refine chkV_den ?_)
   intro hc
   obtain ⟨H9, g9, kz, l9⟩ := hA2.freeze (X := []) (hc.perm (by simp))
   have lz := Heap.le_trans lA (Heap.le_trans l6 l9)
   exact ⟨H9, [], (Ghost.perm (by simp)).trans g9, ⟨{ v with l1 := v' }, rfl, ⟨(h.le lz).objs, (h.le lz).s0, ⟨kz, (h.le lz).s1.hand, (h.le lz).s1.field, (h.le lz).s1.grave⟩, (h.le lz).stack, (h.le lz).queue, (h.le lz).att, (h.le lz).blocks⟩⟩, rfl⟩
  repeat (first | refine chkN_den ?_ | refine chkV_den ?_)
  refine pure_den _ (eql_eq _ _) (br_den (fun hb => ?_) (fun n1 => ?_))
  ·have hz : z = 1 := by simpa using hb
   subst hz
   repeat (first | refine chkN_den ?_ | refine chkV_den ?_)
   refine app_new (e := Ty_int) (size := 1) (bytes := 8) (by kernel_rfl) h.s1.hand (by simp [ints]; omega) (by simp [ints]; omega) fun xa Oa H1 lA pa => ?_
   refine newbox_den fun r3 => ?_
   repeat (first | refine chkN_den ?_ | refine chkV_den ?_)
   refine call_append (rows := ints b.s1.hand) (news := [[iV o.id]]) (O1 := Oa) (O2 := []) (e := Ty_int) (size := 1) (bytes := 8) (by kernel_rfl) (by simp) pa (fun Hf _ hf => Sl.block1 (hf _ List.mem_cons_self) rfl ⟨rfl, trivial⟩) (by simp [ints]; omega) (by simp [ints]; omega) ?_
   intro v' A' H6 l6 hA'
   have hA2 : OSl Ty_int 1 v' (ints (b.s1.hand ++ [o.id])) A' := by rw [ints, List.map_append]; exact hA'
   repeat (first | refine chkN_den ?_ | refine chkV_den ?_)
   intro hc
   obtain ⟨H9, g9, kz, l9⟩ := hA2.freeze (X := []) (hc.perm (by simp))
   have lz := Heap.le_trans lA (Heap.le_trans l6 l9)
   exact ⟨H9, [], (Ghost.perm (by simp)).trans g9, ⟨{ v with h1 := v' }, rfl, ⟨(h.le lz).objs, (h.le lz).s0, ⟨(h.le lz).s1.lib, kz, (h.le lz).s1.field, (h.le lz).s1.grave⟩, (h.le lz).stack, (h.le lz).queue, (h.le lz).att, (h.le lz).blocks⟩⟩, rfl⟩
  repeat (first | refine chkN_den ?_ | refine chkV_den ?_)
  refine pure_den _ (eql_eq _ _) (br_den (fun hb => ?_) (fun n2 => ?_))
  ·have hz : z = 2 := by simpa using hb
   subst hz
   repeat (first | refine chkN_den ?_ | refine chkV_den ?_)
   refine app_new (e := Ty_int) (size := 1) (bytes := 8) (by kernel_rfl) h.s1.field (by simp [ints]; omega) (by simp [ints]; omega) fun xa Oa H1 lA pa => ?_
   refine newbox_den fun r3 => ?_
   repeat (first | refine chkN_den ?_ | refine chkV_den ?_)
   refine call_append (rows := ints b.s1.field) (news := [[iV o.id]]) (O1 := Oa) (O2 := []) (e := Ty_int) (size := 1) (bytes := 8) (by kernel_rfl) (by simp) pa (fun Hf _ hf => Sl.block1 (hf _ List.mem_cons_self) rfl ⟨rfl, trivial⟩) (by simp [ints]; omega) (by simp [ints]; omega) ?_
   intro v' A' H6 l6 hA'
   have hA2 : OSl Ty_int 1 v' (ints (b.s1.field ++ [o.id])) A' := by rw [ints, List.map_append]; exact hA'
   repeat (first | refine chkN_den ?_ | refine chkV_den ?_)
   intro hc
   obtain ⟨H9, g9, kz, l9⟩ := hA2.freeze (X := []) (hc.perm (by simp))
   have lz := Heap.le_trans lA (Heap.le_trans l6 l9)
   exact ⟨H9, [], (Ghost.perm (by simp)).trans g9, ⟨{ v with f1 := v' }, rfl, ⟨(h.le lz).objs, (h.le lz).s0, ⟨(h.le lz).s1.lib, (h.le lz).s1.hand, kz, (h.le lz).s1.grave⟩, (h.le lz).stack, (h.le lz).queue, (h.le lz).att, (h.le lz).blocks⟩⟩, rfl⟩
  repeat (first | refine chkN_den ?_ | refine chkV_den ?_)
  refine pure_den _ (eql_eq _ _) (br_den (fun hb => ?_) (fun n3 => ?_))
  ·have hz : z = 3 := by simpa using hb
   subst hz
   repeat (first | refine chkN_den ?_ | refine chkV_den ?_)
   refine app_new (e := Ty_int) (size := 1) (bytes := 8) (by kernel_rfl) h.s1.grave (by simp [ints]; omega) (by simp [ints]; omega) fun xa Oa H1 lA pa => ?_
   refine newbox_den fun r3 => ?_
   repeat (first | refine chkN_den ?_ | refine chkV_den ?_)
   refine call_append (rows := ints b.s1.grave) (news := [[iV o.id]]) (O1 := Oa) (O2 := []) (e := Ty_int) (size := 1) (bytes := 8) (by kernel_rfl) (by simp) pa (fun Hf _ hf => Sl.block1 (hf _ List.mem_cons_self) rfl ⟨rfl, trivial⟩) (by simp [ints]; omega) (by simp [ints]; omega) ?_
   intro v' A' H6 l6 hA'
   have hA2 : OSl Ty_int 1 v' (ints (b.s1.grave ++ [o.id])) A' := by rw [ints, List.map_append]; exact hA'
   repeat (first | refine chkN_den ?_ | refine chkV_den ?_)
   intro hc
   obtain ⟨H9, g9, kz, l9⟩ := hA2.freeze (X := []) (hc.perm (by simp))
   have lz := Heap.le_trans lA (Heap.le_trans l6 l9)
   exact ⟨H9, [], (Ghost.perm (by simp)).trans g9, ⟨{ v with g1 := v' }, rfl, ⟨(h.le lz).objs, (h.le lz).s0, ⟨(h.le lz).s1.lib, (h.le lz).s1.hand, (h.le lz).s1.field, kz⟩, (h.le lz).stack, (h.le lz).queue, (h.le lz).att, (h.le lz).blocks⟩⟩, rfl⟩
  repeat (first | refine chkN_den ?_ | refine chkV_den ?_)
  have e : putB b 1 z o.id = b := by
   have n0 : ¬ z = 0 := by simpa using n0
   have n1 : ¬ z = 1 := by simpa using n1
   have n2 : ¬ z = 2 := by simpa using n2
   have n3 : ¬ z = 3 := by simpa using n3
   simp only [putB, putZ, n0, n1, n2, n3, if_false]
   rfl
  rw [e]
  exact ret_denO ⟨⟨v, rfl, h⟩, rfl⟩
theorem outR_B {b : Bd} (h : bdB b) (id : Int) : bdB (outR b id) := by
 have := outB_B h id
 exact ⟨this.1, this.2.1, this.2.2.1, ⟨Nat.le_trans (List.length_filter_le _ _) h.2.2.2.1.1, fun x hx => h.2.2.2.1.2 x (List.mem_filter.1 hx).1⟩, this.2.2.2.2⟩
theorem setOb_B {b : Bd} (h : bdB b) (k : Nat) (o : Ob) : bdB (setOb b k o) := ⟨by simpa [setOb] using h.1, h.2⟩
/-- The reference's move. -/
def moveR (b : Bd) (k : Nat) (o : Ob) (z : Int) : Bd := putB (setOb (outR b o.id) k o) o.owner z o.id
theorem r_Move {H : Heap} {v : BV12} {b : Bd} (h : BdS H v b) (hB : bdB b) {k : Nat} {o : Ob} (hk : b.objs[k]? = some o) (hidx : idxO b o.id = k) (ho : o.owner = 0 ∨ o.owner = 1) (z : Int) :
  Triple PP F_zeitnotref15_Move [.agg (boardC v b).toArray, iV o.id, iV z] H [] fun r H' O' => (∃ w, r = .agg (boardC w (moveR b k (resetO o z) z)).toArray ∧ BdS H' w (moveR b k (resetO o z) z)) ∧ O' = [] := by
 refine run_zeitnotref15_Move (vs := boardC v b ++ [iV o.id, iV z]) (by kernel_rfl) (ones_app (boardC_ones (h.r [])) ⟨rfl, rfl, trivial⟩) ?_
 simp only [T_zeitnotref15_Move]
 refine newbox_den fun r0 => newbox_den fun r1 => ?_
 repeat (first | refine chkN_den ?_ | refine chkV_den ?_)
 refine call_retO (r_Index (h.r []) o.id) rfl ⟨rfl, trivial⟩ fun H1 l1 => ?_
 rw [hidx]
 replace h := h.le l1
 obtain ⟨a, h1, h2, _, h3, h4⟩ := (h.r []).objs.idx .i64 k (Ob.row o) (by rw [List.getElem?_map, hk]; rfl)
 repeat (first | refine chkN_den ?_ | refine chkV_den ?_)
 refine pure_den _ h1 (load_denR h2 h3 h4 ?_)
 repeat (first | refine chkN_den ?_ | refine chkV_den ?_)
 refine call_retO (r_Reset o z H1 []) rfl (vs := (resetO o z).row) (ob_ones _) fun H2 l2 => newbox_den fun r2 => ?_
 replace h := h.le l2
 repeat (first | refine chkN_den ?_ | refine chkV_den ?_)
 refine call_new (r_Out h hB o.id) ?_
 rintro _ H3 _ ⟨⟨w1, rfl, hw1⟩, rfl⟩ l3
 refine ⟨boardC w1 (outR b o.id), rfl, boardC_ones (hw1.r []), ?_⟩
 have hB1 := outR_B hB o.id
 repeat (first | refine chkN_den ?_ | refine chkV_den ?_)
 refine call_new (r_Set hw1 hB1 (resetO o z)) ?_
 have hset : setR (outR b o.id) (resetO o z) = setOb (outR b o.id) k (resetO o z) := by
  have : idxO (outR b o.id) (resetO o z).id = k := hidx
  simp only [setR, this, Int.toNat_natCast]
  rw [if_pos (by omega)]
 rw [hset]
 rintro _ H4 _ ⟨⟨w2, rfl, hw2⟩, rfl⟩ l4
 refine ⟨boardC w2 (setOb (outR b o.id) k (resetO o z)), rfl, boardC_ones (hw2.r []), ?_⟩
 repeat (first | refine chkN_den ?_ | refine chkV_den ?_)
 refine call_new (r_Put hw2 (setOb_B hB1 _ _) (resetO o z) ho z) ?_
 rintro _ H5 _ ⟨⟨w3, rfl, hw3⟩, rfl⟩ l5
 refine ⟨boardC w3 _, rfl, boardC_ones (hw3.r []), ?_⟩
 repeat (first | refine chkN_den ?_ | refine chkV_den ?_)
 exact ret_denO ⟨⟨w3, rfl, hw3⟩, rfl⟩
theorem r_Remove {H : Heap} {v : BV12} {b : Bd} (h : BdS H v b) (hB : bdB b) {k : Nat} {o : Ob} (hk : b.objs[k]? = some o) (hidx : idxO b o.id = k) :
  Triple PP F_zeitnotref15_Remove [.agg (boardC v b).toArray, iV o.id] H [] fun r H' O' => (∃ w, r = .agg (boardC w { outR b o.id with objs := b.objs.eraseIdx k }).toArray ∧ BdS H' w { outR b o.id with objs := b.objs.eraseIdx k }) ∧ O' = [] := by
 refine run_zeitnotref15_Remove (vs := boardC v b ++ [iV o.id]) (by kernel_rfl) (ones_app (boardC_ones (h.r [])) ⟨rfl, trivial⟩) ?_
 simp only [T_zeitnotref15_Remove]
 have hklt : k < b.objs.length := (List.getElem?_eq_some_iff.1 hk).1
 have hb1 := hB.1
 refine newbox_den fun r0 => newbox_den fun r1 => ?_
 repeat (first | refine chkN_den ?_ | refine chkV_den ?_)
 refine call_new (r_Out h hB o.id) ?_
 rintro _ H3 _ ⟨⟨w1, rfl, hw1⟩, rfl⟩ l3
 refine ⟨boardC w1 (outR b o.id), rfl, boardC_ones (hw1.r []), ?_⟩
 repeat (first | refine chkN_den ?_ | refine chkV_den ?_)
 refine call_retO (r_Index (hw1.r _) o.id) rfl ⟨rfl, trivial⟩ fun H1 l1 => ?_
 have hi2 : idxO (outR b o.id) o.id = k := hidx
 rw [hi2]
 replace hw1 := hw1.le l1
 have hobs : Sl H1 12 w1.o (b.objs.map Ob.row) := hw1.objs
 obtain ⟨u1, e1, s1⟩ := hobs.upto (i := k) (by rw [List.length_map]; omega)
 obtain ⟨u2, e2, s2⟩ := hobs.from (i := k + 1) (by rw [List.length_map]; omega)
 repeat (first | refine chkN_den ?_ | refine chkV_den ?_)
 refine pure_den _ e1 ?_
 repeat (first | refine chkN_den ?_ | refine chkV_den ?_)
 refine pure_den _ (add_one (by omega)) ?_
 repeat (first | refine chkN_den ?_ | refine chkV_den ?_)
 refine pure_den _ e2 ?_
 repeat (first | refine chkN_den ?_ | refine chkV_den ?_)
 refine app_new (e := Ty_api_Object) (size := 12) (bytes := 80) (by kernel_rfl) s1 (by simp; omega) (by simp; omega) fun xa Oa H2 lA pa => ?_
 repeat (first | refine chkN_den ?_ | refine chkV_den ?_)
 refine call_append (rows := (b.objs.map Ob.row).take k) (news := (b.objs.map Ob.row).drop (k + 1)) (O1 := Oa) (O2 := []) (e := Ty_api_Object) (size := 12) (bytes := 80) (by kernel_rfl) (by simp) pa (fun Hf lf _ => (s2.le lA).le lf) (by simp; omega) (by simp; omega) ?_
 intro v' A' H6 l6 hA'
 rw [← List.eraseIdx_eq_take_drop_succ, eraseIdx_map] at hA'
 repeat (first | refine chkN_den ?_ | refine chkV_den ?_)
 intro hc
 obtain ⟨H9, g9, kz, l9⟩ := hA'.freeze (X := []) (hc.perm (by simp))
 have lz := Heap.le_trans lA (Heap.le_trans l6 l9)
 exact ⟨H9, [], (Ghost.perm (by simp)).trans g9, ⟨{ w1 with o := v' }, rfl, ⟨kz, (hw1.le lz).s0, (hw1.le lz).s1, (hw1.le lz).stack, (hw1.le lz).queue, (hw1.le lz).att, (hw1.le lz).blocks⟩⟩, rfl⟩
end Go.Proofs.YtjaegdkkiefchaaGreatDoor
namespace Go.Proofs.YtjaegdkkiefchaaGreatDoor
open Go Go.Sx
set_option maxRecDepth 100000
set_option maxHeartbeats 1000000
theorem midB_B {b : Bd} (h : bdB b) {p : Int} (hp : p = 0 ∨ p = 1) (hlen : (seatOf b p).lib.length + (seatOf b p).hand.length ≤ 1000000) {l : List Int} {id : Int} (hl : (seatOf b p).lib = l ++ [id]) : bdB (midB b p id) := by
 obtain ⟨b1, ⟨b2, b3, b4, b5⟩, ⟨b6, b7, b8, b9⟩, b10⟩ := h
 rw [hl] at hlen
 simp only [List.length_append, List.length_cons, List.length_nil] at hlen
 rcases hp with rfl | rfl
 ·have hl : b.s0.lib = l ++ [id] := hl
  have hlen : l.length + (0 + 1) + b.s0.hand.length ≤ 1000000 := hlen
  refine ⟨b1, ⟨?_, ?_, b4, b5⟩, ⟨b6, b7, b8, b9⟩, b10⟩
  ·show (b.s0.lib.dropLast).length ≤ 1000000
   rw [List.length_dropLast]; omega
  ·show (b.s0.hand ++ [id]).length ≤ 1000000
   simp only [List.length_append, List.length_cons, List.length_nil]; omega
 ·have hl : b.s1.lib = l ++ [id] := hl
  have hlen : l.length + (0 + 1) + b.s1.hand.length ≤ 1000000 := hlen
  refine ⟨b1, ⟨b2, b3, b4, b5⟩, ⟨?_, ?_, b8, b9⟩, b10⟩
  ·show (b.s1.lib.dropLast).length ≤ 1000000
   rw [List.length_dropLast]; omega
  ·show (b.s1.hand ++ [id]).length ≤ 1000000
   simp only [List.length_append, List.length_cons, List.length_nil]; omega
theorem seat_mid {b : Bd} {p : Int} (hp : p = 0 ∨ p = 1) {l : List Int} {id : Int} (hl : (seatOf b p).lib = l ++ [id]) (k : Nat) (o : Ob) : (seatOf (setOb (midB b p id) k o) p).lib.length + (seatOf (setOb (midB b p id) k o) p).hand.length = (seatOf b p).lib.length + (seatOf b p).hand.length := by
 rcases hp with rfl | rfl
 ·have hl : b.s0.lib = l ++ [id] := hl
  show (b.s0.lib.dropLast).length + (b.s0.hand ++ [id]).length = b.s0.lib.length + b.s0.hand.length
  rw [hl, List.dropLast_concat]
  simp only [List.length_append, List.length_cons, List.length_nil]; omega
 ·have hl : b.s1.lib = l ++ [id] := hl
  show (b.s1.lib.dropLast).length + (b.s1.hand ++ [id]).length = b.s1.lib.length + b.s1.hand.length
  rw [hl, List.dropLast_concat]
  simp only [List.length_append, List.length_cons, List.length_nil]; omega
theorem r_Draw {H : Heap} {v : BV12} {b : Bd} (h : BdS H v b) (hB : bdB b) (hval : validBd b = true) (p : Int) (hp : p = 0 ∨ p = 1) (hsum : (seatOf b p).lib.length + (seatOf b p).hand.length ≤ 1000000) (n0 : Nat) (hn : n0 ≤ 1000) :
  Triple PP F_zeitnotref15_Draw [.agg (boardC v b).toArray, iV p, iV n0] H [] fun r H' O' => (∃ w, r = .agg (boardC w (drawGo n0 b p)).toArray ∧ BdS H' w (drawGo n0 b p)) ∧ O' = [] := by
 refine run_zeitnotref15_Draw (vs := boardC v b ++ [iV p, iV n0]) (by kernel_rfl) (ones_app (boardC_ones (h.r [])) ⟨rfl, rfl, trivial⟩) ?_
 simp only [T_zeitnotref15_Draw]
 refine newbox_den fun r0 => newbox_den fun r1 => ?_
 repeat (first | refine chkN_den ?_ | refine chkV_den ?_)
 refine call_new (Triple.frozen (r_Copy h hB)) ?_
 rintro _ H1 _ ⟨⟨w, rfl, hw⟩, rfl⟩ l1
 refine ⟨boardC w b, rfl, boardC_ones (hw.r []), ?_⟩
 repeat (first | refine chkN_den ?_ | refine chkV_den ?_)
 refine loop_den (fun vs H' O' => ∃ (i : Nat) (u : BV12) (c : Bd), vs = iV i :: boardC u c ∧ i ≤ n0 ∧ O' = [] ∧ BdS H' u c ∧ bdB c ∧ validBd c = true ∧ (seatOf c p).lib.length + (seatOf c p).hand.length ≤ 1000000 ∧ drawGo n0 b p = drawGo (n0 - i) c p)
  (fun vs _ _ => match g vs 0 with | .int _ k => n0 - k.toNat | _ => 0) ⟨0, w, b, rfl, Nat.zero_le _, rfl, hw, hB, hval, hsum, rfl⟩ ?_
 rintro vs H' O' - - - ⟨i, u, c, rfl, hi, rfl, hc, hcB, hcv, hcs, hgo⟩
 repeat (first | refine chkN_den ?_ | refine chkV_den ?_)
 refine pure_den _ (lss_eq _ _) (br_den (fun hb => ?_) (fun hb => ?_))
 ·have hlt : i < n0 := by have := of_decide_eq_true hb; omega
  obtain ⟨m', hm'⟩ : ∃ m', n0 - i = m' + 1 := ⟨n0 - i - 1, by omega⟩
  repeat (first | refine chkN_den ?_ | refine chkV_den ?_)
  rcases hp with rfl | rfl
  ·refine ⟨.i64, 0, rfl, fun _ => ?_, fun e => absurd rfl e⟩
   have hl1 : evalPure .len [u.l0] = some (iV c.s0.lib.length) := by have := hc.s0.lib.len; rwa [ints, List.length_map] at this
   repeat (first | refine chkN_den ?_ | refine chkV_den ?_)
   refine pure_den _ hl1 (pure_den _ (eql_eq _ _) (br_den (fun hb => ?_) (fun hb => ?_)))
   ·have h0 : c.s0.lib = [] := by
     have : c.s0.lib.length = 0 := by simpa using hb
     exact List.eq_nil_of_length_eq_zero this
    have e : drawGo n0 b 0 = withSeat c 0 { seatOf c 0 with empty := true } := by
     rw [hgo, hm', drawGo]
     have : (seatOf c 0).lib.getLast? = none := by
      show c.s0.lib.getLast? = none
      rw [h0]; rfl
     rw [this]
    rw [e]
    repeat (first | refine chkN_den ?_ | refine chkV_den ?_)
    refine ⟨.i64, 0, rfl, fun _ => ?_, fun e => absurd rfl e⟩
    repeat (first | refine chkN_den ?_ | refine chkV_den ?_)
    exact ret_denO ⟨⟨u, rfl, ⟨hc.objs, ⟨hc.s0.lib, hc.s0.hand, hc.s0.field, hc.s0.grave⟩, hc.s1, hc.stack, hc.queue, hc.att, hc.blocks⟩⟩, rfl⟩
   ·obtain ⟨l, id, hl⟩ : ∃ l id, c.s0.lib = l ++ [id] := by
     have hne : c.s0.lib ≠ [] := by intro e; rw [e] at hb; simp at hb
     exact ⟨c.s0.lib.dropLast, c.s0.lib.getLast hne, (List.dropLast_concat_getLast hne).symm⟩
    obtain ⟨k, ob, e1, e2, e3, e4, hmv, _, _, hid, hd, hdv⟩ := draw_step hcv (p := 0) (.inl rfl) (l := l) (id := id) hl
    have hll : c.s0.lib.length = l.length + 1 := by rw [hl]; simp
    have hls : l.length + 1 < 2 ^ 63 := by
     have := hc.s0.lib.lenB
     rw [ints, List.length_map, hll] at this; exact this
    repeat (first | refine chkN_den ?_ | refine chkV_den ?_)
    refine pure_den _ hl1 ?_
    rw [hll]
    repeat (first | refine chkN_den ?_ | refine chkV_den ?_)
    refine pure_den _ (sub_one hls) ?_
    repeat (first | refine chkN_den ?_ | refine chkV_den ?_)
    obtain ⟨a, i1, i2, i3, i4⟩ := hc.s0.lib.idx (k := .i64) (i := l.length) (r := [iV id]) (by rw [hl]; simp [ints])
    refine pure_den _ i1 (load_den i2 i3 i4 ?_)
    repeat (first | refine chkN_den ?_ | refine chkV_den ?_)
    have hmove : moveR c k (resetO ob 1) 1 = setOb (midB c 0 id) k (resetO ob 1) := by
     rw [← move_mid hcv (.inl rfl) hl e1 e2 e3]
     show putB (setOb (outR c ob.id) k _) ob.owner 1 ob.id = putB (setOb (outB c ob.id) k _) ob.owner 1 ob.id
     rw [outR_eq hcv]
    have hmv2 := r_Move hc hcB e1 (by rw [e2]; exact e4) (by rw [e3]; exact (.inl rfl)) 1
    rw [hmove, e2] at hmv2
    refine call_new hmv2 ?_
    rintro _ H2 _ ⟨⟨u2, rfl, hu2⟩, rfl⟩ l2
    refine ⟨boardC u2 _, rfl, boardC_ones (hu2.r []), ?_⟩
    repeat (first | refine chkN_den ?_ | refine chkV_den ?_)
    refine pure_den _ (add_one (by omega)) ?_
    repeat (first | refine chkN_den ?_ | refine chkV_den ?_)
    refine cont_den (by simp [Eqs]) ⟨i + 1, u2, _, rfl, by omega, rfl, hu2, setOb_B (midB_B hcB (.inl rfl) hcs hl) _ _, by rw [hd] at hdv; exact hdv, by rw [seat_mid (.inl rfl) hl]; exact hcs, ?_⟩ ?_
    ·rw [hgo, hm', drawGo]
     have egl : (seatOf c 0).lib.getLast? = some id := by
      show c.s0.lib.getLast? = some id
      rw [hl]; simp
     rw [egl]
     show drawGo m' (drawOne c 0 id) 0 = _
     rw [hd, show n0 - (i + 1) = m' by omega]
    ·show n0 - (((i + 1 : Nat) : Int)).toNat < n0 - ((i : Int)).toNat
     omega
  ·refine ⟨.i64, 1, rfl, fun e => absurd e (by omega), fun _ => ⟨.i64, 1, rfl, fun _ => ?_, fun e => absurd rfl e⟩⟩
   have hl1 : evalPure .len [u.l1] = some (iV c.s1.lib.length) := by have := hc.s1.lib.len; rwa [ints, List.length_map] at this
   repeat (first | refine chkN_den ?_ | refine chkV_den ?_)
   refine pure_den _ hl1 (pure_den _ (eql_eq _ _) (br_den (fun hb => ?_) (fun hb => ?_)))
   ·have h0 : c.s1.lib = [] := by
     have : c.s1.lib.length = 0 := by simpa using hb
     exact List.eq_nil_of_length_eq_zero this
    have e : drawGo n0 b 1 = withSeat c 1 { seatOf c 1 with empty := true } := by
     rw [hgo, hm', drawGo]
     have : (seatOf c 1).lib.getLast? = none := by
      show c.s1.lib.getLast? = none
      rw [h0]; rfl
     rw [this]
    rw [e]
    repeat (first | refine chkN_den ?_ | refine chkV_den ?_)
    refine ⟨.i64, 1, rfl, fun e => absurd e (by omega), fun _ => ⟨.i64, 1, rfl, fun _ => ?_, fun e => absurd rfl e⟩⟩
    repeat (first | refine chkN_den ?_ | refine chkV_den ?_)
    exact ret_denO ⟨⟨u, rfl, ⟨hc.objs, hc.s0, ⟨hc.s1.lib, hc.s1.hand, hc.s1.field, hc.s1.grave⟩, hc.stack, hc.queue, hc.att, hc.blocks⟩⟩, rfl⟩
   ·obtain ⟨l, id, hl⟩ : ∃ l id, c.s1.lib = l ++ [id] := by
     have hne : c.s1.lib ≠ [] := by intro e; rw [e] at hb; simp at hb
     exact ⟨c.s1.lib.dropLast, c.s1.lib.getLast hne, (List.dropLast_concat_getLast hne).symm⟩
    obtain ⟨k, ob, e1, e2, e3, e4, hmv, _, _, hid, hd, hdv⟩ := draw_step hcv (p := 1) (.inr rfl) (l := l) (id := id) hl
    have hll : c.s1.lib.length = l.length + 1 := by rw [hl]; simp
    have hls : l.length + 1 < 2 ^ 63 := by
     have := hc.s1.lib.lenB
     rw [ints, List.length_map, hll] at this; exact this
    repeat (first | refine chkN_den ?_ | refine chkV_den ?_)
    refine pure_den _ hl1 ?_
    rw [hll]
    repeat (first | refine chkN_den ?_ | refine chkV_den ?_)
    refine pure_den _ (sub_one hls) ?_
    repeat (first | refine chkN_den ?_ | refine chkV_den ?_)
    obtain ⟨a, i1, i2, i3, i4⟩ := hc.s1.lib.idx (k := .i64) (i := l.length) (r := [iV id]) (by rw [hl]; simp [ints])
    refine pure_den _ i1 (load_den i2 i3 i4 ?_)
    repeat (first | refine chkN_den ?_ | refine chkV_den ?_)
    have hmove : moveR c k (resetO ob 1) 1 = setOb (midB c 1 id) k (resetO ob 1) := by
     rw [← move_mid hcv (.inr rfl) hl e1 e2 e3]
     show putB (setOb (outR c ob.id) k _) ob.owner 1 ob.id = putB (setOb (outB c ob.id) k _) ob.owner 1 ob.id
     rw [outR_eq hcv]
    have hmv2 := r_Move hc hcB e1 (by rw [e2]; exact e4) (by rw [e3]; exact (.inr rfl)) 1
    rw [hmove, e2] at hmv2
    refine call_new hmv2 ?_
    rintro _ H2 _ ⟨⟨u2, rfl, hu2⟩, rfl⟩ l2
    refine ⟨boardC u2 _, rfl, boardC_ones (hu2.r []), ?_⟩
    repeat (first | refine chkN_den ?_ | refine chkV_den ?_)
    refine pure_den _ (add_one (by omega)) ?_
    repeat (first | refine chkN_den ?_ | refine chkV_den ?_)
    refine cont_den (by simp [Eqs]) ⟨i + 1, u2, _, rfl, by omega, rfl, hu2, setOb_B (midB_B hcB (.inr rfl) hcs hl) _ _, by rw [hd] at hdv; exact hdv, by rw [seat_mid (.inr rfl) hl]; exact hcs, ?_⟩ ?_
    ·rw [hgo, hm', drawGo]
     have egl : (seatOf c 1).lib.getLast? = some id := by
      show c.s1.lib.getLast? = some id
      rw [hl]; simp
     rw [egl]
     show drawGo m' (drawOne c 1 id) 1 = _
     rw [hd, show n0 - (i + 1) = m' by omega]
    ·show n0 - (((i + 1 : Nat) : Int)).toNat < n0 - ((i : Int)).toNat
     omega
 ·have hge : n0 - i = 0 := by have := of_decide_eq_false hb; omega
  rw [hgo, hge]
  repeat (first | refine chkN_den ?_ | refine chkV_den ?_)
  exact ret_denO ⟨⟨u, rfl, hc⟩, rfl⟩
end Go.Proofs.YtjaegdkkiefchaaGreatDoor
namespace Go.Proofs.YtjaegdkkiefchaaGreatDoor
open Go Go.Sx
set_option maxRecDepth 100000
set_option maxHeartbeats 1000000
theorem small_sum {b : Bd} (h : smallBd b = true) {p : Int} (hp : p = 0 ∨ p = 1) : (seatOf b p).lib.length + (seatOf b p).hand.length ≤ 1000000 := by
 simp only [smallBd, stSmall, Bool.and_eq_true, Bool.not_eq_true', decide_eq_false_iff_not] at h
 obtain ⟨⟨a1, a2, _⟩, ⟨a3, a4, _⟩, _⟩ := h
 rcases hp with rfl | rfl
 ·show b.s0.lib.length + b.s0.hand.length ≤ 1000000; omega
 ·show b.s1.lib.length + b.s1.hand.length ≤ 1000000; omega
theorem moves_true {H : Heap} (hgl : GlobOk glob0 H) {v : BV12} {b : Bd} (h : BdS H v b) {id : Int} (hid : i64 id) {z player n : Int} (_ : i64 z) (_ : i64 player) (_ : i64 n) :
  Triple PP F_zeitnotlaw15_BoardMoves [.agg (boardC v b).toArray, iV id, iV z, iV player, iV n] H [] fun r _ O' => r = .bool true ∧ O' = [] := by
 refine run_zeitnotlaw15_BoardMoves (vs := boardC v b ++ [iV id, iV z, iV player, iV n]) (by kernel_rfl) (ones_app (boardC_ones (h.r [])) ⟨rfl, rfl, rfl, rfl, trivial⟩) ?_
 simp only [T_zeitnotlaw15_BoardMoves]
 refine newbox_den fun r0 => ?_
 repeat (first | refine chkN_den ?_ | refine chkV_den ?_)
 refine call_retO (c_small (h.r [])) rfl ⟨rfl, trivial⟩ fun H1 l1 => ?_
 repeat (first | refine chkN_den ?_ | refine chkV_den ?_ | refine newbox_den fun _ => ?_ | refine pure_den _ (lss_eq _ _) ?_ | refine pure_den _ (gtr_eq _ _) ?_ | refine pure_den _ (leq_eq _ _) ?_ | refine pure_den _ (geq_eq _ _) ?_ | refine pure_den _ (eql_eq _ _) ?_ | refine pure_den _ (neq_eq _ _) ?_ | refine pure_den _ (pick_and _ _) ?_ | refine pure_den _ (pick_or _ _) ?_ | refine pure_den _ (not_eq' _) ?_ | refine pure_den _ (beql_eq _ _) ?_ | refine pure_den _ (bneq_eq _ _) ?_)
 refine br_den (fun _ => ?_) (fun hsm => ?_)
 ·exact call_retO (c_known (hgl.le l1) []) rfl ⟨rfl, trivial⟩ fun H2 l2 => ret_denO ⟨rfl, rfl⟩
 have hsm : (!smallBd b || decide (n > 1000)) = false := hsm
 rw [Bool.or_eq_false_iff] at hsm
 have sa := notF hsm.1
 have hn1000 : n ≤ 1000 := by have := of_decide_eq_false hsm.2; omega
 have hB := small_B sa
 have hsum : ∀ {p : Int}, p = 0 ∨ p = 1 → (seatOf b p).lib.length + (seatOf b p).hand.length ≤ 1000000 := fun hp => small_sum sa hp
 replace hgl := hgl.le l1
 replace h := h.le l1
 repeat (first | refine chkN_den ?_ | refine chkV_den ?_)
 refine call_new (Triple.frozen (r_Copy h hB)) ?_
 rintro _ H2 _ ⟨⟨u, rfl, hwas⟩, rfl⟩ l2
 refine ⟨boardC u b, rfl, boardC_ones (hwas.r []), newbox_den fun r1 => ?_⟩
 replace hgl := hgl.le l2
 replace h := h.le l2
 repeat (first | refine chkN_den ?_ | refine chkV_den ?_)
 refine call_new (c_Move h hB hid z) ?_
 rintro _ H3 O6 ⟨w6, rfl, hm6⟩ l3
 refine ⟨boardC w6 (moveV b id z).1 ++ [iV (moveV b id z).2], rfl, ones_app (ownB_ones H3 hm6) ⟨rfl, trivial⟩, newbox_den fun r2 => ?_⟩
 replace h := h.le l3
 replace hwas := hwas.le l3
 replace hgl := hgl.le l3
 repeat (first | refine chkN_den ?_ | refine chkV_den ?_)
 refine call_new (c_Remove h hB hid) ?_
 rintro _ H4 O7 ⟨w7, rfl, hr7⟩ l4
 refine ⟨boardC w7 (removeV b id).1 ++ [iV (removeV b id).2], rfl, ones_app (ownB_ones H4 hr7) ⟨rfl, trivial⟩, newbox_den fun r3 => ?_⟩
 replace h := h.le l4
 replace hwas := hwas.le l4
 replace hgl := hgl.le l4
 repeat (first | refine chkN_den ?_ | refine chkV_den ?_)
 refine call_new (c_Draw h hB player n hn1000) ?_
 rintro _ H5 O8 ⟨w8, rfl, hd8⟩ l5
 refine ⟨boardC w8 (drawV b player n).1 ++ [iV (drawV b player n).2], rfl, ones_app (ownB_ones H5 hd8) ⟨rfl, trivial⟩, newbox_den fun r4 => ?_⟩
 replace h := h.le l5
 replace hwas := hwas.le l5
 replace hgl := hgl.le l5
 repeat (first | refine chkN_den ?_ | refine chkV_den ?_)
 refine call_retO (r_Valid (h.r _) (small_fit sa)) rfl ⟨rfl, trivial⟩ fun H6 l6 => pure_den _ (not_eq' _) (br_den (fun hv => ?_) (fun hv => ?_))
 ·rw [valid_eq] at hv
  have hv : validBd b = false := notT hv
  have e2 : ∀ n, indexE b n = 2 := fun n => by simp [indexE, hv]
  have eM : moveV b id z = (zBd, 2) := by rw [moveV, if_pos (by rw [e2]; rfl)]
  have eR : removeV b id = (zBd, 2) := by rw [removeV, if_pos (by rw [e2]; rfl), e2]
  have eD : drawV b player n = (zBd, 2) := by rw [drawV, if_pos (by rw [hv]; rfl)]
  replace h := h.le l6
  replace hwas := hwas.le l6
  replace hgl := hgl.le l6
  repeat (first | refine chkN_den ?_ | refine chkV_den ?_)
  refine call_drop (O1 := O6) (O2 := O7 ++ O8) (perm_count fun a _ _ => by simp only [List.count_append, List.count_nil] <;> omega) (c_gives hm6 (bdS_zero _) h hwas _ 2) rfl ⟨rfl, trivial⟩ fun Hg1 Og1 lg1 => br_den (fun _ => ?_) (fun hx => by exfalso; simp only [eM, beq_self_eq_true, Bool.and_self, Bool.true_eq_false, reduceCtorEq] at hx)
  replace h := h.le lg1
  replace hwas := hwas.le lg1
  replace hgl := hgl.le lg1
  repeat (first | refine chkN_den ?_ | refine chkV_den ?_)
  refine call_drop (O1 := O7) (O2 := Og1 ++ O8) (perm_count fun a _ _ => by simp only [List.count_append, List.count_nil] <;> omega) (c_gives hr7 (bdS_zero _) h hwas _ 2) rfl ⟨rfl, trivial⟩ fun Hg2 Og2 lg2 => br_den (fun _ => ?_) (fun hx => by exfalso; simp only [eR, beq_self_eq_true, Bool.and_self, Bool.true_eq_false, reduceCtorEq] at hx)
  replace h := h.le lg2
  replace hwas := hwas.le lg2
  replace hgl := hgl.le lg2
  repeat (first | refine chkN_den ?_ | refine chkV_den ?_)
  refine call_drop (O1 := O8) (O2 := Og2 ++ Og1) (perm_count fun a _ _ => by simp only [List.count_append, List.count_nil] <;> omega) (c_gives hd8 (bdS_zero _) h hwas _ 2) rfl ⟨rfl, trivial⟩ fun Hg3 Og3 lg3 => br_den (fun _ => ?_) (fun hx => by exfalso; simp only [eD, beq_self_eq_true, Bool.and_self, Bool.true_eq_false, reduceCtorEq] at hx)
  exact call_retO (c_known (hgl.le lg3) _) rfl ⟨rfl, trivial⟩ fun _ _ => ret_drop ⟨rfl, rfl⟩
 replace h := h.le l6
 replace hwas := hwas.le l6
 replace hgl := hgl.le l6
 rw [valid_eq] at hv
 have hv : validBd b = true := notF hv
 repeat (first | refine chkN_den ?_ | refine chkV_den ?_)
 refine call_retO (r_Index (h.r _) id) rfl ⟨rfl, trivial⟩ fun H7 l7 => pure_den _ (geq_eq _ _) ?_
 replace h := h.le l7
 replace hwas := hwas.le l7
 replace hgl := hgl.le l7
 refine newbox_den fun r5 => newbox_den fun r6 => newbox_den fun r7 => ?_
 repeat (first | refine chkN_den ?_ | refine chkV_den ?_ | refine newbox_den fun _ => ?_ | refine pure_den _ (lss_eq _ _) ?_ | refine pure_den _ (gtr_eq _ _) ?_ | refine pure_den _ (leq_eq _ _) ?_ | refine pure_den _ (geq_eq _ _) ?_ | refine pure_den _ (eql_eq _ _) ?_ | refine pure_den _ (neq_eq _ _) ?_ | refine pure_den _ (pick_and _ _) ?_ | refine pure_den _ (pick_or _ _) ?_ | refine pure_den _ (not_eq' _) ?_ | refine pure_den _ (beql_eq _ _) ?_ | refine pure_den _ (bneq_eq _ _) ?_)
 refine br_den (fun hz => ?_) (fun hz => ?_)
 ·have hz : (decide (z < 0) || decide (z > 3)) = true := hz
  have hzw : withinB z 0 3 = false := by
   simp only [withinB, Bool.or_eq_true, decide_eq_true_eq, decide_eq_false_iff_not] at hz ⊢
   omega
  have eM : moveV b id z = (zBd, 2) := by rw [moveV, if_pos (by rw [hzw]; simp)]
  refine br_den (fun hi => ?_) (fun hi => ?_)
  ·have hi := of_decide_eq_true hi
   obtain ⟨k, o, e1, e2, e3⟩ := idxO_some (b := b) (id := id) (by omega)
   have hEne : (indexE b id != 0) = false := by
    have : ¬ idxO b id < 0 := by omega
    simp [indexE, hv, this]
   repeat (first | refine chkN_den ?_ | refine chkV_den ?_)
   have hrem := r_Remove h hB e1 (by rw [e2]; exact e3)
   rw [e2] at hrem
   refine call_new hrem ?_
   rintro _ HR _ ⟨⟨wr, rfl, hR⟩, rfl⟩ lR
   refine ⟨boardC wr _, rfl, boardC_ones (hR.r []), ?_⟩
   have eR : removeV b id = ({ outR b id with objs := b.objs.eraseIdx k }, 0) := by
    rw [removeV, if_neg (by rw [hEne]; simp), e3, outR_eq hv]; rfl
   replace h := h.le lR
   replace hwas := hwas.le lR
   replace hgl := hgl.le lR
   repeat (first | refine chkN_den ?_ | refine chkV_den ?_)
   repeat (first | refine chkN_den ?_ | refine chkV_den ?_ | refine newbox_den fun _ => ?_ | refine pure_den _ (lss_eq _ _) ?_ | refine pure_den _ (gtr_eq _ _) ?_ | refine pure_den _ (leq_eq _ _) ?_ | refine pure_den _ (geq_eq _ _) ?_ | refine pure_den _ (eql_eq _ _) ?_ | refine pure_den _ (neq_eq _ _) ?_ | refine pure_den _ (pick_and _ _) ?_ | refine pure_den _ (pick_or _ _) ?_ | refine pure_den _ (not_eq' _) ?_ | refine pure_den _ (beql_eq _ _) ?_ | refine pure_den _ (bneq_eq _ _) ?_)
   refine br_den (fun hx => ?_) (fun hx => ?_)
   ·have hx : (decide (player < 0) || decide (player > 1) || decide (n < 0)) = true := hx
    have eD : drawV b player n = (zBd, 2) := by
     have : (!withinB player 0 1 || decide (n < 0)) = true := by
      simp only [withinB, Bool.or_eq_true, Bool.not_eq_true', decide_eq_true_eq, decide_eq_false_iff_not] at hx ⊢
      omega
     rw [drawV, if_pos (by rw [this]; simp)]
    repeat (first | refine chkN_den ?_ | refine chkV_den ?_)
    refine call_drop (O1 := O6) (O2 := O7 ++ O8) (perm_count fun a _ _ => by simp only [List.count_append, List.count_nil] <;> omega) (c_gives hm6 (bdS_zero _) h hwas _ 2) rfl ⟨rfl, trivial⟩ fun Hg1 Og1 lg1 => br_den (fun _ => ?_) (fun hx => by exfalso; simp only [eM, beq_self_eq_true, Bool.and_self, Bool.true_eq_false, reduceCtorEq] at hx)
    replace h := h.le lg1
    replace hwas := hwas.le lg1
    replace hgl := hgl.le lg1
    replace hR := hR.le lg1
    repeat (first | refine chkN_den ?_ | refine chkV_den ?_)
    refine call_drop (O1 := O7) (O2 := Og1 ++ O8) (perm_count fun a _ _ => by simp only [List.count_append, List.count_nil] <;> omega) (c_gives hr7 hR h hwas _ 0) rfl ⟨rfl, trivial⟩ fun Hg2 Og2 lg2 => br_den (fun _ => ?_) (fun hx => by exfalso; simp only [eR, beq_self_eq_true, Bool.and_self, Bool.true_eq_false, reduceCtorEq] at hx)
    replace h := h.le lg2
    replace hwas := hwas.le lg2
    replace hgl := hgl.le lg2
    replace hR := hR.le lg2
    repeat (first | refine chkN_den ?_ | refine chkV_den ?_)
    refine call_drop (O1 := O8) (O2 := Og2 ++ Og1) (perm_count fun a _ _ => by simp only [List.count_append, List.count_nil] <;> omega) (c_gives hd8 (bdS_zero _) h hwas _ 2) rfl ⟨rfl, trivial⟩ fun Hg3 Og3 lg3 => br_den (fun _ => ?_) (fun hx => by exfalso; simp only [eD, beq_self_eq_true, Bool.and_self, Bool.true_eq_false, reduceCtorEq] at hx)
    exact call_retO (c_known (hgl.le lg3) _) rfl ⟨rfl, trivial⟩ fun _ _ => ret_drop ⟨rfl, rfl⟩
   have hx : (decide (player < 0) || decide (player > 1) || decide (n < 0)) = false := hx
   simp only [Bool.or_eq_false_iff, decide_eq_false_iff_not] at hx
   obtain ⟨⟨x1, x2⟩, x3⟩ := hx
   have hp : player = 0 ∨ player = 1 := by omega
   obtain ⟨n0, rfl⟩ : ∃ n0 : Nat, n = n0 := ⟨n.toNat, by omega⟩
   have eD : drawV b player n0 = (drawGo n0 b player, 0) := by
    have : (!withinB player 0 1 || decide ((n0 : Int) < 0)) = false := by
     simp only [withinB, Bool.or_eq_false_iff, Bool.not_eq_false', decide_eq_true_eq, decide_eq_false_iff_not]
     omega
    rw [drawV, if_neg (by rw [this, hv]; simp), Int.toNat_natCast]
   repeat (first | refine chkN_den ?_ | refine chkV_den ?_)
   refine call_new (r_Draw h hB hv player hp (hsum hp) n0 (by omega)) ?_
   rintro _ HD _ ⟨⟨wd, rfl, hD⟩, rfl⟩ lD
   refine ⟨boardC wd _, rfl, boardC_ones (hD.r []), ?_⟩
   replace h := h.le lD
   replace hwas := hwas.le lD
   replace hgl := hgl.le lD
   replace hR := hR.le lD
   repeat (first | refine chkN_den ?_ | refine chkV_den ?_)
   refine call_drop (O1 := O6) (O2 := O7 ++ O8) (perm_count fun a _ _ => by simp only [List.count_append, List.count_nil] <;> omega) (c_gives hm6 (bdS_zero _) h hwas _ 2) rfl ⟨rfl, trivial⟩ fun Hg1 Og1 lg1 => br_den (fun _ => ?_) (fun hx => by exfalso; simp only [eM, beq_self_eq_true, Bool.and_self, Bool.true_eq_false, reduceCtorEq] at hx)
   replace h := h.le lg1
   replace hwas := hwas.le lg1
   replace hgl := hgl.le lg1
   replace hR := hR.le lg1
   replace hD := hD.le lg1
   repeat (first | refine chkN_den ?_ | refine chkV_den ?_)
   refine call_drop (O1 := O7) (O2 := Og1 ++ O8) (perm_count fun a _ _ => by simp only [List.count_append, List.count_nil] <;> omega) (c_gives hr7 hR h hwas _ 0) rfl ⟨rfl, trivial⟩ fun Hg2 Og2 lg2 => br_den (fun _ => ?_) (fun hx => by exfalso; simp only [eR, beq_self_eq_true, Bool.and_self, Bool.true_eq_false, reduceCtorEq] at hx)
   replace h := h.le lg2
   replace hwas := hwas.le lg2
   replace hgl := hgl.le lg2
   replace hR := hR.le lg2
   replace hD := hD.le lg2
   repeat (first | refine chkN_den ?_ | refine chkV_den ?_)
   refine call_drop (O1 := O8) (O2 := Og2 ++ Og1) (perm_count fun a _ _ => by simp only [List.count_append, List.count_nil] <;> omega) (c_gives hd8 hD h hwas _ 0) rfl ⟨rfl, trivial⟩ fun Hg3 Og3 lg3 => br_den (fun _ => ?_) (fun hx => by exfalso; simp only [eD, beq_self_eq_true, Bool.and_self, Bool.true_eq_false, reduceCtorEq] at hx)
   exact call_retO (c_known (hgl.le lg3) _) rfl ⟨rfl, trivial⟩ fun _ _ => ret_drop ⟨rfl, rfl⟩
  ·have hi := of_decide_eq_false hi
   have eI : indexE b id = 9 := by
    have : idxO b id < 0 := by omega
    simp [indexE, hv, this]
   have eR : removeV b id = (zBd, 9) := by rw [removeV, if_pos (by rw [eI]; rfl), eI]
   repeat (first | refine chkN_den ?_ | refine chkV_den ?_)
   repeat (first | refine chkN_den ?_ | refine chkV_den ?_ | refine newbox_den fun _ => ?_ | refine pure_den _ (lss_eq _ _) ?_ | refine pure_den _ (gtr_eq _ _) ?_ | refine pure_den _ (leq_eq _ _) ?_ | refine pure_den _ (geq_eq _ _) ?_ | refine pure_den _ (eql_eq _ _) ?_ | refine pure_den _ (neq_eq _ _) ?_ | refine pure_den _ (pick_and _ _) ?_ | refine pure_den _ (pick_or _ _) ?_ | refine pure_den _ (not_eq' _) ?_ | refine pure_den _ (beql_eq _ _) ?_ | refine pure_den _ (bneq_eq _ _) ?_)
   refine br_den (fun hx => ?_) (fun hx => ?_)
   ·have hx : (decide (player < 0) || decide (player > 1) || decide (n < 0)) = true := hx
    have eD : drawV b player n = (zBd, 2) := by
     have : (!withinB player 0 1 || decide (n < 0)) = true := by
      simp only [withinB, Bool.or_eq_true, Bool.not_eq_true', decide_eq_true_eq, decide_eq_false_iff_not] at hx ⊢
      omega
     rw [drawV, if_pos (by rw [this]; simp)]
    repeat (first | refine chkN_den ?_ | refine chkV_den ?_)
    refine call_drop (O1 := O6) (O2 := O7 ++ O8) (perm_count fun a _ _ => by simp only [List.count_append, List.count_nil] <;> omega) (c_gives hm6 (bdS_zero _) h hwas _ 2) rfl ⟨rfl, trivial⟩ fun Hg1 Og1 lg1 => br_den (fun _ => ?_) (fun hx => by exfalso; simp only [eM, beq_self_eq_true, Bool.and_self, Bool.true_eq_false, reduceCtorEq] at hx)
    replace h := h.le lg1
    replace hwas := hwas.le lg1
    replace hgl := hgl.le lg1
    repeat (first | refine chkN_den ?_ | refine chkV_den ?_)
    refine call_drop (O1 := O7) (O2 := Og1 ++ O8) (perm_count fun a _ _ => by simp only [List.count_append, List.count_nil] <;> omega) (c_gives hr7 (bdS_zero _) h hwas _ 9) rfl ⟨rfl, trivial⟩ fun Hg2 Og2 lg2 => br_den (fun _ => ?_) (fun hx => by exfalso; simp only [eR, beq_self_eq_true, Bool.and_self, Bool.true_eq_false, reduceCtorEq] at hx)
    replace h := h.le lg2
    replace hwas := hwas.le lg2
    replace hgl := hgl.le lg2
    repeat (first | refine chkN_den ?_ | refine chkV_den ?_)
    refine call_drop (O1 := O8) (O2 := Og2 ++ Og1) (perm_count fun a _ _ => by simp only [List.count_append, List.count_nil] <;> omega) (c_gives hd8 (bdS_zero _) h hwas _ 2) rfl ⟨rfl, trivial⟩ fun Hg3 Og3 lg3 => br_den (fun _ => ?_) (fun hx => by exfalso; simp only [eD, beq_self_eq_true, Bool.and_self, Bool.true_eq_false, reduceCtorEq] at hx)
    exact call_retO (c_known (hgl.le lg3) _) rfl ⟨rfl, trivial⟩ fun _ _ => ret_drop ⟨rfl, rfl⟩
   have hx : (decide (player < 0) || decide (player > 1) || decide (n < 0)) = false := hx
   simp only [Bool.or_eq_false_iff, decide_eq_false_iff_not] at hx
   obtain ⟨⟨x1, x2⟩, x3⟩ := hx
   have hp : player = 0 ∨ player = 1 := by omega
   obtain ⟨n0, rfl⟩ : ∃ n0 : Nat, n = n0 := ⟨n.toNat, by omega⟩
   have eD : drawV b player n0 = (drawGo n0 b player, 0) := by
    have : (!withinB player 0 1 || decide ((n0 : Int) < 0)) = false := by
     simp only [withinB, Bool.or_eq_false_iff, Bool.not_eq_false', decide_eq_true_eq, decide_eq_false_iff_not]
     omega
    rw [drawV, if_neg (by rw [this, hv]; simp), Int.toNat_natCast]
   repeat (first | refine chkN_den ?_ | refine chkV_den ?_)
   refine call_new (r_Draw h hB hv player hp (hsum hp) n0 (by omega)) ?_
   rintro _ HD _ ⟨⟨wd, rfl, hD⟩, rfl⟩ lD
   refine ⟨boardC wd _, rfl, boardC_ones (hD.r []), ?_⟩
   replace h := h.le lD
   replace hwas := hwas.le lD
   replace hgl := hgl.le lD
   repeat (first | refine chkN_den ?_ | refine chkV_den ?_)
   refine call_drop (O1 := O6) (O2 := O7 ++ O8) (perm_count fun a _ _ => by simp only [List.count_append, List.count_nil] <;> omega) (c_gives hm6 (bdS_zero _) h hwas _ 2) rfl ⟨rfl, trivial⟩ fun Hg1 Og1 lg1 => br_den (fun _ => ?_) (fun hx => by exfalso; simp only [eM, beq_self_eq_true, Bool.and_self, Bool.true_eq_false, reduceCtorEq] at hx)
   replace h := h.le lg1
   replace hwas := hwas.le lg1
   replace hgl := hgl.le lg1
   replace hD := hD.le lg1
   repeat (first | refine chkN_den ?_ | refine chkV_den ?_)
   refine call_drop (O1 := O7) (O2 := Og1 ++ O8) (perm_count fun a _ _ => by simp only [List.count_append, List.count_nil] <;> omega) (c_gives hr7 (bdS_zero _) h hwas _ 9) rfl ⟨rfl, trivial⟩ fun Hg2 Og2 lg2 => br_den (fun _ => ?_) (fun hx => by exfalso; simp only [eR, beq_self_eq_true, Bool.and_self, Bool.true_eq_false, reduceCtorEq] at hx)
   replace h := h.le lg2
   replace hwas := hwas.le lg2
   replace hgl := hgl.le lg2
   replace hD := hD.le lg2
   repeat (first | refine chkN_den ?_ | refine chkV_den ?_)
   refine call_drop (O1 := O8) (O2 := Og2 ++ Og1) (perm_count fun a _ _ => by simp only [List.count_append, List.count_nil] <;> omega) (c_gives hd8 hD h hwas _ 0) rfl ⟨rfl, trivial⟩ fun Hg3 Og3 lg3 => br_den (fun _ => ?_) (fun hx => by exfalso; simp only [eD, beq_self_eq_true, Bool.and_self, Bool.true_eq_false, reduceCtorEq] at hx)
   exact call_retO (c_known (hgl.le lg3) _) rfl ⟨rfl, trivial⟩ fun _ _ => ret_drop ⟨rfl, rfl⟩
 have hz : (decide (z < 0) || decide (z > 3)) = false := hz
 have hzw : withinB z 0 3 = true := by
  simp only [withinB, Bool.or_eq_false_iff, decide_eq_true_eq, decide_eq_false_iff_not] at hz ⊢
  omega
 refine pure_den _ (not_eq' _) (br_den (fun hi => ?_) (fun hi => ?_))
 ·have hi' := notT hi
  refine br_den (fun hx => ?_) (fun _ => ?_)
  ·exfalso
   have hx := of_decide_eq_true hx
   have := of_decide_eq_false hi'
   omega
  have hi := of_decide_eq_false hi'
  have eI : indexE b id = 9 := by
   have : idxO b id < 0 := by omega
   simp [indexE, hv, this]
  have eR : removeV b id = (zBd, 9) := by rw [removeV, if_pos (by rw [eI]; rfl), eI]
  have eM : moveV b id z = (zBd, 9) := by rw [moveV, if_neg (by rw [eI, hzw]; decide), if_pos (by rw [eI]; rfl), eI]
  repeat (first | refine chkN_den ?_ | refine chkV_den ?_)
  repeat (first | refine chkN_den ?_ | refine chkV_den ?_ | refine newbox_den fun _ => ?_ | refine pure_den _ (lss_eq _ _) ?_ | refine pure_den _ (gtr_eq _ _) ?_ | refine pure_den _ (leq_eq _ _) ?_ | refine pure_den _ (geq_eq _ _) ?_ | refine pure_den _ (eql_eq _ _) ?_ | refine pure_den _ (neq_eq _ _) ?_ | refine pure_den _ (pick_and _ _) ?_ | refine pure_den _ (pick_or _ _) ?_ | refine pure_den _ (not_eq' _) ?_ | refine pure_den _ (beql_eq _ _) ?_ | refine pure_den _ (bneq_eq _ _) ?_)
  refine br_den (fun hx => ?_) (fun hx => ?_)
  ·have hx : (decide (player < 0) || decide (player > 1) || decide (n < 0)) = true := hx
   have eD : drawV b player n = (zBd, 2) := by
    have : (!withinB player 0 1 || decide (n < 0)) = true := by
     simp only [withinB, Bool.or_eq_true, Bool.not_eq_true', decide_eq_true_eq, decide_eq_false_iff_not] at hx ⊢
     omega
    rw [drawV, if_pos (by rw [this]; simp)]
   repeat (first | refine chkN_den ?_ | refine chkV_den ?_)
   refine call_drop (O1 := O6) (O2 := O7 ++ O8) (perm_count fun a _ _ => by simp only [List.count_append, List.count_nil] <;> omega) (c_gives hm6 (bdS_zero _) h hwas _ 9) rfl ⟨rfl, trivial⟩ fun Hg1 Og1 lg1 => br_den (fun _ => ?_) (fun hx => by exfalso; simp only [eM, beq_self_eq_true, Bool.and_self, Bool.true_eq_false, reduceCtorEq] at hx)
   replace h := h.le lg1
   replace hwas := hwas.le lg1
   replace hgl := hgl.le lg1
   repeat (first | refine chkN_den ?_ | refine chkV_den ?_)
   refine call_drop (O1 := O7) (O2 := Og1 ++ O8) (perm_count fun a _ _ => by simp only [List.count_append, List.count_nil] <;> omega) (c_gives hr7 (bdS_zero _) h hwas _ 9) rfl ⟨rfl, trivial⟩ fun Hg2 Og2 lg2 => br_den (fun _ => ?_) (fun hx => by exfalso; simp only [eR, beq_self_eq_true, Bool.and_self, Bool.true_eq_false, reduceCtorEq] at hx)
   replace h := h.le lg2
   replace hwas := hwas.le lg2
   replace hgl := hgl.le lg2
   repeat (first | refine chkN_den ?_ | refine chkV_den ?_)
   refine call_drop (O1 := O8) (O2 := Og2 ++ Og1) (perm_count fun a _ _ => by simp only [List.count_append, List.count_nil] <;> omega) (c_gives hd8 (bdS_zero _) h hwas _ 2) rfl ⟨rfl, trivial⟩ fun Hg3 Og3 lg3 => br_den (fun _ => ?_) (fun hx => by exfalso; simp only [eD, beq_self_eq_true, Bool.and_self, Bool.true_eq_false, reduceCtorEq] at hx)
   exact call_retO (c_known (hgl.le lg3) _) rfl ⟨rfl, trivial⟩ fun _ _ => ret_drop ⟨rfl, rfl⟩
  have hx : (decide (player < 0) || decide (player > 1) || decide (n < 0)) = false := hx
  simp only [Bool.or_eq_false_iff, decide_eq_false_iff_not] at hx
  obtain ⟨⟨x1, x2⟩, x3⟩ := hx
  have hp : player = 0 ∨ player = 1 := by omega
  obtain ⟨n0, rfl⟩ : ∃ n0 : Nat, n = n0 := ⟨n.toNat, by omega⟩
  have eD : drawV b player n0 = (drawGo n0 b player, 0) := by
   have : (!withinB player 0 1 || decide ((n0 : Int) < 0)) = false := by
    simp only [withinB, Bool.or_eq_false_iff, Bool.not_eq_false', decide_eq_true_eq, decide_eq_false_iff_not]
    omega
   rw [drawV, if_neg (by rw [this, hv]; simp), Int.toNat_natCast]
  repeat (first | refine chkN_den ?_ | refine chkV_den ?_)
  refine call_new (r_Draw h hB hv player hp (hsum hp) n0 (by omega)) ?_
  rintro _ HD _ ⟨⟨wd, rfl, hD⟩, rfl⟩ lD
  refine ⟨boardC wd _, rfl, boardC_ones (hD.r []), ?_⟩
  replace h := h.le lD
  replace hwas := hwas.le lD
  replace hgl := hgl.le lD
  repeat (first | refine chkN_den ?_ | refine chkV_den ?_)
  refine call_drop (O1 := O6) (O2 := O7 ++ O8) (perm_count fun a _ _ => by simp only [List.count_append, List.count_nil] <;> omega) (c_gives hm6 (bdS_zero _) h hwas _ 9) rfl ⟨rfl, trivial⟩ fun Hg1 Og1 lg1 => br_den (fun _ => ?_) (fun hx => by exfalso; simp only [eM, beq_self_eq_true, Bool.and_self, Bool.true_eq_false, reduceCtorEq] at hx)
  replace h := h.le lg1
  replace hwas := hwas.le lg1
  replace hgl := hgl.le lg1
  replace hD := hD.le lg1
  repeat (first | refine chkN_den ?_ | refine chkV_den ?_)
  refine call_drop (O1 := O7) (O2 := Og1 ++ O8) (perm_count fun a _ _ => by simp only [List.count_append, List.count_nil] <;> omega) (c_gives hr7 (bdS_zero _) h hwas _ 9) rfl ⟨rfl, trivial⟩ fun Hg2 Og2 lg2 => br_den (fun _ => ?_) (fun hx => by exfalso; simp only [eR, beq_self_eq_true, Bool.and_self, Bool.true_eq_false, reduceCtorEq] at hx)
  replace h := h.le lg2
  replace hwas := hwas.le lg2
  replace hgl := hgl.le lg2
  replace hD := hD.le lg2
  repeat (first | refine chkN_den ?_ | refine chkV_den ?_)
  refine call_drop (O1 := O8) (O2 := Og2 ++ Og1) (perm_count fun a _ _ => by simp only [List.count_append, List.count_nil] <;> omega) (c_gives hd8 hD h hwas _ 0) rfl ⟨rfl, trivial⟩ fun Hg3 Og3 lg3 => br_den (fun _ => ?_) (fun hx => by exfalso; simp only [eD, beq_self_eq_true, Bool.and_self, Bool.true_eq_false, reduceCtorEq] at hx)
  exact call_retO (c_known (hgl.le lg3) _) rfl ⟨rfl, trivial⟩ fun _ _ => ret_drop ⟨rfl, rfl⟩
 have hi' := notF hi
 have hi := of_decide_eq_true hi'
 obtain ⟨k, o, e1, e2, e3⟩ := idxO_some (b := b) (id := id) (by omega)
 have hE0 : indexE b id = 0 := by
  have : ¬ idxO b id < 0 := by omega
  simp [indexE, hv, this]
 have hEne : (indexE b id != 0) = false := by rw [hE0]; rfl
 have hown := (obj_known (valid_parts hv).1 e1).2.2.2
 have hfo := findO_eq hEne e1 e3
 have emr : moveR b k (resetO o z) z = moveB b k (resetO o z) z := by
  show putB (setOb (outR b o.id) k _) o.owner z o.id = putB (setOb (outB b o.id) k _) o.owner z o.id
  rw [outR_eq hv]
 have eM : moveV b id z = (moveR b k (resetO o z) z, 0) := by
  rw [moveV, if_neg (by rw [hE0, hzw]; decide), if_neg (by rw [hEne]; simp), hfo, e3, emr]; rfl
 repeat (first | refine chkN_den ?_ | refine chkV_den ?_)
 have hmv := r_Move h hB e1 (by rw [e2]; exact e3) hown z
 rw [e2] at hmv
 refine call_new hmv ?_
 rintro _ HM _ ⟨⟨wm, rfl, hM⟩, rfl⟩ lM
 refine ⟨boardC wm _, rfl, boardC_ones (hM.r []), ?_⟩
 replace h := h.le lM
 replace hwas := hwas.le lM
 replace hgl := hgl.le lM
 repeat (first | refine chkN_den ?_ | refine chkV_den ?_)
 refine br_den (fun _ => ?_) (fun hx => ?_)
 rotate_left
 ·exfalso
  have hx := of_decide_eq_false hx
  omega
 repeat (first | refine chkN_den ?_ | refine chkV_den ?_)
 have hrem := r_Remove h hB e1 (by rw [e2]; exact e3)
 rw [e2] at hrem
 refine call_new hrem ?_
 rintro _ HR _ ⟨⟨wr, rfl, hR⟩, rfl⟩ lR
 refine ⟨boardC wr _, rfl, boardC_ones (hR.r []), ?_⟩
 have eR : removeV b id = ({ outR b id with objs := b.objs.eraseIdx k }, 0) := by
  rw [removeV, if_neg (by rw [hEne]; simp), e3, outR_eq hv]; rfl
 replace h := h.le lR
 replace hwas := hwas.le lR
 replace hgl := hgl.le lR
 replace hM := hM.le lR
 repeat (first | refine chkN_den ?_ | refine chkV_den ?_)
 repeat (first | refine chkN_den ?_ | refine chkV_den ?_ | refine newbox_den fun _ => ?_ | refine pure_den _ (lss_eq _ _) ?_ | refine pure_den _ (gtr_eq _ _) ?_ | refine pure_den _ (leq_eq _ _) ?_ | refine pure_den _ (geq_eq _ _) ?_ | refine pure_den _ (eql_eq _ _) ?_ | refine pure_den _ (neq_eq _ _) ?_ | refine pure_den _ (pick_and _ _) ?_ | refine pure_den _ (pick_or _ _) ?_ | refine pure_den _ (not_eq' _) ?_ | refine pure_den _ (beql_eq _ _) ?_ | refine pure_den _ (bneq_eq _ _) ?_)
 refine br_den (fun hx => ?_) (fun hx => ?_)
 ·have hx : (decide (player < 0) || decide (player > 1) || decide (n < 0)) = true := hx
  have eD : drawV b player n = (zBd, 2) := by
   have : (!withinB player 0 1 || decide (n < 0)) = true := by
    simp only [withinB, Bool.or_eq_true, Bool.not_eq_true', decide_eq_true_eq, decide_eq_false_iff_not] at hx ⊢
    omega
   rw [drawV, if_pos (by rw [this]; simp)]
  repeat (first | refine chkN_den ?_ | refine chkV_den ?_)
  refine call_drop (O1 := O6) (O2 := O7 ++ O8) (perm_count fun a _ _ => by simp only [List.count_append, List.count_nil] <;> omega) (c_gives hm6 hM h hwas _ 0) rfl ⟨rfl, trivial⟩ fun Hg1 Og1 lg1 => br_den (fun _ => ?_) (fun hx => by exfalso; simp only [eM, beq_self_eq_true, Bool.and_self, Bool.true_eq_false, reduceCtorEq] at hx)
  replace h := h.le lg1
  replace hwas := hwas.le lg1
  replace hgl := hgl.le lg1
  replace hM := hM.le lg1
  replace hR := hR.le lg1
  repeat (first | refine chkN_den ?_ | refine chkV_den ?_)
  refine call_drop (O1 := O7) (O2 := Og1 ++ O8) (perm_count fun a _ _ => by simp only [List.count_append, List.count_nil] <;> omega) (c_gives hr7 hR h hwas _ 0) rfl ⟨rfl, trivial⟩ fun Hg2 Og2 lg2 => br_den (fun _ => ?_) (fun hx => by exfalso; simp only [eR, beq_self_eq_true, Bool.and_self, Bool.true_eq_false, reduceCtorEq] at hx)
  replace h := h.le lg2
  replace hwas := hwas.le lg2
  replace hgl := hgl.le lg2
  replace hM := hM.le lg2
  replace hR := hR.le lg2
  repeat (first | refine chkN_den ?_ | refine chkV_den ?_)
  refine call_drop (O1 := O8) (O2 := Og2 ++ Og1) (perm_count fun a _ _ => by simp only [List.count_append, List.count_nil] <;> omega) (c_gives hd8 (bdS_zero _) h hwas _ 2) rfl ⟨rfl, trivial⟩ fun Hg3 Og3 lg3 => br_den (fun _ => ?_) (fun hx => by exfalso; simp only [eD, beq_self_eq_true, Bool.and_self, Bool.true_eq_false, reduceCtorEq] at hx)
  exact call_retO (c_known (hgl.le lg3) _) rfl ⟨rfl, trivial⟩ fun _ _ => ret_drop ⟨rfl, rfl⟩
 have hx : (decide (player < 0) || decide (player > 1) || decide (n < 0)) = false := hx
 simp only [Bool.or_eq_false_iff, decide_eq_false_iff_not] at hx
 obtain ⟨⟨x1, x2⟩, x3⟩ := hx
 have hp : player = 0 ∨ player = 1 := by omega
 obtain ⟨n0, rfl⟩ : ∃ n0 : Nat, n = n0 := ⟨n.toNat, by omega⟩
 have eD : drawV b player n0 = (drawGo n0 b player, 0) := by
  have : (!withinB player 0 1 || decide ((n0 : Int) < 0)) = false := by
   simp only [withinB, Bool.or_eq_false_iff, Bool.not_eq_false', decide_eq_true_eq, decide_eq_false_iff_not]
   omega
  rw [drawV, if_neg (by rw [this, hv]; simp), Int.toNat_natCast]
 repeat (first | refine chkN_den ?_ | refine chkV_den ?_)
 refine call_new (r_Draw h hB hv player hp (hsum hp) n0 (by omega)) ?_
 rintro _ HD _ ⟨⟨wd, rfl, hD⟩, rfl⟩ lD
 refine ⟨boardC wd _, rfl, boardC_ones (hD.r []), ?_⟩
 replace h := h.le lD
 replace hwas := hwas.le lD
 replace hgl := hgl.le lD
 replace hM := hM.le lD
 replace hR := hR.le lD
 repeat (first | refine chkN_den ?_ | refine chkV_den ?_)
 refine call_drop (O1 := O6) (O2 := O7 ++ O8) (perm_count fun a _ _ => by simp only [List.count_append, List.count_nil] <;> omega) (c_gives hm6 hM h hwas _ 0) rfl ⟨rfl, trivial⟩ fun Hg1 Og1 lg1 => br_den (fun _ => ?_) (fun hx => by exfalso; simp only [eM, beq_self_eq_true, Bool.and_self, Bool.true_eq_false, reduceCtorEq] at hx)
 replace h := h.le lg1
 replace hwas := hwas.le lg1
 replace hgl := hgl.le lg1
 replace hM := hM.le lg1
 replace hR := hR.le lg1
 replace hD := hD.le lg1
 repeat (first | refine chkN_den ?_ | refine chkV_den ?_)
 refine call_drop (O1 := O7) (O2 := Og1 ++ O8) (perm_count fun a _ _ => by simp only [List.count_append, List.count_nil] <;> omega) (c_gives hr7 hR h hwas _ 0) rfl ⟨rfl, trivial⟩ fun Hg2 Og2 lg2 => br_den (fun _ => ?_) (fun hx => by exfalso; simp only [eR, beq_self_eq_true, Bool.and_self, Bool.true_eq_false, reduceCtorEq] at hx)
 replace h := h.le lg2
 replace hwas := hwas.le lg2
 replace hgl := hgl.le lg2
 replace hM := hM.le lg2
 replace hR := hR.le lg2
 replace hD := hD.le lg2
 repeat (first | refine chkN_den ?_ | refine chkV_den ?_)
 refine call_drop (O1 := O8) (O2 := Og2 ++ Og1) (perm_count fun a _ _ => by simp only [List.count_append, List.count_nil] <;> omega) (c_gives hd8 hD h hwas _ 0) rfl ⟨rfl, trivial⟩ fun Hg3 Og3 lg3 => br_den (fun _ => ?_) (fun hx => by exfalso; simp only [eD, beq_self_eq_true, Bool.and_self, Bool.true_eq_false, reduceCtorEq] at hx)
 exact call_retO (c_known (hgl.le lg3) _) rfl ⟨rfl, trivial⟩ fun _ _ => ret_drop ⟨rfl, rfl⟩
end Go.Proofs.YtjaegdkkiefchaaGreatDoor
