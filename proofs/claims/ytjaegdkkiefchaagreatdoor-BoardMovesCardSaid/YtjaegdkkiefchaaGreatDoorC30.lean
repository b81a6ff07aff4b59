/- A board in which an object is in no place. -/
import Derived.Test.YtjaegdkkiefchaaGreatDoorP1
import Derived.Test.YtjaegdkkiefchaaGreatDoorFw3
import Derived.Test.YtjaegdkkiefchaaGreatDoorKN
import Derived.Test.YtjaegdkkiefchaaGreatDoorC18
namespace Go.Proofs.YtjaegdkkiefchaaGreatDoor
open Go Go.Sx
set_option maxRecDepth 100000
set_option maxHeartbeats 1000000
def pr1 (id : Int) (row : List Value) : Bool := asI (g row 0) == some id
def pr2 (id : Int) (row : List Value) : Bool := (match asI (g row 3) with | some t => decide (t < 0) | none => false) && asI (g row 1) == some id
def pr3 (id : Int) (row : List Value) : Bool := asI (g row 0) == some id || asI (g row 1) == some id
theorem c_out_1 {H : Heap} {O : Own} {r : Nat} {T : TypeId} {id : Int} (hb : (r, Obj.cells [iV id].toArray T (0, 0)) ∈ O) (n : Int) :
  RetO PP F_board_out_1 ([iV n] ++ (#[.pointer (some ⟨r, 0, none⟩)] : Array Value).toList) H O (.bool (n == id)) := by
 refine run_board_out_1 (vs := [iV n, .pointer (some ⟨r, 0, none⟩)]) (by kernel_rfl) ⟨rfl, rfl, trivial⟩ ?_
 simp only [T_board_out_1]
 refine load_denR (vs := [iV id]) (.inr ⟨⟨r, 0, none⟩, [iV id].toArray, T, rfl, rfl, hb, rfl, rfl⟩) rfl ⟨rfl, trivial⟩ ?_
 repeat (first | refine chkN_den ?_ | refine chkV_den ?_ | refine newbox_den fun _ => ?_ | refine pure_den _ (lss_eq _ _) ?_ | refine pure_den _ (gtr_eq _ _) ?_ | refine pure_den _ (leq_eq _ _) ?_ | refine pure_den _ (geq_eq _ _) ?_ | refine pure_den _ (eql_eq _ _) ?_ | refine pure_den _ (neq_eq _ _) ?_ | refine pure_den _ (pick_and _ _) ?_ | refine pure_den _ (pick_or _ _) ?_ | refine pure_den _ (not_eq' _) ?_ | refine pure_den _ (beql_eq _ _) ?_ | refine pure_den _ (bneq_eq _ _) ?_)
 exact ret_denO ⟨rfl, rfl⟩
theorem c_out_2 {H : Heap} {O : Own} {r : Nat} {T : TypeId} {id : Int} (hb : (r, Obj.cells [iV id].toArray T (0, 0)) ∈ O) (x : It) {s : Value} (hs : s.oneCell' = true) :
  RetO PP F_board_out_2 ([.agg #[iV x.player, iV x.id, iV x.card, iV x.trig, s]] ++ (#[.pointer (some ⟨r, 0, none⟩)] : Array Value).toList) H O (.bool (isOn id x)) := by
 refine run_board_out_2 (vs := [iV x.player, iV x.id, iV x.card, iV x.trig, s, .pointer (some ⟨r, 0, none⟩)]) (by kernel_rfl) ⟨rfl, rfl, rfl, rfl, hs, rfl, trivial⟩ ?_
 simp only [T_board_out_2]
 refine newbox_den fun r0 => chkN_den (pure_den _ (lss_eq _ _) ?_)
 repeat (first | refine chkN_den ?_ | refine chkV_den ?_)
 refine ⟨[iV id], rfl, ⟨rfl, trivial⟩, fun _ => .inr ⟨⟨r, 0, none⟩, [iV id].toArray, T, rfl, rfl, hb, rfl, rfl⟩, ?_⟩
 repeat (first | refine chkN_den ?_ | refine chkV_den ?_ | refine newbox_den fun _ => ?_ | refine pure_den _ (lss_eq _ _) ?_ | refine pure_den _ (gtr_eq _ _) ?_ | refine pure_den _ (leq_eq _ _) ?_ | refine pure_den _ (geq_eq _ _) ?_ | refine pure_den _ (eql_eq _ _) ?_ | refine pure_den _ (neq_eq _ _) ?_ | refine pure_den _ (pick_and _ _) ?_ | refine pure_den _ (pick_or _ _) ?_ | refine pure_den _ (not_eq' _) ?_ | refine pure_den _ (beql_eq _ _) ?_ | refine pure_den _ (bneq_eq _ _) ?_)
 exact ret_denO ⟨rfl, rfl⟩
theorem c_out_3 {H : Heap} {O : Own} {r : Nat} {T : TypeId} {id : Int} (hb : (r, Obj.cells [iV id].toArray T (0, 0)) ∈ O) (x : Bl) :
  RetO PP F_board_out_3 ([.agg #[iV x.blocker, iV x.attacker]] ++ (#[.pointer (some ⟨r, 0, none⟩)] : Array Value).toList) H O (.bool (inFight id x)) := by
 refine run_board_out_3 (vs := [iV x.blocker, iV x.attacker, .pointer (some ⟨r, 0, none⟩)]) (by kernel_rfl) ⟨rfl, rfl, rfl, trivial⟩ ?_
 simp only [T_board_out_3]
 refine newbox_den fun r0 => ?_
 repeat (first | refine chkN_den ?_ | refine chkV_den ?_)
 refine load_denR (vs := [iV id]) (.inr ⟨⟨r, 0, none⟩, [iV id].toArray, T, rfl, rfl, hb, rfl, rfl⟩) rfl ⟨rfl, trivial⟩ ?_
 repeat (first | refine chkN_den ?_ | refine chkV_den ?_ | refine newbox_den fun _ => ?_ | refine pure_den _ (lss_eq _ _) ?_ | refine pure_den _ (gtr_eq _ _) ?_ | refine pure_den _ (leq_eq _ _) ?_ | refine pure_den _ (geq_eq _ _) ?_ | refine pure_den _ (eql_eq _ _) ?_ | refine pure_den _ (neq_eq _ _) ?_ | refine pure_den _ (pick_and _ _) ?_ | refine pure_den _ (pick_or _ _) ?_ | refine pure_den _ (not_eq' _) ?_ | refine pure_den _ (beql_eq _ _) ?_ | refine pure_den _ (bneq_eq _ _) ?_)
 refine ⟨[iV id], rfl, ⟨rfl, trivial⟩, fun _ => .inr ⟨⟨r, 0, none⟩, [iV id].toArray, T, rfl, rfl, hb, rfl, rfl⟩, ?_⟩
 repeat (first | refine chkN_den ?_ | refine chkV_den ?_ | refine newbox_den fun _ => ?_ | refine pure_den _ (lss_eq _ _) ?_ | refine pure_den _ (gtr_eq _ _) ?_ | refine pure_den _ (leq_eq _ _) ?_ | refine pure_den _ (geq_eq _ _) ?_ | refine pure_den _ (eql_eq _ _) ?_ | refine pure_den _ (neq_eq _ _) ?_ | refine pure_den _ (pick_and _ _) ?_ | refine pure_den _ (pick_or _ _) ?_ | refine pure_den _ (not_eq' _) ?_ | refine pure_den _ (beql_eq _ _) ?_ | refine pure_den _ (bneq_eq _ _) ?_)
 exact ret_denO ⟨rfl, rfl⟩
theorem filter_ints (l : List Int) (id : Int) : ((ints l).filter fun r => !pr1 id r) = ints (without l id) := by
 simp only [ints, without, List.filter_map]
 congr 1
theorem filter_bls (l : List Bl) (id : Int) : ((l.map Bl.row).filter fun r => !pr3 id r) = (l.filter fun x => !inFight id x).map Bl.row := by
 rw [List.filter_map]
 congr 1
theorem its_filter {te : TypeId} {id : Int} : ∀ (l : List It) (rows : List (List Value)) (Ts : List Own), rows.length = l.length → Ts.length = l.length →
  (∀ (i : Nat) (r : List Value) (x : It) (T : Own), rows[i]? = some r → l[i]? = some x → Ts[i]? = some T → ∃ s, r = [iV x.player, iV x.id, iV x.card, iV x.trig, s] ∧ OSl te 2 s (x.tgs.map Tg.row) T) →
  ∃ Ts' Y, (List.flatten Ts).Perm (List.flatten Ts' ++ Y) ∧ (rows.filter fun r => !pr2 id r).length = (l.filter fun x => !isOn id x).length ∧ Ts'.length = (l.filter fun x => !isOn id x).length ∧
   ∀ (i : Nat) (r : List Value) (x : It) (T : Own), (rows.filter fun r => !pr2 id r)[i]? = some r → (l.filter fun x => !isOn id x)[i]? = some x → Ts'[i]? = some T → ∃ s, r = [iV x.player, iV x.id, iV x.card, iV x.trig, s] ∧ OSl te 2 s (x.tgs.map Tg.row) T
 | [], [], [], _, _, _ => ⟨[], [], List.Perm.refl _, rfl, rfl, fun i r x T h => by simp at h⟩
 | x :: l, r :: rows, T :: Ts, h1, h2, hs => by
  obtain ⟨s, e, hT⟩ := hs 0 r x T rfl rfl rfl
  obtain ⟨Ts', Y, p1, p2, p3, p4⟩ := its_filter (id := id) l rows Ts (by simpa using h1) (by simpa using h2) fun i r x T a b c => hs (i + 1) r x T (by simpa using a) (by simpa using b) (by simpa using c)
  have hpr : pr2 id r = isOn id x := by
   rw [e]
   show (decide (x.trig < 0) && (some x.id == some id)) = isOn id x
   simp [isOn]
  cases hc : isOn id x with
  | true =>
   refine ⟨Ts', T ++ Y, ?_, ?_, ?_, ?_⟩
   ·rw [List.flatten_cons]
    exact (p1.append_left T).trans (perm_count fun a _ _ => by simp only [List.count_append] <;> omega)
   ·simp [List.filter_cons, hpr, hc, p2]
   ·simp [List.filter_cons, hc, p3]
   ·simpa [List.filter_cons, hpr, hc] using p4
  | false =>
   refine ⟨T :: Ts', Y, ?_, ?_, ?_, ?_⟩
   ·rw [List.flatten_cons, List.flatten_cons, List.append_assoc]
    exact p1.append_left T
   ·simp [List.filter_cons, hpr, hc, p2]
   ·simp [List.filter_cons, hc, p3]
   ·intro i r' x' T' a b c
    simp only [List.filter_cons, hpr, hc, Bool.not_false, if_true] at a b
    cases i with
    | zero => simp at a b c; subst a; subst b; subst c; exact ⟨s, e, hT⟩
    | succ i => exact p4 i r' x' T' (by simpa using a) (by simpa using b) (by simpa using c)
 | [], _ :: _, _, h, _, _ => by simp at h
 | _ :: _, [], _, h, _, _ => by simp at h
 | [], [], _ :: _, _, h, _ => by simp at h
 | _ :: _, _ :: _, [], _, h, _ => by simp at h
theorem ret_sub {P : Program} {v : Value} {H : Heap} {O O' Y : Own} {Q : Value → Heap → Own → Prop} (hp : O.Perm (O' ++ Y)) (h : Q v H O') : (Tree.ret v []).den P Q H O :=
 fun _ => ⟨H, O', (Ghost.perm (by simpa using hp)).trans (Ghost.sub (List.sublist_append_left _ _)), h⟩
abbrev boxI (r1 : Nat) (id : Int) : Own := ([⟨r1, 3, [iV id]⟩] : List BV).map BV.obj
theorem boxI_mem (r1 : Nat) (id : Int) : ((r1, Obj.cells [iV id].toArray 3 (0, 0)) : Nat × Obj) ∈ boxI r1 id := by simp [BV.obj]
theorem del_items {H : Heap} {r1 : Nat} {id : Int} {x : Value} {srows : List (List Value)} {l : List It} {As : Own} {Ts : List Own} (hs1 : OSl Ty_api_Item 5 x srows As) (hs2 : srows.length = l.length) (hs3 : Ts.length = l.length)
  (hs4 : ∀ (i : Nat) (r : List Value) (x : It) (T : Own), srows[i]? = some r → l[i]? = some x → Ts[i]? = some T → ∃ s, r = [iV x.player, iV x.id, iV x.card, iV x.trig, s] ∧ OSl Ty_api_Target 2 s (x.tgs.map Tg.row) T) :
  Triple PP F_slices_DeleteFunc_api_Item_api_Item [x, .func (.func F_board_out_2) #[] #[.pointer (some ⟨r1, 0, none⟩)]] H (boxI r1 id ++ As)
   fun v' _ O' => ∃ O3, O' = boxI r1 id ++ O3 ∧ OSl Ty_api_Item 5 v' (srows.filter fun r => !pr2 id r) O3 := by
 refine c_DeleteFuncR_api_Item (pr := pr2 id) hs1 rfl (okFn_of okL_ok (by decide)) fun H2 _ row hr => ?_
 obtain ⟨i, hi⟩ := List.mem_iff_getElem?.1 hr
 have hlt := (List.getElem?_eq_some_iff.1 hi).1
 have hl : l[i]? = some l[i] := List.getElem?_eq_getElem (by omega)
 obtain ⟨s, e, hT⟩ := hs4 i row l[i] Ts[i] hi hl (List.getElem?_eq_getElem (by omega))
 have h2 := c_out_2 (H := H2) (boxI_mem r1 id) l[i] hT.one
 have e2 : pr2 id row = isOn id l[i] := by
  rw [e]
  show (decide (l[i].trig < 0) && (some l[i].id == some id)) = isOn id l[i]
  simp [isOn]
 rw [e2, e]
 exact h2
theorem del_blocks {H : Heap} {r1 : Nat} {id : Int} {x : Value} {l : List Bl} {As : Own} (hs1 : OSl Ty_api_Block 2 x (l.map Bl.row) As) :
  Triple PP F_slices_DeleteFunc_api_Block_api_Block [x, .func (.func F_board_out_3) #[] #[.pointer (some ⟨r1, 0, none⟩)]] H (boxI r1 id ++ As)
   fun v' _ O' => ∃ O3, O' = boxI r1 id ++ O3 ∧ OSl Ty_api_Block 2 v' ((l.filter fun x => !inFight id x).map Bl.row) O3 := by
 have h2 := c_DeleteFuncR_api_Block (H := H) (B := boxI r1 id) (pr := pr3 id) (f := F_board_out_3) (caps := #[.pointer (some ⟨r1, 0, none⟩)]) hs1 rfl (okFn_of okL_ok (by decide)) fun H2 _ row hr => by
  obtain ⟨y, _, rfl⟩ := List.mem_map.1 hr
  have h3 := c_out_3 (H := H2) (boxI_mem r1 id) y
  have e : pr3 id (Bl.row y) = inFight id y := by
   show (some y.blocker == some id || some y.attacker == some id) = inFight id y
   simp [inFight]
  rw [e]; exact h3
 rw [filter_bls] at h2
 exact h2
theorem c_out {H : Heap} {v : BV12} {b : Bd} (h : BdS H v b) (hB : bdB b) (id : Int) : Triple PP F_board_out [.agg (boardC v b).toArray, iV id] H [] fun r _ O' => ∃ w, r = .agg (boardC w (outB b id)).toArray ∧ OwnB tys w (outB b id) O' := by
 refine run_board_out (vs := boardC v b ++ [iV id]) (by kernel_rfl) (ones_app (boardC_ones (h.r [])) ⟨rfl, trivial⟩) ?_
 simp only [T_board_out]
 refine newbox_den fun r0 => newbox_den fun r1 => newbox_den fun r2 => ?_
 repeat (first | refine chkN_den ?_ | refine chkV_den ?_)
 refine call_new (c_Copy h hB) ?_
 rintro _ H1 O1 ⟨w, rfl, ho⟩ l1
 refine ⟨boardC w b, rfl, ownB_ones H1 ho, ?_⟩
 rw [List.append_nil]
 have hbox : ((r1, Obj.cells [iV id].toArray 3 (0, 0)) : Nat × Obj) ∈ ([⟨r1, 3, [iV id]⟩] : List BV).map BV.obj := by simp [BV.obj]
 have hdel : ∀ {H' : Heap} {x : Value} {l : List Int} {A : Own}, OSl Ty_int 1 x (ints l) A → Triple PP F_slices_DeleteFunc_int_int [x, .func (.func F_board_out_1) #[] #[.pointer (some ⟨r1, 0, none⟩)]] H' (([⟨r1, 3, [iV id]⟩] : List BV).map BV.obj ++ A)
   fun v' _ O' => ∃ O3, O' = ([⟨r1, 3, [iV id]⟩] : List BV).map BV.obj ++ O3 ∧ OSl Ty_int 1 v' (ints (without l id)) O3 := by
  intro H' x l A hA
  have := c_DeleteFuncR_int (H := H') (B := ([⟨r1, 3, [iV id]⟩] : List BV).map BV.obj) (pr := pr1 id) hA rfl (okFn_of okL_ok (by decide)) (f := F_board_out_1) (caps := #[.pointer (some ⟨r1, 0, none⟩)]) fun H2 _ row hr => by
   simp only [ints, List.mem_map] at hr
   obtain ⟨n, _, rfl⟩ := hr
   have := c_out_1 (H := H2) hbox n
   have e : pr1 id [iV n] = (n == id) := by show (some n == some id) = (n == id); simp
   rw [e]; exact this
  rw [filter_ints] at this
  exact this
 repeat (first | refine chkN_den ?_ | refine chkV_den ?_)
 refine call_retO (c_lists r0 1 _ _) rfl ⟨rfl, rfl, rfl, rfl, trivial⟩ fun L0 m0 => ?_
 repeat (first | refine chkN_den ?_ | refine chkV_den ?_)
 obtain ⟨A0, R0, p0, q0, back0⟩ := OwnB.pick_l0 ho
 refine call_own2 (own := [⟨r1, 3, [iV id]⟩]) p0 (hdel q0) ⟨rfl, ⟨rfl, trivial⟩, trivial⟩ fun v0 K0 X0 x0 j0 => ⟨[v0], rfl, ⟨x0.one, trivial⟩, ?_⟩
 have ho0 := back0 _ _ _ x0
 clear back0
 repeat (first | refine chkN_den ?_ | refine chkV_den ?_)
 obtain ⟨A1, R1, p1, q1, back1⟩ := OwnB.pick_h0 ho0
 refine call_own2 (own := [⟨r1, 3, [iV id]⟩]) p1 (hdel q1) ⟨rfl, ⟨rfl, trivial⟩, trivial⟩ fun v1 K1 X1 x1 j1 => ⟨[v1], rfl, ⟨x1.one, trivial⟩, ?_⟩
 have ho1 := back1 _ _ _ x1
 clear back1
 repeat (first | refine chkN_den ?_ | refine chkV_den ?_)
 obtain ⟨A2, R2, p2, q2, back2⟩ := OwnB.pick_f0 ho1
 refine call_own2 (own := [⟨r1, 3, [iV id]⟩]) p2 (hdel q2) ⟨rfl, ⟨rfl, trivial⟩, trivial⟩ fun v2 K2 X2 x2 j2 => ⟨[v2], rfl, ⟨x2.one, trivial⟩, ?_⟩
 have ho2 := back2 _ _ _ x2
 clear back2
 repeat (first | refine chkN_den ?_ | refine chkV_den ?_)
 obtain ⟨A3, R3, p3, q3, back3⟩ := OwnB.pick_g0 ho2
 refine call_own2 (own := [⟨r1, 3, [iV id]⟩]) p3 (hdel q3) ⟨rfl, ⟨rfl, trivial⟩, trivial⟩ fun v3 K3 X3 x3 j3 => ⟨[v3], rfl, ⟨x3.one, trivial⟩, ?_⟩
 have ho3 := back3 _ _ _ x3
 clear back3
 repeat (first | refine chkN_den ?_ | refine chkV_den ?_)
 refine call_retO (c_lists r0 15 _ _) rfl ⟨rfl, rfl, rfl, rfl, trivial⟩ fun L4 m4 => ?_
 repeat (first | refine chkN_den ?_ | refine chkV_den ?_)
 obtain ⟨A4, R4, p4, q4, back4⟩ := OwnB.pick_l1 ho3
 refine call_own2 (own := [⟨r1, 3, [iV id]⟩]) p4 (hdel q4) ⟨rfl, ⟨rfl, trivial⟩, trivial⟩ fun v4 K4 X4 x4 j4 => ⟨[v4], rfl, ⟨x4.one, trivial⟩, ?_⟩
 have ho4 := back4 _ _ _ x4
 clear back4
 repeat (first | refine chkN_den ?_ | refine chkV_den ?_)
 obtain ⟨A5, R5, p5, q5, back5⟩ := OwnB.pick_h1 ho4
 refine call_own2 (own := [⟨r1, 3, [iV id]⟩]) p5 (hdel q5) ⟨rfl, ⟨rfl, trivial⟩, trivial⟩ fun v5 K5 X5 x5 j5 => ⟨[v5], rfl, ⟨x5.one, trivial⟩, ?_⟩
 have ho5 := back5 _ _ _ x5
 clear back5
 repeat (first | refine chkN_den ?_ | refine chkV_den ?_)
 obtain ⟨A6, R6, p6, q6, back6⟩ := OwnB.pick_f1 ho5
 refine call_own2 (own := [⟨r1, 3, [iV id]⟩]) p6 (hdel q6) ⟨rfl, ⟨rfl, trivial⟩, trivial⟩ fun v6 K6 X6 x6 j6 => ⟨[v6], rfl, ⟨x6.one, trivial⟩, ?_⟩
 have ho6 := back6 _ _ _ x6
 clear back6
 repeat (first | refine chkN_den ?_ | refine chkV_den ?_)
 obtain ⟨A7, R7, p7, q7, back7⟩ := OwnB.pick_g1 ho6
 refine call_own2 (own := [⟨r1, 3, [iV id]⟩]) p7 (hdel q7) ⟨rfl, ⟨rfl, trivial⟩, trivial⟩ fun v7 K7 X7 x7 j7 => ⟨[v7], rfl, ⟨x7.one, trivial⟩, ?_⟩
 have ho7 := back7 _ _ _ x7
 clear back7
 repeat (first | refine chkN_den ?_ | refine chkV_den ?_)
 obtain ⟨A8, R8, p8, q8, back8⟩ := OwnB.pick_stack ho7
 obtain ⟨srows, As, Ts, hps, hs1, hs2, hs3, hs4⟩ : OIts tys.tg tys.it _ b.stack A8 := q8
 obtain ⟨Ts', Y, t1, t2, t3, t4⟩ := its_filter (id := id) _ srows Ts hs2 hs3 hs4
 have hdel2 := del_items (H := K7) (r1 := r1) (id := id) hs1 hs2 hs3 hs4
 refine call_own2 (own := [⟨r1, 3, [iV id]⟩]) (O1 := As) (O2 := List.flatten Ts' ++ (Y ++ R8)) (p8.trans ((hps.append_right R8).trans ((List.Perm.append_right R8 (t1.append_left As)).trans (perm_count fun a _ _ => by simp only [List.count_append] <;> omega)))) hdel2 ⟨rfl, ⟨rfl, trivial⟩, trivial⟩ fun v8 K8 X8 x8 j8 => ⟨[v8], rfl, ⟨x8.one, trivial⟩, ?_⟩
 have ho8 := back8 v8 (b.stack.filter fun x => !isOn id x) (X8 ++ List.flatten Ts') ⟨_, X8, Ts', List.Perm.refl _, x8, t2, t3, t4⟩
 have hsep : (X8 ++ (List.flatten Ts' ++ (Y ++ R8))).Perm (((X8 ++ List.flatten Ts') ++ R8) ++ Y) := perm_count fun a _ _ => by simp only [List.count_append]; omega
 repeat (first | refine chkN_den ?_ | refine chkV_den ?_)
 obtain ⟨A9, R9, p9, q9, back9⟩ := OwnB.pick_att ho8
 refine call_own2 (own := [⟨r1, 3, [iV id]⟩]) (O1 := A9) (O2 := R9 ++ Y) (hsep.trans ((p9.append_right Y).trans (List.Perm.of_eq (List.append_assoc _ _ _)))) (hdel q9) ⟨rfl, ⟨rfl, trivial⟩, trivial⟩ fun v9 K9 X9 x9 j9 => ⟨[v9], rfl, ⟨x9.one, trivial⟩, ?_⟩
 have ho9 := back9 _ _ _ x9
 repeat (first | refine chkN_den ?_ | refine chkV_den ?_)
 obtain ⟨A10, R10, p10, q10, back10⟩ := OwnB.pick_blocks ho9
 have hdel3 := del_blocks (H := K9) (r1 := r1) (id := id) (l := b.blocks) q10
 refine call_own2 (own := [⟨r1, 3, [iV id]⟩]) (O1 := A10) (O2 := R10 ++ Y) ((List.Perm.of_eq (List.append_assoc _ _ _).symm).trans ((p10.append_right Y).trans (List.Perm.of_eq (List.append_assoc _ _ _)))) hdel3 ⟨rfl, ⟨rfl, trivial⟩, trivial⟩ fun v10 K10 X10 x10 j10 => ⟨[v10], rfl, ⟨x10.one, trivial⟩, ?_⟩
 have ho10 := back10 _ _ _ x10
 repeat (first | refine chkN_den ?_ | refine chkV_den ?_)
 exact ret_sub (Y := Y) (List.Perm.of_eq (List.append_assoc _ _ _).symm) ⟨_, rfl, ho10⟩
end Go.Proofs.YtjaegdkkiefchaaGreatDoor
namespace Go.Sx
open Go
theorem call_row {P : Program} {op : PrimOp} {args : List Value} {H : Heap} {O O2 : Own} {r : Nat} {cs cs' : List Value} {e : TypeId} {v : Value} {shp : Shp} {K : List Value → List (List Value) → Heap → Own → Prop} {vs : List Value}
  (hO : O.Perm ([(r, .cells cs.toArray e (0, 0))] ++ O2)) (hrun : ∀ w F, Models w H ([(r, .cells cs.toArray e (0, 0))] ++ F) → (op.sem args).run P w = .ok (.value v) (w.setRow r cs'.toArray)) (ho : shp.open v = some vs) (h1 : Ones vs)
  (hk : K vs [] H ([(r, .cells cs'.toArray e (0, 0))] ++ O2)) : CallD (fun H1 O1 R => OpTriple P (op.sem args) H1 O1 R) false [] [] shp K H O := by
 intro _
 refine ⟨H, [(r, .cells cs.toArray e (0, 0))], O2, fun v' H' O' => v' = v ∧ H' = H ∧ O' = [(r, .cells cs'.toArray e (0, 0))], Ghost.perm hO, fun w F hm => ⟨v, w.setRow r cs'.toArray, H, _, hrun w F (by simpa using hm), ⟨rfl, rfl, rfl⟩, Heap.le_refl H, ?_⟩, ?_⟩
 ·exact models_row (vs := cs) (by simpa using hm)
 ·rintro v' H' O' ⟨rfl, rfl, rfl⟩ _
  exact ⟨vs, [], _, ho, h1, trivial, rfl, hk⟩
theorem rows_flat {size : Nat} {rows : List (List Value)} {cs : List Value} (hl : ∀ row ∈ rows, row.length = size) (ht : cs.take (rows.length * size) = rows.flatten) {i : Nat} (hi : i ≤ rows.length) :
  (rows.take i).flatten = cs.take (i * size) ∧ (rows.drop i).flatten = (cs.drop (i * size)).take ((rows.length - i) * size) := by
 have h5 := flatten_len (rows := rows.take i) (size := size) fun x hx => hl x (List.mem_of_mem_take hx)
 have h1 : (rows.take i).length = i := by rw [List.length_take]; omega
 rw [h1] at h5
 have h4 : rows.flatten = (rows.take i).flatten ++ (rows.drop i).flatten := by rw [← List.flatten_append, List.take_append_drop]
 have hmul : i * size ≤ rows.length * size := Nat.mul_le_mul_right _ hi
 have hsub : (rows.length - i) * size = rows.length * size - i * size := Nat.sub_mul _ _ _
 constructor
 ·have h2 := congrArg (fun l => l.take (i * size)) ht
  simp only [List.take_take] at h2
  rw [Nat.min_eq_left hmul, h4, ← h5, List.take_left] at h2
  rw [← h5]; exact h2.symm
 ·have h2 := congrArg (fun l => l.drop (i * size)) ht
  simp only [List.drop_take] at h2
  rw [h4, ← h5, List.drop_left, h5] at h2
  rw [hsub]; exact h2.symm
theorem appOk_info {P : Program} {t e : TypeId} {size bytes : Nat} (h : appOk P t e size bytes = true) : P.underlying t = some (.slice e) ∧ ∃ i, P.info? e = some i ∧ i.size = size := by
 unfold appOk at h
 split at h
 ·rename_i e' i hu hi
  simp only [Bool.and_eq_true, beq_iff_eq] at h
  obtain ⟨⟨⟨⟨rfl, hsz⟩, _⟩, _⟩, _⟩ := h
  exact ⟨hu, i, hi, hsz⟩
 ·cases h
theorem own_cell {w : World} {H : Heap} {r : Nat} {cs : List Value} {e : TypeId} {F : Own} (hm : Models w H ([(r, .cells cs.toArray e (0, 0))] ++ F)) {j : Nat} {u : Value} (h : cs[j]? = some u) : w.cell? ⟨r, j, none⟩ = some u := by
 have hr := (hm.own (r, .cells cs.toArray e (0, 0)) (by simp)).1
 simp only [] at hr
 simp [World.cell?, hr, h]
/-- slices.Delete of one element, step by step: what its cells are. -/
theorem delete_cells {size n k : Nat} {cs : List Value} {rows : List (List Value)} (hn : rows.length = n) (hk : k < n) (hl : ∀ row ∈ rows, row.length = size) (ht : cs.take (n * size) = rows.flatten) (hc : n * size ≤ cs.length) :
  ((cs.take (k * size) ++ (cs.drop ((k + 1) * size)).take ((n - (k + 1)) * size)).length = (n - 1) * size) ∧ cs.take (k * size) ++ (cs.drop ((k + 1) * size)).take ((n - (k + 1)) * size) = (rows.eraseIdx k).flatten := by
 subst hn
 obtain ⟨a1, _⟩ := rows_flat hl ht (i := k) (by omega)
 obtain ⟨_, b2⟩ := rows_flat hl ht (i := k + 1) (by omega)
 have e : cs.take (k * size) ++ (cs.drop ((k + 1) * size)).take ((rows.length - (k + 1)) * size) = (rows.eraseIdx k).flatten := by
  rw [← a1, ← b2, ← List.flatten_append, List.eraseIdx_eq_take_drop_succ]
 refine ⟨?_, e⟩
 rw [e, flatten_len (size := size) fun x hx => hl x (List.mem_of_mem_eraseIdx hx), List.length_eraseIdx_of_lt hk]
theorem Sl.upto {H : Heap} {size : Nat} {v : Value} {rows : List (List Value)} (h : Sl H size v rows) {i : Nat} (hi : i ≤ rows.length) : ∃ u, evalPure (.slc size false true false) [v, .int .i64 i] = some u ∧ Sl H size u (rows.take i) := by
 obtain ⟨a, cap, rfl, h1, h2, h3⟩ := h
 have hb : slcBounds rows.length cap none (some (.int .i64 (i : Int))) none = some (0, i, cap) := by
  have : i ≤ cap := by omega
  simp [slcBounds, boundOr, boundHi, boundI, asI, this]
 have hm : (rows.take i).length = i := by rw [List.length_take]; omega
 refine ⟨.slice a i cap, ?_, a, cap, by rw [hm], by rw [hm]; omega, h2, fun hne => ?_⟩
 ·simp only [evalPure, takeArgs, evalSlc, hb, Option.map_some]
  cases a <;> simp [Addr.add]
 ·have hne2 : rows ≠ [] := by rintro rfl; simp at hne
  obtain ⟨ad, e, hA⟩ := h3 hne2
  refine ⟨ad, e, fun j r hr => hA j r ?_⟩
  rw [List.getElem?_take] at hr
  split at hr
  ·exact hr
  ·cases hr
theorem Sl.from {H : Heap} {size : Nat} {v : Value} {rows : List (List Value)} (h : Sl H size v rows) {i : Nat} (hi : i ≤ rows.length) : ∃ u, evalPure (.slc size true false false) [v, .int .i64 i] = some u ∧ Sl H size u (rows.drop i) := by
 obtain ⟨a, cap, rfl, h1, h2, h3⟩ := h
 have hb : slcBounds rows.length cap (some (.int .i64 (i : Int))) none none = some (i, rows.length, cap) := by
  simp [slcBounds, boundOr, boundHi, boundI, asI, hi]
 have hm : (rows.drop i).length = rows.length - i := List.length_drop
 refine ⟨.slice (if cap = i then a else a.map (·.add (i * size))) (rows.length - i) (cap - i), ?_, _, cap - i, by rw [hm], by rw [hm]; omega, by omega, fun hne => ?_⟩
 ·simp only [evalPure, takeArgs, evalSlc, hb, Option.map_some]
 ·have hne2 : rows ≠ [] := by rintro rfl; simp at hne
  have hlt : i < rows.length := by
   rcases Nat.lt_or_ge i rows.length with h | h
   ·exact h
   ·rw [List.drop_of_length_le h] at hne; exact absurd rfl hne
  obtain ⟨ad, rfl, hA⟩ := h3 hne2
  refine ⟨ad.add (i * size), ?_, fun j r hr => ?_⟩
  ·rw [if_neg (by omega)]; rfl
  ·rw [List.getElem?_drop] at hr
   have := hA (i + j) r hr
   rw [add_add, ← Nat.add_mul]; exact this
/-- Two lists, side by side, of which some are taken. -/
theorem filter2 {α β : Type} {p : α → Bool} {q : β → Bool} {R : α → β → Prop} (hpq : ∀ a b, R a b → p a = q b) : ∀ (l : List α) (r : List β), l.length = r.length → (∀ (i : Nat) (a : α) (b : β), l[i]? = some a → r[i]? = some b → R a b) →
  (l.filter p).length = (r.filter q).length ∧ ∀ (i : Nat) (a : α) (b : β), (l.filter p)[i]? = some a → (r.filter q)[i]? = some b → R a b
 | [], [], _, _ => ⟨rfl, fun i a b h => by simp at h⟩
 | a :: l, b :: r, h, hR => by
  have h0 := hR 0 a b rfl rfl
  have e := hpq a b h0
  obtain ⟨i1, i2⟩ := filter2 hpq l r (by simpa using h) fun i a b x y => hR (i + 1) a b (by simpa using x) (by simpa using y)
  cases hp : q b with
  | false => rw [List.filter_cons_of_neg (by rw [e, hp]; simp), List.filter_cons_of_neg (by rw [hp]; simp)]; exact ⟨i1, i2⟩
  | true =>
   rw [List.filter_cons_of_pos (by rw [e, hp]), List.filter_cons_of_pos hp]
   refine ⟨by simp [i1], fun i x y hx hy => ?_⟩
   cases i with
   | zero => simp at hx hy; subst hx; subst hy; exact h0
   | succ i => exact i2 i x y (by simpa using hx) (by simpa using hy)
 | [], _ :: _, h, _ => by simp at h
 | _ :: _, [], h, _ => by simp at h
end Go.Sx
namespace Go.Proofs.YtjaegdkkiefchaaGreatDoor
open Go Go.Sx
set_option maxRecDepth 100000
set_option maxHeartbeats 1000000
def restO (o : Ob) : Ob := { o with dmg := 0, pp := 0, pt := 0 }
theorem c_Rest (o : Ob) (H : Heap) (O : Own) : RetO PP F_object_Rest [.agg o.row.toArray] H O (.agg (restO o).row.toArray) := by
 refine run_object_Rest (vs := o.row) (by kernel_rfl) (ob_ones o) ?_
 simp only [T_object_Rest]
 refine newbox_den fun r0 => newbox_den fun r1 => ?_
 repeat (first | refine chkN_den ?_ | refine chkV_den ?_)
 exact ret_denO ⟨rfl, rfl⟩
theorem c_Reset (o : Ob) (z : Int) (H : Heap) (O : Own) : RetO PP F_object_Reset [.agg o.row.toArray, iV z] H O (.agg (resetO o z).row.toArray) := by
 refine run_object_Reset (vs := o.row ++ [iV z]) (by kernel_rfl) (ones_app (ob_ones o) ⟨rfl, trivial⟩) ?_
 simp only [T_object_Reset]
 refine newbox_den fun r0 => newbox_den fun r1 => ?_
 repeat (first | refine chkN_den ?_ | refine chkV_den ?_)
 refine call_retO (c_Rest o H O) rfl (vs := (restO o).row) (ob_ones _) fun H1 l1 => newbox_den fun r2 => ?_
 repeat (first | refine chkN_den ?_ | refine chkV_den ?_)
 refine pure_den _ (eql_eq _ _) ?_
 repeat (first | refine chkN_den ?_ | refine chkV_den ?_)
 exact ret_denO ⟨rfl, rfl⟩
theorem zero_api_Object : ∀ w, (zeroValue Ty_api_Object).run PP w = .ok (.agg #[iV 0, iV 0, iV 0, iV 0, iV 0, iV 0, iV 0, iV 0, iV 0, .bool false, .bool false, .bool false]) w := by
 intro w
 have : (PP.info? Ty_api_Object).bind (·.zero) = some (.agg #[iV 0, iV 0, iV 0, iV 0, iV 0, iV 0, iV 0, iV 0, iV 0, .bool false, .bool false, .bool false]) := by kernel_rfl
 simp only [Option.bind_eq_some_iff] at this
 obtain ⟨i, hi, hz⟩ := this
 simp [zeroValue, typeInfo, hi, hz]
theorem c_DeleteR_api_Object {H : Heap} {A : Own} {v : Value} {rows : List (List Value)} (h : OSl Ty_api_Object 12 v rows A) {k : Nat} (hk : k < rows.length) :
  Triple PP F_slices_Delete_api_Object_api_Object [v, iV k, iV ((k + 1 : Nat) : Int)] H A fun v' _ O' => OSl Ty_api_Object 12 v' (rows.eraseIdx k) O' := by
 have hz := zero_api_Object
 obtain ⟨hu, inf, hinf, hsz⟩ := appOk_info (P := PP) (t := 22) (e := Ty_api_Object) (size := 12) (bytes := 80) (by kernel_rfl)
 rcases h with ⟨⟨a, rfl⟩, rfl, rfl⟩ | ⟨r, cs, cap, rfl, rfl, hcl, hlc, hcap, hl, ho, ht⟩
 ·simp at hk
 refine run_slices_Delete_api_Object_api_Object (vs := [.slice (some ⟨r, 0, none⟩) rows.length cap, iV k, iV ((k + 1 : Nat) : Int)]) (by kernel_rfl) ⟨rfl, rfl, rfl, trivial⟩ ?_
 simp only [T_slices_Delete_api_Object_api_Object]
 generalize hn : rows.length = n at *
 obtain ⟨d1, d2⟩ := delete_cells hn hk hl ht (by omega)
 have b1 : slcBounds n cap (some (iV k)) (some (iV ((k + 1 : Nat) : Int))) (some (iV n)) = some (k, k + 1, n) := by
  have x1 : k + 1 ≤ n := hk
  have x2 : ((k : Int) + 1).toNat = k + 1 := by omega
  have x3 : (k : Int) + 1 ≤ (n : Int) := by omega
  have x4 : (0 : Int) ≤ (k : Int) + 1 := by omega
  simp [slcBounds, boundOr, boundHi, boundI, asI, hlc, x2, x3, x4]
 have b2 : slcBounds n cap none (some (iV k)) none = some (0, k, cap) := by
  have x1 : k ≤ cap := by omega
  simp [slcBounds, boundOr, boundHi, boundI, asI, x1]
 have b3 : slcBounds n cap (some (iV ((k + 1 : Nat) : Int))) none none = some (k + 1, n, cap) := by
  have x2 : ((k : Int) + 1).toNat = k + 1 := by omega
  have x3 : (k : Int) + 1 ≤ (n : Int) := by omega
  have x4 : (0 : Int) ≤ (k : Int) + 1 := by omega
  simp [slcBounds, boundOr, boundHi, boundI, asI, x2, x3, x4]
 have b4 : slcBounds (n - 1) cap (some (iV ((n - 1 : Nat) : Int))) (some (iV n)) none = some (n - 1, n, cap) := by
  have x1 : n ≤ cap := hlc
  have x2 : n - 1 ≤ n := by omega
  simp [slcBounds, boundOr, boundHi, boundI, asI, x1, x2]
 have v1 : evalPure (.slc 12 true true true) [.slice (some ⟨r, 0, none⟩) n cap, iV k, iV ((k + 1 : Nat) : Int), iV n] = some (.slice (if n = k then some ⟨r, 0, none⟩ else (some (⟨r, 0, none⟩ : Addr)).map (·.add (k * 12))) (k + 1 - k) (n - k)) := by
  simp only [evalPure, takeArgs, evalSlc, b1, Option.map_some]
 have v2 : evalPure (.slc 12 false true false) [.slice (some ⟨r, 0, none⟩) n cap, iV k] = some (.slice (some ⟨r, 0, none⟩) k cap) := by
  simp only [evalPure, takeArgs, evalSlc, b2, Option.map_some]
  simp [Addr.add]
 have v3 : evalPure (.slc 12 true false false) [.slice (some ⟨r, 0, none⟩) n cap, iV ((k + 1 : Nat) : Int)] = some (.slice (some ⟨r, if cap = k + 1 then 0 else (k + 1) * 12, none⟩) (n - (k + 1)) (cap - (k + 1))) := by
  simp only [evalPure, takeArgs, evalSlc, b3, Option.map_some]
  split
  ·rfl
  ·show some (Value.slice (some ((⟨r, 0, none⟩ : Addr).add ((k + 1) * 12))) (n - (k + 1)) (cap - (k + 1))) = _
   rw [add_none, Nat.zero_add]
 have v4 : evalPure (.slc 12 true true false) [.slice (some ⟨r, 0, none⟩) (n - 1) cap, iV ((n - 1 : Nat) : Int), iV n] = some (.slice (some ⟨r, (n - 1) * 12, none⟩) (n - (n - 1)) (cap - (n - 1))) := by
  simp only [evalPure, takeArgs, evalSlc, b4, Option.map_some]
  rw [if_neg (by omega)]
  show some (Value.slice (some ((⟨r, 0, none⟩ : Addr).add ((n - 1) * 12))) (n - (n - 1)) (cap - (n - 1))) = _
  rw [add_none, Nat.zero_add]
 refine pure_den (.int .i64 n) rfl ?_
 refine pure_den _ v1 ?_
 refine pure_den _ (eql_eq _ _) (br_den (fun hb => ?_) (fun _ => ?_))
 ·exfalso; simp at hb; omega
 refine pure_den (.int .i64 n) rfl ?_
 refine pure_den _ v2 (pure_den _ v3 ?_)
 -- append in place
 have hnl : ((cs.drop ((k + 1) * 12)).take ((n - (k + 1)) * 12)).length = (n - (k + 1)) * 12 := by rw [List.length_take, List.length_drop, hcl]; omega
 have hones : ∀ u ∈ (cs.drop ((k + 1) * 12)).take ((n - (k + 1)) * 12), u.oneCell' = true := by
  obtain ⟨_, q⟩ := rows_flat (size := 12) (rows := rows) (cs := cs) hl (by rw [hn]; exact ht) (i := k + 1) (by omega)
  rw [hn] at q
  rw [← q]
  intro u hu'
  obtain ⟨row, hr, hu2⟩ := List.mem_flatten.1 hu'
  exact ones_mem (ho row (List.mem_of_mem_drop hr)) u hu2
 refine call_row (r := r) (cs := cs) (e := Ty_api_Object) (O2 := []) (cs' := cs.take (0 + k * inf.size) ++ (cs.drop ((k + 1) * 12)).take ((n - (k + 1)) * 12) ++ cs.drop (0 + k * inf.size + ((cs.drop ((k + 1) * 12)).take ((n - (k + 1)) * 12)).length)) (by simp)
  (v := .slice (some ⟨r, 0, none⟩) (k + (n - (k + 1))) cap) (fun w F hm => ?_) rfl ⟨rfl, trivial⟩ ?_
 ·have hrow := (hm.own (r, .cells cs.toArray Ty_api_Object (0, 0)) (by simp)).1
  have hsrc : Src PP inf.size 22 (.slice (some ⟨r, if cap = k + 1 then 0 else (k + 1) * 12, none⟩) (n - (k + 1)) (cap - (k + 1))) (n - (k + 1)) ((cs.drop ((k + 1) * 12)).take ((n - (k + 1)) * 12)) w := by
   rw [hsz]
   refine Src.ofSlice w hu _ _ _ _ hnl (fun j u hj => ?_) hones
   have hjlt : j < (n - (k + 1)) * 12 := by rw [← hnl]; exact (List.getElem?_eq_some_iff.1 hj).1
   have hne : ¬ cap = k + 1 := by intro e; rw [show n - (k + 1) = 0 by omega] at hjlt; omega
   rw [if_neg hne, add_none]
   refine own_cell hm ?_
   rw [List.getElem?_take, if_pos hjlt, List.getElem?_drop] at hj
   exact hj
  have hrun := run_append_in (ty := 22) hu hinf (len := k) (cap := cap) (off := 0) hrow hsrc (by omega) (by rw [hsz]; omega)
  simp only [PrimOp.sem, builtin, Sem.run_bind]
  rw [hrun]; rfl
 rw [hsz, hnl, Nat.zero_add]
 generalize hcs1 : cs.take (k * 12) ++ (cs.drop ((k + 1) * 12)).take ((n - (k + 1)) * 12) ++ cs.drop (k * 12 + (n - (k + 1)) * 12) = cs1
 have hlen1 : cs1.length = cs.length := by
  rw [← hcs1, List.length_append, d1, List.length_drop]; omega
 have hkn : k + (n - (k + 1)) = n - 1 := by omega
 rw [hkn]
 refine pure_den (.int .i64 ((n - 1 : Nat) : Int)) rfl ?_
 refine pure_den _ v4 ?_
 have hz1 := zero_ones (n := n - (n - 1)) (z := (Value.agg #[iV 0, iV 0, iV 0, iV 0, iV 0, iV 0, iV 0, iV 0, iV 0, .bool false, .bool false, .bool false]).cells) (by simp [Value.cells, Value.oneCell'])
 refine call_row (r := r) (cs := cs1) (e := Ty_api_Object) (O2 := []) (cs' := cs1.take ((n - 1) * 12) ++ (Builtin.zeroCells (Value.agg #[iV 0, iV 0, iV 0, iV 0, iV 0, iV 0, iV 0, iV 0, iV 0, .bool false, .bool false, .bool false]).cells (n - (n - 1))).toList ++ cs1.drop ((n - 1) * 12 + (Builtin.zeroCells (Value.agg #[iV 0, iV 0, iV 0, iV 0, iV 0, iV 0, iV 0, iV 0, iV 0, .bool false, .bool false, .bool false]).cells (n - (n - 1))).toList.length)) (List.Perm.refl _)
  (v := .tuple #[]) (fun w F hm => ?_) rfl trivial ?_
 ·have hrow := (hm.own (r, .cells cs1.toArray Ty_api_Object (0, 0)) (by simp)).1
  have hrun := run_clear_in (ty := 0) (cap := cap - (n - 1)) (n := n - (n - 1)) (off := (n - 1) * 12) hu hz hrow (by
   show (n - 1) * 12 + (n - (n - 1)) * 12 ≤ cs1.length
   rw [hlen1, hcl]; omega) hz1
  simp only [PrimOp.sem, builtin, Sem.run_bind]
  rw [hrun]; rfl
 have hzl : (Builtin.zeroCells (Value.agg #[iV 0, iV 0, iV 0, iV 0, iV 0, iV 0, iV 0, iV 0, iV 0, .bool false, .bool false, .bool false]).cells (n - (n - 1))).toList.length = (n - (n - 1)) * 12 := by
  rw [Array.length_toList, size_zeroCells]; rfl
 have hel : (rows.eraseIdx k).length = n - 1 := by rw [List.length_eraseIdx_of_lt (by omega), hn]
 refine ret_denO (.inr ⟨r, _, cap, ?_, by simp only [List.append_nil]; rfl, ?_, ?_, hcap, fun x hx => hl x (List.mem_of_mem_eraseIdx hx), fun x hx => ho x (List.mem_of_mem_eraseIdx hx), ?_⟩)
 ·rw [hel]; rfl
 ·rw [List.length_append, List.length_append, List.length_take, List.length_drop, hzl, hlen1, hcl]; omega
 ·rw [hel]; omega
 ·rw [hel, List.append_assoc, List.take_append_of_le_length (by rw [List.length_take, hlen1, hcl]; omega), List.take_take, Nat.min_self, ← hcs1, List.append_assoc, ← List.append_assoc, List.take_append_of_le_length (by rw [d1]; exact Nat.le_refl _), ← d1, List.take_length, d2]
theorem outB_B {b : Bd} (h : bdB b) (id : Int) : bdB (outB b id) := by
 obtain ⟨b1, ⟨b2, b3, b4, b5⟩, ⟨b6, b7, b8, b9⟩, ⟨b10, b10'⟩, b11, b12, b13⟩ := h
 have hw : ∀ {l : List Int}, l.length ≤ 1000000 → (without l id).length ≤ 1000000 := fun h => Nat.le_trans (List.length_filter_le _ _) h
 exact ⟨b1, ⟨hw b2, hw b3, hw b4, hw b5⟩, ⟨hw b6, hw b7, hw b8, hw b9⟩, ⟨Nat.le_trans (List.length_filter_le _ _) b10, fun x hx => b10' x (List.mem_filter.1 hx).1⟩, b11, hw b12, Nat.le_trans (List.length_filter_le _ _) b13⟩
def moveV (b : Bd) (id z : Int) : Bd × Int :=
 if (indexE b id == 2 || !withinB z 0 3) = true then (zBd, 2) else if (indexE b id != 0) = true then (zBd, indexE b id) else (moveB b (idxO b id).toNat (resetO (findO b id) z) z, 0)
theorem c_Move {H : Heap} {v : BV12} {b : Bd} (h : BdS H v b) (hB : bdB b) {id : Int} (hid : i64 id) (z : Int) : Triple PP F_board_Move [.agg (boardC v b).toArray, iV id, iV z] H [] fun r _ O' => ∃ w, r = .tuple #[.agg (boardC w (moveV b id z).1).toArray, iV (moveV b id z).2] ∧ OwnB tys w (moveV b id z).1 O' := by
 refine run_board_Move (vs := boardC v b ++ [iV id, iV z]) (by kernel_rfl) (ones_app (boardC_ones (h.r [])) ⟨rfl, rfl, trivial⟩) ?_
 simp only [T_board_Move]
 refine newbox_den fun r0 => newbox_den fun r1 => ?_
 repeat (first | refine chkN_den ?_ | refine chkV_den ?_)
 refine call_retO (c_index (h.r []) hid) rfl ⟨rfl, rfl, trivial⟩ fun H1 l1 => pure_den _ (eql_eq _ _) (br_den (fun hb => ?_) (fun hb2 => ?_))
 ·have e : moveV b id z = (zBd, 2) := by rw [moveV, if_pos (by rw [show (indexE b id == 2) = true from hb]; rfl)]
  repeat (first | refine chkN_den ?_ | refine chkV_den ?_)
  exact ret_denO ⟨nilV, by rw [e]; rfl, by rw [e]; exact OwnB.zero tys⟩
 replace h := h.le l1
 repeat (first | refine chkN_den ?_ | refine chkV_den ?_)
 refine call_retO (c_within z 0 3 H1 []) rfl ⟨rfl, trivial⟩ fun H2 l2 => pure_den _ (not_eq' _) (br_den (fun hb => ?_) (fun hb => ?_))
 ·have e : moveV b id z = (zBd, 2) := by rw [moveV, if_pos (by rw [show withinB z 0 3 = false from notT hb]; simp)]
  repeat (first | refine chkN_den ?_ | refine chkV_den ?_)
  exact ret_denO ⟨nilV, by rw [e]; rfl, by rw [e]; exact OwnB.zero tys⟩
 have hz : withinB z 0 3 = true := notF hb
 have hcond : ¬ ((indexE b id == 2 || !withinB z 0 3) = true) := by rw [show (indexE b id == 2) = false from hb2, hz]; simp
 replace h := h.le l2
 refine pure_den _ (neq_eq _ _) (br_den (fun hb => ?_) (fun hb => ?_))
 ·have e : moveV b id z = (zBd, indexE b id) := by rw [moveV, if_neg hcond, if_pos hb]
  repeat (first | refine chkN_den ?_ | refine chkV_den ?_)
  exact ret_denO ⟨nilV, by rw [e]; rfl, by rw [e]; exact OwnB.zero tys⟩
 obtain ⟨hval, k, o, e1, e2, e3, e4⟩ := indexE_ok hb
 have hfo := findO_eq hb e1 e3
 have hown := (obj_known (valid_parts hval).1 e1).2.2.2
 have e : moveV b id z = (moveB b k (resetO o z) z, 0) := by rw [moveV, if_neg hcond, if_neg (by rw [hb]; simp), hfo, e3]; rfl
 rw [e, e4]
 have hlens := outB_B hB id
 repeat (first | refine chkN_den ?_ | refine chkV_den ?_)
 refine call_new (c_out h hB id) ?_
 rintro _ H3 O3 ⟨w, rfl, ho⟩ l3
 refine ⟨boardC w (outB b id), rfl, ownB_ones H3 ho, ?_⟩
 rw [List.append_nil]
 have e1' : (outB b id).objs[k]? = some o := e1
 repeat (first | refine chkN_den ?_ | refine chkV_den ?_)
 obtain ⟨a, h1, h2, _, h3, h4⟩ := (ho.r (fun p hp => hp) H3).objs.idx .i64 k (Ob.row o) (by rw [List.getElem?_map, e1']; rfl)
 refine pure_den _ h1 (load_denR h2 h3 h4 ?_)
 repeat (first | refine chkN_den ?_ | refine chkV_den ?_)
 refine call_retO (c_Reset o z H3 O3) rfl (vs := (resetO o z).row) (ob_ones _) fun H4 l4 => newbox_den fun r2 => ?_
 obtain ⟨a', q1, O1, q2, O2, q3, q4⟩ := OwnB.store_ob ho (X := []) (O' := O3) (by simp) e1' (resetO o z)
 rw [List.append_nil] at q3
 repeat (first | refine chkN_den ?_ | refine chkV_den ?_)
 refine pure_den _ q1 ?_
 repeat (first | refine chkN_den ?_ | refine chkV_den ?_ | refine chkP_den rfl ?_)
 refine ⟨_, q2, ?_⟩
 have ho2 := OwnB.perm q4 q3
 have hm : moveB b k (resetO o z) z = putB (setOb (outB b id) k (resetO o z)) o.owner z id := by
  show putB (setOb (outB b o.id) k (resetO o z)) o.owner z o.id = _
  rw [e2]
 rw [hm]
 clear hm hcond e hfo
 have hz4 : z = 0 ∨ z = 1 ∨ z = 2 ∨ z = 3 := by
  simp only [withinB, decide_eq_true_eq] at hz; omega
 have el : g (resetO o z).row 2 = iV o.owner := rfl
 repeat (first | refine chkN_den ?_ | refine chkV_den ?_)
 rw [el]
 obtain ⟨m1, ⟨m2, m3, m4, m5⟩, ⟨m6, m7, m8, m9⟩, _⟩ := hlens
 rcases hown with hown | hown
 ·rw [hown]
  refine ⟨.i64, 0, rfl, fun _ => ?_, fun e => absurd rfl e⟩
  repeat (first | refine chkN_den ?_ | refine chkV_den ?_)
  refine call_retO (c_lists r0 1 _ _) rfl ⟨rfl, rfl, rfl, rfl, trivial⟩ fun H5 l5 => ?_
  repeat (first | refine chkN_den ?_ | refine chkV_den ?_)
  rcases hz4 with rfl | rfl | rfl | rfl
  ·refine ⟨.i64, 0, rfl, fun _ => ?_, fun e => absurd rfl e⟩
   repeat (first | refine chkN_den ?_ | refine chkV_den ?_)
   refine newbox_den fun r3 => ?_
   repeat (first | refine chkN_den ?_ | refine chkV_den ?_)
   obtain ⟨A, R, hp, hA, back⟩ := OwnB.pick_l0 ho2
   refine call_append (rows := ints (outB b id).s0.lib) (news := [[iV id]]) (O1 := A) (O2 := R) (e := Ty_int) (size := 1) (bytes := 8) (by kernel_rfl) hp hA (fun Hf _ hf => Sl.block1 (hf _ List.mem_cons_self) rfl ⟨rfl, trivial⟩) (by simp [ints]; omega) (by simp [ints]; omega) ?_
   intro v' A' H6 l6 hA'
   have hA2 : OSl Ty_int 1 v' (ints ((outB b id).s0.lib ++ [id])) A' := by rw [ints, List.map_append]; exact hA'
   have hfin := back _ _ _ hA2
   repeat (first | refine chkN_den ?_ | refine chkV_den ?_)
   exact ret_denO ⟨_, rfl, hfin⟩
  ·refine ⟨.i64, 1, rfl, fun e => absurd e (by omega), fun _ => ?_⟩
   refine ⟨.i64, 1, rfl, fun _ => ?_, fun e => absurd rfl e⟩
   repeat (first | refine chkN_den ?_ | refine chkV_den ?_)
   refine newbox_den fun r3 => ?_
   repeat (first | refine chkN_den ?_ | refine chkV_den ?_)
   obtain ⟨A, R, hp, hA, back⟩ := OwnB.pick_h0 ho2
   refine call_append (rows := ints (outB b id).s0.hand) (news := [[iV id]]) (O1 := A) (O2 := R) (e := Ty_int) (size := 1) (bytes := 8) (by kernel_rfl) hp hA (fun Hf _ hf => Sl.block1 (hf _ List.mem_cons_self) rfl ⟨rfl, trivial⟩) (by simp [ints]; omega) (by simp [ints]; omega) ?_
   intro v' A' H6 l6 hA'
   have hA2 : OSl Ty_int 1 v' (ints ((outB b id).s0.hand ++ [id])) A' := by rw [ints, List.map_append]; exact hA'
   have hfin := back _ _ _ hA2
   repeat (first | refine chkN_den ?_ | refine chkV_den ?_)
   exact ret_denO ⟨_, rfl, hfin⟩
  ·refine ⟨.i64, 2, rfl, fun e => absurd e (by omega), fun _ => ?_⟩
   refine ⟨.i64, 2, rfl, fun e => absurd e (by omega), fun _ => ?_⟩
   refine ⟨.i64, 2, rfl, fun _ => ?_, fun e => absurd rfl e⟩
   repeat (first | refine chkN_den ?_ | refine chkV_den ?_)
   refine newbox_den fun r3 => ?_
   repeat (first | refine chkN_den ?_ | refine chkV_den ?_)
   obtain ⟨A, R, hp, hA, back⟩ := OwnB.pick_f0 ho2
   refine call_append (rows := ints (outB b id).s0.field) (news := [[iV id]]) (O1 := A) (O2 := R) (e := Ty_int) (size := 1) (bytes := 8) (by kernel_rfl) hp hA (fun Hf _ hf => Sl.block1 (hf _ List.mem_cons_self) rfl ⟨rfl, trivial⟩) (by simp [ints]; omega) (by simp [ints]; omega) ?_
   intro v' A' H6 l6 hA'
   have hA2 : OSl Ty_int 1 v' (ints ((outB b id).s0.field ++ [id])) A' := by rw [ints, List.map_append]; exact hA'
   have hfin := back _ _ _ hA2
   repeat (first | refine chkN_den ?_ | refine chkV_den ?_)
   exact ret_denO ⟨_, rfl, hfin⟩
  ·refine ⟨.i64, 3, rfl, fun e => absurd e (by omega), fun _ => ?_⟩
   refine ⟨.i64, 3, rfl, fun e => absurd e (by omega), fun _ => ?_⟩
   refine ⟨.i64, 3, rfl, fun e => absurd e (by omega), fun _ => ?_⟩
   refine ⟨.i64, 3, rfl, fun _ => ?_, fun e => absurd rfl e⟩
   repeat (first | refine chkN_den ?_ | refine chkV_den ?_)
   refine newbox_den fun r3 => ?_
   repeat (first | refine chkN_den ?_ | refine chkV_den ?_)
   obtain ⟨A, R, hp, hA, back⟩ := OwnB.pick_g0 ho2
   refine call_append (rows := ints (outB b id).s0.grave) (news := [[iV id]]) (O1 := A) (O2 := R) (e := Ty_int) (size := 1) (bytes := 8) (by kernel_rfl) hp hA (fun Hf _ hf => Sl.block1 (hf _ List.mem_cons_self) rfl ⟨rfl, trivial⟩) (by simp [ints]; omega) (by simp [ints]; omega) ?_
   intro v' A' H6 l6 hA'
   have hA2 : OSl Ty_int 1 v' (ints ((outB b id).s0.grave ++ [id])) A' := by rw [ints, List.map_append]; exact hA'
   have hfin := back _ _ _ hA2
   repeat (first | refine chkN_den ?_ | refine chkV_den ?_)
   exact ret_denO ⟨_, rfl, hfin⟩

 ·rw [hown]
  refine ⟨.i64, 1, rfl, fun e => absurd e (by omega), fun _ => ⟨.i64, 1, rfl, fun _ => ?_, fun e => absurd rfl e⟩⟩
  repeat (first | refine chkN_den ?_ | refine chkV_den ?_)
  refine call_retO (c_lists r0 15 _ _) rfl ⟨rfl, rfl, rfl, rfl, trivial⟩ fun H5 l5 => ?_
  repeat (first | refine chkN_den ?_ | refine chkV_den ?_)
  rcases hz4 with rfl | rfl | rfl | rfl
  ·refine ⟨.i64, 0, rfl, fun _ => ?_, fun e => absurd rfl e⟩
   repeat (first | refine chkN_den ?_ | refine chkV_den ?_)
   refine newbox_den fun r3 => ?_
   repeat (first | refine chkN_den ?_ | refine chkV_den ?_)
   obtain ⟨A, R, hp, hA, back⟩ := OwnB.pick_l1 ho2
   refine call_append (rows := ints (outB b id).s1.lib) (news := [[iV id]]) (O1 := A) (O2 := R) (e := Ty_int) (size := 1) (bytes := 8) (by kernel_rfl) hp hA (fun Hf _ hf => Sl.block1 (hf _ List.mem_cons_self) rfl ⟨rfl, trivial⟩) (by simp [ints]; omega) (by simp [ints]; omega) ?_
   intro v' A' H6 l6 hA'
   have hA2 : OSl Ty_int 1 v' (ints ((outB b id).s1.lib ++ [id])) A' := by rw [ints, List.map_append]; exact hA'
   have hfin := back _ _ _ hA2
   repeat (first | refine chkN_den ?_ | refine chkV_den ?_)
   exact ret_denO ⟨_, rfl, hfin⟩
  ·refine ⟨.i64, 1, rfl, fun e => absurd e (by omega), fun _ => ?_⟩
   refine ⟨.i64, 1, rfl, fun _ => ?_, fun e => absurd rfl e⟩
   repeat (first | refine chkN_den ?_ | refine chkV_den ?_)
   refine newbox_den fun r3 => ?_
   repeat (first | refine chkN_den ?_ | refine chkV_den ?_)
   obtain ⟨A, R, hp, hA, back⟩ := OwnB.pick_h1 ho2
   refine call_append (rows := ints (outB b id).s1.hand) (news := [[iV id]]) (O1 := A) (O2 := R) (e := Ty_int) (size := 1) (bytes := 8) (by kernel_rfl) hp hA (fun Hf _ hf => Sl.block1 (hf _ List.mem_cons_self) rfl ⟨rfl, trivial⟩) (by simp [ints]; omega) (by simp [ints]; omega) ?_
   intro v' A' H6 l6 hA'
   have hA2 : OSl Ty_int 1 v' (ints ((outB b id).s1.hand ++ [id])) A' := by rw [ints, List.map_append]; exact hA'
   have hfin := back _ _ _ hA2
   repeat (first | refine chkN_den ?_ | refine chkV_den ?_)
   exact ret_denO ⟨_, rfl, hfin⟩
  ·refine ⟨.i64, 2, rfl, fun e => absurd e (by omega), fun _ => ?_⟩
   refine ⟨.i64, 2, rfl, fun e => absurd e (by omega), fun _ => ?_⟩
   refine ⟨.i64, 2, rfl, fun _ => ?_, fun e => absurd rfl e⟩
   repeat (first | refine chkN_den ?_ | refine chkV_den ?_)
   refine newbox_den fun r3 => ?_
   repeat (first | refine chkN_den ?_ | refine chkV_den ?_)
   obtain ⟨A, R, hp, hA, back⟩ := OwnB.pick_f1 ho2
   refine call_append (rows := ints (outB b id).s1.field) (news := [[iV id]]) (O1 := A) (O2 := R) (e := Ty_int) (size := 1) (bytes := 8) (by kernel_rfl) hp hA (fun Hf _ hf => Sl.block1 (hf _ List.mem_cons_self) rfl ⟨rfl, trivial⟩) (by simp [ints]; omega) (by simp [ints]; omega) ?_
   intro v' A' H6 l6 hA'
   have hA2 : OSl Ty_int 1 v' (ints ((outB b id).s1.field ++ [id])) A' := by rw [ints, List.map_append]; exact hA'
   have hfin := back _ _ _ hA2
   repeat (first | refine chkN_den ?_ | refine chkV_den ?_)
   exact ret_denO ⟨_, rfl, hfin⟩
  ·refine ⟨.i64, 3, rfl, fun e => absurd e (by omega), fun _ => ?_⟩
   refine ⟨.i64, 3, rfl, fun e => absurd e (by omega), fun _ => ?_⟩
   refine ⟨.i64, 3, rfl, fun e => absurd e (by omega), fun _ => ?_⟩
   refine ⟨.i64, 3, rfl, fun _ => ?_, fun e => absurd rfl e⟩
   repeat (first | refine chkN_den ?_ | refine chkV_den ?_)
   refine newbox_den fun r3 => ?_
   repeat (first | refine chkN_den ?_ | refine chkV_den ?_)
   obtain ⟨A, R, hp, hA, back⟩ := OwnB.pick_g1 ho2
   refine call_append (rows := ints (outB b id).s1.grave) (news := [[iV id]]) (O1 := A) (O2 := R) (e := Ty_int) (size := 1) (bytes := 8) (by kernel_rfl) hp hA (fun Hf _ hf => Sl.block1 (hf _ List.mem_cons_self) rfl ⟨rfl, trivial⟩) (by simp [ints]; omega) (by simp [ints]; omega) ?_
   intro v' A' H6 l6 hA'
   have hA2 : OSl Ty_int 1 v' (ints ((outB b id).s1.grave ++ [id])) A' := by rw [ints, List.map_append]; exact hA'
   have hfin := back _ _ _ hA2
   repeat (first | refine chkN_den ?_ | refine chkV_den ?_)
   exact ret_denO ⟨_, rfl, hfin⟩
def removeV (b : Bd) (id : Int) : Bd × Int := if (indexE b id != 0) = true then (zBd, indexE b id) else ({ outB b id with objs := b.objs.eraseIdx (idxO b id).toNat }, 0)
theorem eraseIdx_map {α β : Type} (f : α → β) : ∀ (l : List α) (k : Nat), (l.map f).eraseIdx k = (l.eraseIdx k).map f
 | [], _ => rfl
 | _ :: _, 0 => rfl
 | a :: l, k + 1 => by simp [eraseIdx_map f l k]
theorem c_Remove {H : Heap} {v : BV12} {b : Bd} (h : BdS H v b) (hB : bdB b) {id : Int} (hid : i64 id) : Triple PP F_board_Remove [.agg (boardC v b).toArray, iV id] H [] fun r _ O' => ∃ w, r = .tuple #[.agg (boardC w (removeV b id).1).toArray, iV (removeV b id).2] ∧ OwnB tys w (removeV b id).1 O' := by
 refine run_board_Remove (vs := boardC v b ++ [iV id]) (by kernel_rfl) (ones_app (boardC_ones (h.r [])) ⟨rfl, trivial⟩) ?_
 simp only [T_board_Remove]
 refine newbox_den fun r0 => newbox_den fun r1 => ?_
 repeat (first | refine chkN_den ?_ | refine chkV_den ?_)
 refine call_retO (c_index (h.r []) hid) rfl ⟨rfl, rfl, trivial⟩ fun H1 l1 => pure_den _ (neq_eq _ _) (br_den (fun hb => ?_) (fun hb => ?_))
 ·have e : removeV b id = (zBd, indexE b id) := by rw [removeV, if_pos hb]
  repeat (first | refine chkN_den ?_ | refine chkV_den ?_)
  exact ret_denO ⟨nilV, by rw [e]; rfl, by rw [e]; exact OwnB.zero tys⟩
 obtain ⟨hval, k, o, e1, e2, e3, e4⟩ := indexE_ok hb
 have e : removeV b id = ({ outB b id with objs := b.objs.eraseIdx k }, 0) := by rw [removeV, if_neg (by rw [hb]; simp), e3]; rfl
 have hklt : k < b.objs.length := (List.getElem?_eq_some_iff.1 e1).1
 rw [e, e4]
 replace h := h.le l1
 repeat (first | refine chkN_den ?_ | refine chkV_den ?_)
 refine call_new (c_out h hB id) ?_
 rintro _ H3 O3 ⟨w, rfl, ho⟩ l3
 refine ⟨boardC w (outB b id), rfl, ownB_ones H3 ho, ?_⟩
 rw [List.append_nil]
 repeat (first | refine chkN_den ?_ | refine chkV_den ?_)
 refine pure_den _ (add_one (by have := hB.1; omega)) ?_
 repeat (first | refine chkN_den ?_ | refine chkV_den ?_)
 obtain ⟨A, R, hp, hA, back⟩ := OwnB.pick_objs ho
 have hA : OSl Ty_api_Object 12 w.o (b.objs.map Ob.row) A := hA
 refine call_part hp (c_DeleteR_api_Object (H := H3) hA (k := k) (by rw [List.length_map]; exact hklt)) fun v' H4 A' hA' l4 => ⟨[v'], rfl, ⟨hA'.one, trivial⟩, ?_⟩
 rw [eraseIdx_map] at hA'
 have hfin := back v' (b.objs.eraseIdx k) A' hA'
 repeat (first | refine chkN_den ?_ | refine chkV_den ?_)
 exact ret_denO ⟨_, rfl, hfin⟩
end Go.Proofs.YtjaegdkkiefchaaGreatDoor
namespace Go.Proofs.YtjaegdkkiefchaaGreatDoor
open Go Go.Sx
set_option maxRecDepth 100000
set_option maxHeartbeats 1000000
def drawOne (b : Bd) (p id : Int) : Bd := setOb (midB b p id) (idxO b id).toNat (resetO (b.objs.getD (idxO b id).toNat zO) 1)
def drawGo : Nat → Bd → Int → Bd
 | 0, b, _ => b
 | n + 1, b, p => match (seatOf b p).lib.getLast? with
  | none => withSeat b p { seatOf b p with empty := true }
  | some id => drawGo n (drawOne b p id) p
def drawV (b : Bd) (p n : Int) : Bd × Int := if (!validBd b || (!withinB p 0 1 || decide (n < 0))) = true then (zBd, 2) else (drawGo n.toNat b p, 0)
/-- What changes when cards are drawn. -/
def wD (w : BV12) (x1 x2 x3 x4 : Value) : BV12 := { w with l0 := x1, h0 := x2, l1 := x3, h1 := x4 }
def mkD (b : Bd) (os : List Ob) (a1 a2 a3 a4 : List Int) : Bd := { b with objs := os, s0 := { b.s0 with lib := a1, hand := a2 }, s1 := { b.s1 with lib := a3, hand := a4 } }
theorem sub_one {n : Nat} (h : n + 1 < 2 ^ 63) : evalPure (.bin .sub .int) [iV ((n + 1 : Nat) : Int), iV 1] = some (iV (n : Int)) := by
 simp only [evalPure, evalBin, evalInt, if_true]
 rw [wrap_id (by omega) (by omega)]
 congr 3
 omega
/-- What is drawn has its object. -/
theorem draw_step {b : Bd} (h : validBd b = true) {p : Int} (hp : p = 0 ∨ p = 1) {l : List Int} {id : Int} (hl : (seatOf b p).lib = l ++ [id]) :
  ∃ (k : Nat) (o : Ob), b.objs[k]? = some o ∧ o.id = id ∧ o.owner = p ∧ idxO b id = k ∧ validBd (midB b p id) = true ∧ indexE (midB b p id) id = 0 ∧ indexI (midB b p id) id = k ∧ i64 id ∧ drawOne b p id = setOb (midB b p id) k (resetO o 1) ∧ validBd (drawOne b p id) = true := by
 obtain ⟨_, m2, _, m4⟩ := mid_facts hp hl
 have hpl := (valid_parts h).1
 obtain ⟨k, o, e1, e2, e3⟩ := id_obj hpl m4
 obtain ⟨v1, _, v3, _⟩ := obj_known hpl e1
 rw [e2] at v3
 have hmv := mid_valid h hp hl
 have hidx : idxO (midB b p id) id = k := by rw [idxO, m2]; exact v3
 have hn : ¬ ((k : Int) < 0) := by omega
 have hid := validO_id v1
 have hd : drawOne b p id = setOb (midB b p id) k (resetO o 1) := by
  simp only [drawOne, v3, Int.toNat_natCast, List.getD_eq_getElem?_getD, e1, Option.getD_some]
 refine ⟨k, o, e1, e2, e3, v3, hmv, by simp [indexE, hmv, hidx, hn], by rw [indexI, if_pos hmv, hidx, if_neg hn], by rw [← e2]; omega, hd, ?_⟩
 rw [hd]
 exact set_valid (o := o) hmv (by rw [m2]; exact e1) rfl rfl rfl (validO_reset 1 v1)
theorem c_Draw {H : Heap} {v : BV12} {b : Bd} (h : BdS H v b) (hB : bdB b) (p n : Int) (hn1000 : n ≤ 1000) : Triple PP F_board_Draw [.agg (boardC v b).toArray, iV p, iV n] H [] fun r _ O' => ∃ w, r = .tuple #[.agg (boardC w (drawV b p n).1).toArray, iV (drawV b p n).2] ∧ OwnB tys w (drawV b p n).1 O' := by
 refine run_board_Draw (vs := boardC v b ++ [iV p, iV n]) (by kernel_rfl) (ones_app (boardC_ones (h.r [])) ⟨rfl, rfl, trivial⟩) ?_
 simp only [T_board_Draw]
 refine newbox_den fun r0 => newbox_den fun r1 => ?_
 repeat (first | refine chkN_den ?_ | refine chkV_den ?_)
 refine call_retO (c_board_Valid (h.r [])) rfl ⟨rfl, trivial⟩ fun H1 l1 => pure_den _ (not_eq' _) (br_den (fun hb => ?_) (fun hb => ?_))
 ·have e : drawV b p n = (zBd, 2) := by rw [drawV, if_pos (by rw [notT hb]; rfl)]
  repeat (first | refine chkN_den ?_ | refine chkV_den ?_)
  exact ret_denO ⟨nilV, by rw [e]; rfl, by rw [e]; exact OwnB.zero tys⟩
 have hval : validBd b = true := notF hb
 replace h := h.le l1
 repeat (first | refine chkN_den ?_ | refine chkV_den ?_)
 refine call_retO (c_within p 0 1 H1 []) rfl ⟨rfl, trivial⟩ fun H2 l2 => ?_
 repeat (first | refine chkN_den ?_ | refine chkV_den ?_ | refine newbox_den fun _ => ?_ | refine pure_den _ (lss_eq _ _) ?_ | refine pure_den _ (gtr_eq _ _) ?_ | refine pure_den _ (leq_eq _ _) ?_ | refine pure_den _ (geq_eq _ _) ?_ | refine pure_den _ (eql_eq _ _) ?_ | refine pure_den _ (neq_eq _ _) ?_ | refine pure_den _ (pick_and _ _) ?_ | refine pure_den _ (pick_or _ _) ?_ | refine pure_den _ (not_eq' _) ?_ | refine pure_den _ (beql_eq _ _) ?_ | refine pure_den _ (bneq_eq _ _) ?_)
 refine br_den (fun hb => ?_) (fun hb => ?_)
 ·have e : drawV b p n = (zBd, 2) := by
   have hb : (!withinB p 0 1 || decide (n < 0)) = true := hb
   rw [drawV, if_pos (by rw [hb]; simp)]
  repeat (first | refine chkN_den ?_ | refine chkV_den ?_)
  exact ret_denO ⟨nilV, by rw [e]; rfl, by rw [e]; exact OwnB.zero tys⟩
 have hb : (!withinB p 0 1 || decide (n < 0)) = false := hb
 have e : drawV b p n = (drawGo n.toNat b p, 0) := by rw [drawV, if_neg (by rw [hb, hval]; simp)]
 simp only [Bool.or_eq_false_iff, Bool.not_eq_false', decide_eq_false_iff_not] at hb
 obtain ⟨hb1, hb2⟩ := hb
 have hp : p = 0 ∨ p = 1 := by simp only [withinB, decide_eq_true_eq] at hb1; omega
 obtain ⟨n0, rfl⟩ : ∃ n0 : Nat, n = n0 := ⟨n.toNat, by omega⟩
 rw [Int.toNat_natCast] at e
 rw [e]
 clear e
 replace h := h.le l2
 repeat (first | refine chkN_den ?_ | refine chkV_den ?_)
 refine call_new (c_Copy h hB) ?_
 rintro _ H3 O3 ⟨w, rfl, ho⟩ l3
 refine ⟨boardC w b, rfl, ownB_ones H3 ho, ?_⟩
 rw [List.append_nil]
 obtain ⟨_, ⟨m2, m3, _, _⟩, ⟨m6, m7, _, _⟩, _⟩ := hB
 repeat (first | refine chkN_den ?_ | refine chkV_den ?_)
 rcases hp with rfl | rfl
 ·refine ⟨.i64, 0, rfl, fun _ => ?_, fun e => absurd rfl e⟩
  repeat (first | refine chkN_den ?_ | refine chkV_den ?_)
  refine loop_den (fun vs H' O' => ∃ (m : Nat) (x1 x2 x3 x4 : Value) (os : List Ob) (a1 a2 a3 a4 : List Int), vs = [iV m, x1, x2, x3, x4] ∧ m ≤ 1000 ∧ OwnB tys (wD w x1 x2 x3 x4) (mkD b os a1 a2 a3 a4) O' ∧ validBd (mkD b os a1 a2 a3 a4) = true ∧ drawGo n0 b 0 = drawGo m (mkD b os a1 a2 a3 a4) 0 ∧ a1.length + a2.length ≤ 4000000)
   (fun vs _ _ => match g vs 0 with | .int _ k => k.toNat | _ => 0) ⟨n0, _, _, _, _, b.objs, b.s0.lib, b.s0.hand, b.s1.lib, b.s1.hand, rfl, by omega, ho, hval, rfl, by omega⟩ ?_
  rintro vs H' O' - - - ⟨m, x1, x2, x3, x4, os, a1, a2, a3, a4, rfl, hm, hown, hv, hgo, hlen⟩
  refine pure_den _ (gtr_eq _ _) (br_den (fun hb => ?_) (fun hb => ?_))
  ·have hb := of_decide_eq_true hb
   obtain ⟨m', rfl⟩ : ∃ m' : Nat, m = m' + 1 := ⟨m - 1, by omega⟩
   have hR := hown.r (fun p hp => hp) H'
   have hl1 : evalPure .len [x1] = some (iV a1.length) := by have := hR.s0.lib.len; rwa [ints, List.length_map] at this
   repeat (first | refine chkN_den ?_ | refine chkV_den ?_)
   refine pure_den _ hl1 (pure_den _ (eql_eq _ _) (br_den (fun hb => ?_) (fun hb => ?_)))
   ·have h0 : a1 = [] := by
     have : a1.length = 0 := by simpa using hb
     exact List.eq_nil_of_length_eq_zero this
    subst h0
    have e : drawGo n0 b 0 = withSeat (mkD b os [] a2 a3 a4) 0 { seatOf (mkD b os [] a2 a3 a4) 0 with empty := true } := by rw [hgo]; rfl
    rw [e]
    repeat (first | refine chkN_den ?_ | refine chkV_den ?_)
    refine ret_denO ⟨wD w x1 x2 x3 x4, rfl, ?_⟩
    obtain ⟨Oo, A0, B0, C0, D0, A1, B1, C1, D1, Os, Oq, Oa, Obk, hq, hh⟩ := hown
    exact ⟨Oo, A0, B0, C0, D0, A1, B1, C1, D1, Os, Oq, Oa, Obk, hq, ⟨hh.objs, hh.l0, hh.h0, hh.f0, hh.g0, hh.l1, hh.h1, hh.f1, hh.g1, hh.stack, hh.queue, hh.att, hh.blocks⟩⟩
   ·obtain ⟨l, id, rfl⟩ : ∃ l id, a1 = l ++ [id] := by
     have hne : a1 ≠ [] := by rintro rfl; simp at hb
     exact ⟨a1.dropLast, a1.getLast hne, (List.dropLast_concat_getLast hne).symm⟩
    obtain ⟨k, ob, e1, e2, e3, e4, hmv, hE, hI, hid, hd, hdv⟩ := draw_step hv (p := 0) (.inl rfl) (l := l) (id := id) rfl
    have hll : (l ++ [id]).length = l.length + 1 := by simp
    rw [hll]
    have hls : l.length + 1 < 2 ^ 63 := by rw [hll] at hlen; omega
    repeat (first | refine chkN_den ?_ | refine chkV_den ?_)
    refine pure_den _ (sub_one hls) ?_
    repeat (first | refine chkN_den ?_ | refine chkV_den ?_)
    obtain ⟨a, i1, i2, _, i3, i4⟩ := hR.s0.lib.idx .i64 l.length [iV id] (by show (ints (l ++ [id]))[l.length]? = _; simp [ints])
    refine pure_den _ i1 (load_denR i2 i3 i4 ?_)
    repeat (first | refine chkN_den ?_ | refine chkV_den ?_)
    refine pure_den _ (sub_one hls) ?_
    repeat (first | refine chkN_den ?_ | refine chkV_den ?_)
    obtain ⟨A, R, hp1, hA, back⟩ := OwnB.pick_l0 hown
    have hA : OSl Ty_int 1 x1 (ints (l ++ [id])) A := hA
    obtain ⟨u, su, hu⟩ := hA.upto (i := l.length) (by simp [ints])
    have hu : OSl Ty_int 1 u (ints l) A := by
     have : (ints (l ++ [id])).take l.length = ints l := by simp [ints]
     rwa [this] at hu
    have ho1 := OwnB.perm (back u l A hu) hp1
    refine pure_den _ su ?_
    repeat (first | refine chkN_den ?_ | refine chkV_den ?_)
    refine newbox_den fun r2 => ?_
    repeat (first | refine chkN_den ?_ | refine chkV_den ?_)
    obtain ⟨A2, R2, hp2, hA2, back2⟩ := OwnB.pick_h0 ho1
    have hA2 : OSl Ty_int 1 x2 (ints a2) A2 := hA2
    refine call_append (rows := ints a2) (news := [[iV id]]) (O1 := A2) (O2 := R2) (e := Ty_int) (size := 1) (bytes := 8) (by kernel_rfl) hp2 hA2 (fun Hf _ hf => Sl.block1 (hf _ List.mem_cons_self) rfl ⟨rfl, trivial⟩) (by simp [ints]; omega) (by simp [ints]; omega) ?_
    intro y A' H6 l6 hA'
    have hA3 : OSl Ty_int 1 y (ints (a2 ++ [id])) A' := by rw [ints, List.map_append]; exact hA'
    have ho2 := back2 y (a2 ++ [id]) A' hA3
    have emid : midB (mkD b os (l ++ [id]) a2 a3 a4) 0 id = mkD b os l (a2 ++ [id]) a3 a4 := by
     simp only [midB, midS, withSeat, seatOf, mkD, if_true, List.dropLast_concat]
    rw [emid] at hmv hE hI hd
    have ho2 : OwnB tys (wD w u y x3 x4) (mkD b os l (a2 ++ [id]) a3 a4) (A' ++ R2) := ho2
    repeat (first | refine chkN_den ?_ | refine chkV_den ?_)
    refine call_retO (c_index (ho2.r (fun p hp => hp) H6) hid) rfl ⟨rfl, rfl, trivial⟩ fun H7 l7 => ?_
    rw [hI]
    repeat (first | refine chkN_den ?_ | refine chkV_den ?_)
    have e1' : (mkD b os l (a2 ++ [id]) a3 a4).objs[k]? = some ob := e1
    obtain ⟨a5, k1, k2, _, k3, k4⟩ := (ho2.r (fun p hp => hp) H7).objs.idx .i64 k (Ob.row ob) (by rw [List.getElem?_map, e1']; rfl)
    have k1 : evalPure (.idx 12) [w.o, iV k] = some (.pointer (some a5)) := k1
    refine pure_den _ k1 (load_denR k2 k3 k4 ?_)
    repeat (first | refine chkN_den ?_ | refine chkV_den ?_)
    refine call_retO (c_Reset ob 1 H7 _) rfl (vs := (resetO ob 1).row) (ob_ones _) fun H8 l8 => ?_
    obtain ⟨a6, q1, O1, q2, O2, q3, q4⟩ := OwnB.store_ob ho2 (X := []) (O' := A' ++ R2) (by simp) e1' (resetO ob 1)
    have q1 : evalPure (.idx 12) [w.o, iV k] = some (.pointer (some a6)) := q1
    rw [List.append_nil] at q3
    repeat (first | refine chkN_den ?_ | refine chkV_den ?_)
    refine pure_den _ q1 ?_
    repeat (first | refine chkN_den ?_ | refine chkV_den ?_ | refine chkP_den rfl ?_)
    refine ⟨_, q2, ?_⟩
    repeat (first | refine chkN_den ?_ | refine chkV_den ?_)
    refine pure_den _ (sub_one (by omega)) ?_
    refine cont_den (by simp [Eqs]) ⟨m', u, y, x3, x4, os.set k (resetO ob 1), l, (a2 ++ [id]), a3, a4, rfl, by omega, OwnB.perm q4 q3, by rw [hd] at hdv; exact hdv, ?_, by rw [hll] at hlen; simp only [List.length_append, List.length_cons, List.length_nil]; omega⟩ ?_
    ·rw [hgo, drawGo]
     have egl : (seatOf (mkD b os (l ++ [id]) a2 a3 a4) 0).lib.getLast? = some id := by
      show (l ++ [id]).getLast? = some id
      simp
     rw [egl]
     show drawGo m' (drawOne _ 0 id) 0 = _
     rw [hd]; rfl
    ·show ((m' : Int)).toNat < (((m' + 1 : Nat) : Int)).toNat
     omega
  ·have hm0 : m = 0 := by have := of_decide_eq_false hb; omega
   subst hm0
   have e : drawGo n0 b 0 = mkD b os a1 a2 a3 a4 := by rw [hgo]; rfl
   rw [e]
   repeat (first | refine chkN_den ?_ | refine chkV_den ?_)
   exact ret_denO ⟨wD w x1 x2 x3 x4, rfl, hown⟩
 ·refine ⟨.i64, 1, rfl, fun e => absurd e (by omega), fun _ => ⟨.i64, 1, rfl, fun _ => ?_, fun e => absurd rfl e⟩⟩
  repeat (first | refine chkN_den ?_ | refine chkV_den ?_)
  refine loop_den (fun vs H' O' => ∃ (m : Nat) (x1 x2 x3 x4 : Value) (os : List Ob) (a1 a2 a3 a4 : List Int), vs = [iV m, x1, x2, x3, x4] ∧ m ≤ 1000 ∧ OwnB tys (wD w x1 x2 x3 x4) (mkD b os a1 a2 a3 a4) O' ∧ validBd (mkD b os a1 a2 a3 a4) = true ∧ drawGo n0 b 1 = drawGo m (mkD b os a1 a2 a3 a4) 1 ∧ a3.length + a4.length ≤ 4000000)
   (fun vs _ _ => match g vs 0 with | .int _ k => k.toNat | _ => 0) ⟨n0, _, _, _, _, b.objs, b.s0.lib, b.s0.hand, b.s1.lib, b.s1.hand, rfl, by omega, ho, hval, rfl, by omega⟩ ?_
  rintro vs H' O' - - - ⟨m, x1, x2, x3, x4, os, a1, a2, a3, a4, rfl, hm, hown, hv, hgo, hlen⟩
  refine pure_den _ (gtr_eq _ _) (br_den (fun hb => ?_) (fun hb => ?_))
  ·have hb := of_decide_eq_true hb
   obtain ⟨m', rfl⟩ : ∃ m' : Nat, m = m' + 1 := ⟨m - 1, by omega⟩
   have hR := hown.r (fun p hp => hp) H'
   have hl1 : evalPure .len [x3] = some (iV a3.length) := by have := hR.s1.lib.len; rwa [ints, List.length_map] at this
   repeat (first | refine chkN_den ?_ | refine chkV_den ?_)
   refine pure_den _ hl1 (pure_den _ (eql_eq _ _) (br_den (fun hb => ?_) (fun hb => ?_)))
   ·have h0 : a3 = [] := by
     have : a3.length = 0 := by simpa using hb
     exact List.eq_nil_of_length_eq_zero this
    subst h0
    have e : drawGo n0 b 1 = withSeat (mkD b os a1 a2 [] a4) 1 { seatOf (mkD b os a1 a2 [] a4) 1 with empty := true } := by rw [hgo]; rfl
    rw [e]
    repeat (first | refine chkN_den ?_ | refine chkV_den ?_)
    refine ret_denO ⟨wD w x1 x2 x3 x4, rfl, ?_⟩
    obtain ⟨Oo, A0, B0, C0, D0, A1, B1, C1, D1, Os, Oq, Oa, Obk, hq, hh⟩ := hown
    exact ⟨Oo, A0, B0, C0, D0, A1, B1, C1, D1, Os, Oq, Oa, Obk, hq, ⟨hh.objs, hh.l0, hh.h0, hh.f0, hh.g0, hh.l1, hh.h1, hh.f1, hh.g1, hh.stack, hh.queue, hh.att, hh.blocks⟩⟩
   ·obtain ⟨l, id, rfl⟩ : ∃ l id, a3 = l ++ [id] := by
     have hne : a3 ≠ [] := by rintro rfl; simp at hb
     exact ⟨a3.dropLast, a3.getLast hne, (List.dropLast_concat_getLast hne).symm⟩
    obtain ⟨k, ob, e1, e2, e3, e4, hmv, hE, hI, hid, hd, hdv⟩ := draw_step hv (p := 1) (.inr rfl) (l := l) (id := id) rfl
    have hll : (l ++ [id]).length = l.length + 1 := by simp
    rw [hll]
    have hls : l.length + 1 < 2 ^ 63 := by rw [hll] at hlen; omega
    repeat (first | refine chkN_den ?_ | refine chkV_den ?_)
    refine pure_den _ (sub_one hls) ?_
    repeat (first | refine chkN_den ?_ | refine chkV_den ?_)
    obtain ⟨a, i1, i2, _, i3, i4⟩ := hR.s1.lib.idx .i64 l.length [iV id] (by show (ints (l ++ [id]))[l.length]? = _; simp [ints])
    refine pure_den _ i1 (load_denR i2 i3 i4 ?_)
    repeat (first | refine chkN_den ?_ | refine chkV_den ?_)
    refine pure_den _ (sub_one hls) ?_
    repeat (first | refine chkN_den ?_ | refine chkV_den ?_)
    obtain ⟨A, R, hp1, hA, back⟩ := OwnB.pick_l1 hown
    have hA : OSl Ty_int 1 x3 (ints (l ++ [id])) A := hA
    obtain ⟨u, su, hu⟩ := hA.upto (i := l.length) (by simp [ints])
    have hu : OSl Ty_int 1 u (ints l) A := by
     have : (ints (l ++ [id])).take l.length = ints l := by simp [ints]
     rwa [this] at hu
    have ho1 := OwnB.perm (back u l A hu) hp1
    refine pure_den _ su ?_
    repeat (first | refine chkN_den ?_ | refine chkV_den ?_)
    refine newbox_den fun r2 => ?_
    repeat (first | refine chkN_den ?_ | refine chkV_den ?_)
    obtain ⟨A2, R2, hp2, hA2, back2⟩ := OwnB.pick_h1 ho1
    have hA2 : OSl Ty_int 1 x4 (ints a4) A2 := hA2
    refine call_append (rows := ints a4) (news := [[iV id]]) (O1 := A2) (O2 := R2) (e := Ty_int) (size := 1) (bytes := 8) (by kernel_rfl) hp2 hA2 (fun Hf _ hf => Sl.block1 (hf _ List.mem_cons_self) rfl ⟨rfl, trivial⟩) (by simp [ints]; omega) (by simp [ints]; omega) ?_
    intro y A' H6 l6 hA'
    have hA3 : OSl Ty_int 1 y (ints (a4 ++ [id])) A' := by rw [ints, List.map_append]; exact hA'
    have ho2 := back2 y (a4 ++ [id]) A' hA3
    have emid : midB (mkD b os a1 a2 (l ++ [id]) a4) 1 id = mkD b os a1 a2 l (a4 ++ [id]) := by
     simp only [midB, midS, withSeat, seatOf, mkD, show ¬ ((1 : Int) = 0) by omega, if_false, List.dropLast_concat]
    rw [emid] at hmv hE hI hd
    have ho2 : OwnB tys (wD w x1 x2 u y) (mkD b os a1 a2 l (a4 ++ [id])) (A' ++ R2) := ho2
    repeat (first | refine chkN_den ?_ | refine chkV_den ?_)
    refine call_retO (c_index (ho2.r (fun p hp => hp) H6) hid) rfl ⟨rfl, rfl, trivial⟩ fun H7 l7 => ?_
    rw [hI]
    repeat (first | refine chkN_den ?_ | refine chkV_den ?_)
    have e1' : (mkD b os a1 a2 l (a4 ++ [id])).objs[k]? = some ob := e1
    obtain ⟨a5, k1, k2, _, k3, k4⟩ := (ho2.r (fun p hp => hp) H7).objs.idx .i64 k (Ob.row ob) (by rw [List.getElem?_map, e1']; rfl)
    have k1 : evalPure (.idx 12) [w.o, iV k] = some (.pointer (some a5)) := k1
    refine pure_den _ k1 (load_denR k2 k3 k4 ?_)
    repeat (first | refine chkN_den ?_ | refine chkV_den ?_)
    refine call_retO (c_Reset ob 1 H7 _) rfl (vs := (resetO ob 1).row) (ob_ones _) fun H8 l8 => ?_
    obtain ⟨a6, q1, O1, q2, O2, q3, q4⟩ := OwnB.store_ob ho2 (X := []) (O' := A' ++ R2) (by simp) e1' (resetO ob 1)
    have q1 : evalPure (.idx 12) [w.o, iV k] = some (.pointer (some a6)) := q1
    rw [List.append_nil] at q3
    repeat (first | refine chkN_den ?_ | refine chkV_den ?_)
    refine pure_den _ q1 ?_
    repeat (first | refine chkN_den ?_ | refine chkV_den ?_ | refine chkP_den rfl ?_)
    refine ⟨_, q2, ?_⟩
    repeat (first | refine chkN_den ?_ | refine chkV_den ?_)
    refine pure_den _ (sub_one (by omega)) ?_
    refine cont_den (by simp [Eqs]) ⟨m', x1, x2, u, y, os.set k (resetO ob 1), a1, a2, l, (a4 ++ [id]), rfl, by omega, OwnB.perm q4 q3, by rw [hd] at hdv; exact hdv, ?_, by rw [hll] at hlen; simp only [List.length_append, List.length_cons, List.length_nil]; omega⟩ ?_
    ·rw [hgo, drawGo]
     have egl : (seatOf (mkD b os a1 a2 (l ++ [id]) a4) 1).lib.getLast? = some id := by
      show (l ++ [id]).getLast? = some id
      simp
     rw [egl]
     show drawGo m' (drawOne _ 1 id) 1 = _
     rw [hd]; rfl
    ·show ((m' : Int)).toNat < (((m' + 1 : Nat) : Int)).toNat
     omega
  ·have hm0 : m = 0 := by have := of_decide_eq_false hb; omega
   subst hm0
   have e : drawGo n0 b 1 = mkD b os a1 a2 a3 a4 := by rw [hgo]; rfl
   rw [e]
   repeat (first | refine chkN_den ?_ | refine chkV_den ?_)
   exact ret_denO ⟨wD w x1 x2 x3 x4, rfl, hown⟩
end Go.Proofs.YtjaegdkkiefchaaGreatDoor
namespace Go.Proofs.YtjaegdkkiefchaaGreatDoor
open Go Go.Sx
set_option maxRecDepth 100000
set_option maxHeartbeats 1000000
theorem c_known {H : Heap} (hgl : GlobOk glob0 H) (O : Own) : RetO PP F_zeitnotlaw15_known [] H O (.bool true) :=
 run_trueS (c := cfg0) mixed (fun _ h => okFn_of okL_ok h) hgl (sum0_ok H) (by kernel_rfl) known_run O
end Go.Proofs.YtjaegdkkiefchaaGreatDoor
namespace Go.Proofs.YtjaegdkkiefchaaGreatDoor
open Go Go.Sx
set_option maxRecDepth 100000
set_option maxHeartbeats 1000000
theorem small_B {b : Bd} (h : smallBd b = true) : bdB b := by
 simp only [smallBd, stSmall, itsSmall, Bool.and_eq_true, Bool.not_eq_true', decide_eq_true_eq, decide_eq_false_iff_not, List.all_eq_true] at h
 obtain ⟨⟨a1, a2, a3, a4⟩, ⟨a5, a6, a7, a8⟩, ⟨a9, a10⟩, ⟨a11, a12⟩, ⟨a13, a14⟩, a15⟩ := h
 refine ⟨by omega, ⟨by omega, by omega, by omega, by omega⟩, ⟨by omega, by omega, by omega, by omega⟩, ⟨by omega, fun x hx => ?_⟩, ⟨by omega, fun x hx => ?_⟩, by omega, by omega⟩
 ·have := a10 x hx; omega
 ·have := a12 x hx; omega
/-- A call that is handed what is owned, and keeps it. -/
theorem call_drop {P : Program} {f : FuncId} {args : List Value} {H : Heap} {O O1 O2 : Own} {r : Value} {shp : Shp} {K : List Value → List (List Value) → Heap → Own → Prop} {vs : List Value}
  (hO : O.Perm (O1 ++ O2)) (h : Triple P f args H O1 fun v _ _ => v = r) (ho : shp.open r = some vs) (h1 : Ones vs) (hk : ∀ H' O3, Heap.le H H' → K vs [] H' (O3 ++ O2)) :
  CallD (fun H1 O1 R => Triple P f args H1 O1 R) false [] [] shp K H O := by
 intro _
 refine ⟨H, O1, O2, _, Ghost.perm hO, h, fun v H' O' hr hle => ?_⟩
 subst hr
 exact ⟨vs, [], O', ho, h1, trivial, rfl, hk H' O' hle⟩
end Go.Proofs.YtjaegdkkiefchaaGreatDoor
namespace Go.Proofs.YtjaegdkkiefchaaGreatDoor
open Go Go.Sx
set_option maxRecDepth 100000
set_option maxHeartbeats 1000000
theorem bdS_zero (H : Heap) : BdS H nilV zBd :=
 ⟨Sl.nil H 12, ⟨Sl.nil H 1, Sl.nil H 1, Sl.nil H 1, Sl.nil H 1⟩, ⟨Sl.nil H 1, Sl.nil H 1, Sl.nil H 1, Sl.nil H 1⟩, ⟨[], Sl.nil H 5, rfl, fun i r x h => by simp at h⟩, ⟨[], Sl.nil H 5, rfl, fun i r x h => by simp at h⟩, Sl.nil H 1, Sl.nil H 2⟩
def setR (b : Bd) (o : Ob) : Bd := if 0 ≤ idxO b o.id then setOb b (idxO b o.id).toNat o else b
theorem r_SetO {H : Heap} {v : BV12} {b : Bd} (h : BdS H v b) (hB : bdB b) (o : Ob) : Triple PP F_zeitnotref15_Set [.agg (boardC v b).toArray, .agg o.row.toArray] H [] fun r _ O' => ∃ w, r = .agg (boardC w (setR b o)).toArray ∧ OwnB tys w (setR b o) O' := by
 refine run_zeitnotref15_Set (vs := boardC v b ++ o.row) (by kernel_rfl) (ones_app (boardC_ones (h.r [])) (ob_ones o)) ?_
 simp only [T_zeitnotref15_Set]
 refine newbox_den fun r0 => newbox_den fun r1 => newbox_den fun r2 => ?_
 repeat (first | refine chkN_den ?_ | refine chkV_den ?_)
 refine call_new (r_Copy h hB) ?_
 rintro _ H3 O3 ⟨w, rfl, ho⟩ l3
 refine ⟨boardC w b, rfl, ownB_ones H3 ho, ?_⟩
 repeat (first | refine chkN_den ?_ | refine chkV_den ?_)
 refine call_retO (r_Index (ho.r (fun p hp => List.mem_append_left _ hp) H3) o.id) rfl ⟨rfl, trivial⟩ fun H4 l4 => pure_den _ (geq_eq _ _) (br_den (fun hb => ?_) (fun hb => ?_))
 ·have hb := of_decide_eq_true hb
  obtain ⟨k, x, e1, e2, e3⟩ := idxO_some (b := b) (id := o.id) (by omega)
  have e : setR b o = setOb b k o := by simp [setR, e3]
  rw [e, e3]
  obtain ⟨a', q1, O1, q2, O2, q3, q4⟩ := OwnB.store_ob ho (X := []) (O' := O3 ++ []) (by simp) e1 o
  repeat (first | refine chkN_den ?_ | refine chkV_den ?_)
  refine pure_den _ q1 (chkP_den rfl ⟨_, q2, ?_⟩)
  repeat (first | refine chkN_den ?_ | refine chkV_den ?_)
  exact ret_denO ⟨w, rfl, OwnB.perm q4 (by simpa using q3)⟩
 ·have hb := of_decide_eq_false hb
  have e : setR b o = b := by rw [setR, if_neg (by omega)]
  rw [e]
  repeat (first | refine chkN_den ?_ | refine chkV_den ?_)
  exact ret_denO ⟨w, rfl, OwnB.perm ho (by simp)⟩
theorem r_Set {H : Heap} {v : BV12} {b : Bd} (h : BdS H v b) (hB : bdB b) (o : Ob) : Triple PP F_zeitnotref15_Set [.agg (boardC v b).toArray, .agg o.row.toArray] H [] fun r H' O' => (∃ w, r = .agg (boardC w (setR b o)).toArray ∧ BdS H' w (setR b o)) ∧ O' = [] :=
 Triple.frozen (r_SetO h hB o)
theorem c_gives {H : Heap} {wx vw vf vs : BV12} {x want src was : Bd} {O1 : Own} (hx : OwnB tys wx x O1) (hw : BdS H vw want) (hf : BdS H vf src) (hs : BdS H vs was) (e no : Int) :
  Triple PP F_zeitnotlaw15_gives [.agg (boardC wx x).toArray, iV e, .agg (boardC vw want).toArray, iV no, .agg (boardC vf src).toArray, .agg (boardC vs was).toArray] H O1 fun r _ _ => r = .bool (((x == want) && (e == no)) && (src == was)) := by
 refine run_zeitnotlaw15_gives (vs := boardC wx x ++ ([iV e] ++ (boardC vw want ++ ([iV no] ++ (boardC vf src ++ boardC vs was))))) (by kernel_rfl)
  (ones_app (ownB_ones H hx) (ones_app ⟨rfl, trivial⟩ (ones_app (boardC_ones (hw.r [])) (ones_app ⟨rfl, trivial⟩ (ones_app (boardC_ones (hf.r [])) (boardC_ones (hs.r []))))))) ?_
 simp only [T_zeitnotlaw15_gives]
 refine newbox_den fun r0 => newbox_den fun r1 => newbox_den fun r2 => newbox_den fun r3 => ?_
 repeat (first | refine chkN_den ?_ | refine chkV_den ?_)
 refine call_retO (r_Same (hx.r (fun p hp => hp) H) (hw.r O1)) rfl ⟨rfl, trivial⟩ fun H1 l1 => ?_
 repeat (first | refine chkN_den ?_ | refine chkV_den ?_ | refine newbox_den fun _ => ?_ | refine pure_den _ (lss_eq _ _) ?_ | refine pure_den _ (gtr_eq _ _) ?_ | refine pure_den _ (leq_eq _ _) ?_ | refine pure_den _ (geq_eq _ _) ?_ | refine pure_den _ (eql_eq _ _) ?_ | refine pure_den _ (neq_eq _ _) ?_ | refine pure_den _ (pick_and _ _) ?_ | refine pure_den _ (pick_or _ _) ?_ | refine pure_den _ (not_eq' _) ?_ | refine pure_den _ (beql_eq _ _) ?_ | refine pure_den _ (bneq_eq _ _) ?_)
 refine br_den (fun hb => ?_) (fun hb => ?_)
 ·repeat (first | refine chkN_den ?_ | refine chkV_den ?_)
  refine call_retO (r_Same ((hf.le l1).r O1) ((hs.le l1).r O1)) rfl ⟨rfl, trivial⟩ fun H2 l2 => ?_
  repeat (first | refine chkN_den ?_ | refine chkV_den ?_)
  refine call_drop (O2 := []) (by simp) (c_stain hx) rfl trivial fun H3 O3 l3 => br_den (fun hc => ?_) (fun hc => ?_)
  ·have l := Heap.le_trans l1 (Heap.le_trans l2 l3)
   repeat (first | refine chkN_den ?_ | refine chkV_den ?_)
   refine call_retO (r_Same ((hf.le l).r _) ((hs.le l).r _)) rfl ⟨rfl, trivial⟩ fun H4 l4 => ret_denO ?_
   rw [show ((x == want) && (e == no)) = true from hb, Bool.true_and]; rfl
  ·refine ret_denO ?_
   rw [show (src == was) = false from hc, Bool.and_false]
 ·repeat (first | refine chkN_den ?_ | refine chkV_den ?_)
  refine call_drop (O2 := []) (by simp) (c_stain hx) rfl trivial fun H3 O3 l3 => ret_denO ?_
  rw [show ((x == want) && (e == no)) = false from hb, Bool.false_and]
theorem onR_isOn {b : Bd} (h : validBd b = true) (id : Int) : ∀ x ∈ b.stack, onR id x = isOn id x := by
 intro x hx
 have hf := List.all_eq_true.1 (valid_parts h).2.2.2 x hx
 have ht := fine_trig hf
 simp only [onR, isOn]
 by_cases hn : x.trig < 0
 ·simp [ht hn]
 ·have : ¬ x.trig = -1 := by omega
  simp [hn, this]
end Go.Proofs.YtjaegdkkiefchaaGreatDoor
