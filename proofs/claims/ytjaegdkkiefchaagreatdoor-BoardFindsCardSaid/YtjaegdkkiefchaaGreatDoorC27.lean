/- Finding, setting, and where an object is. -/
import Derived.Test.YtjaegdkkiefchaaGreatDoorC26
import Derived.Test.YtjaegdkkiefchaaGreatDoorC25
import Derived.Test.YtjaegdkkiefchaaGreatDoorM4
namespace Go.Proofs.YtjaegdkkiefchaaGreatDoor
open Go Go.Sx
set_option maxRecDepth 100000
set_option maxHeartbeats 1000000

def zO : Ob := ⟨0, 0, 0, 0, 0, 0, 0, 0, 0, false, false, false⟩
def zIt : It := ⟨0, 0, 0, 0, []⟩
theorem indexE_ok {b : Bd} {id : Int} (h : (indexE b id != 0) = false) : validBd b = true ∧ ∃ (k : Nat) (o : Ob), b.objs[k]? = some o ∧ o.id = id ∧ idxO b id = k ∧ indexI b id = k := by
  unfold indexE at h
  by_cases hv : validBd b = true
  · rw [if_pos hv] at h
    by_cases hi : idxO b id < 0
    · rw [if_pos hi] at h; simp at h
    · obtain ⟨k, o, e1, e2, e3⟩ := idxO_some hi
      exact ⟨hv, k, o, e1, e2, e3, by rw [indexI, if_pos hv, if_neg hi, e3]⟩
  · rw [if_neg hv] at h; simp at h
/-- The object with an id. -/
def findO (b : Bd) (id : Int) : Ob := if indexE b id != 0 then zO else b.objs.getD (idxO b id).toNat zO
theorem findO_eq {b : Bd} {id : Int} (h : (indexE b id != 0) = false) {k : Nat} {o : Ob} (e : b.objs[k]? = some o) (hi : idxO b id = k) : findO b id = o := by
  simp [findO, h, hi, e]
theorem c_Find {H : Heap} {O : Own} {v : BV12} {b : Bd} (h : BdR H O v b) {id : Int} (hid : i64 id) : RetO PP F_board_Find [.agg (boardC v b).toArray, iV id] H O (.tuple #[.agg (findO b id).row.toArray, iV (indexE b id)]) := by
  refine run_board_Find (vs := boardC v b ++ [iV id]) (by kernel_rfl) (ones_app (boardC_ones h) ⟨rfl, trivial⟩) ?_
  simp only [T_board_Find]
  refine newbox_den fun r0 => newbox_den fun r1 => chkN_den (call_retO (c_index h hid) rfl ⟨rfl, rfl, trivial⟩ fun H1 l1 => pure_den _ (neq_eq _ _) (br_den (fun hb => ?_) (fun hb => ?_)))
  · repeat (first | refine chkN_den ?_ | refine chkV_den ?_)
    refine ret_denO ⟨?_, rfl⟩
    have e : findO b id = zO := by rw [findO, if_pos hb]
    rw [e]; rfl
  · obtain ⟨_, k, o, e1, e2, e3, e4⟩ := indexE_ok hb
    obtain ⟨a, h1, h2, _, h3, h4⟩ := ((h.le l1).objs).idx .i64 k (Ob.row o) (by rw [List.getElem?_map, e1]; rfl)
    rw [e4]
    repeat (first | refine chkN_den ?_ | refine chkV_den ?_)
    refine pure_den _ h1 (load_denR h2 h3 h4 ?_)
    repeat (first | refine chkN_den ?_ | refine chkV_den ?_)
    refine ret_denO ⟨?_, rfl⟩
    have hz : indexE b id = 0 := by simpa using hb
    rw [findO_eq hb e1 e3, hz]; rfl
/-- A board's part is stored. -/
theorem OwnB.store_ob {t : Tys} {w : BV12} {b : Bd} {O X O' : Own} (h : OwnB t w b O) (hO : O'.Perm (O ++ X)) {k : Nat} {o : Ob} (hk : b.objs[k]? = some o) (o' : Ob) :
    ∃ a, evalPure (.idx 12) [w.o, iV k] = some (.pointer (some a)) ∧ ∃ O1, OwnStore O' (.pointer (some a)) o'.row O1 ∧ ∃ O2, O1.Perm (O2 ++ X) ∧ OwnB t w (setOb b k o') O2 := by
  obtain ⟨Oo, A0, B0, C0, D0, A1, B1, C1, D1, Os, Oq, Oa, Obk, hp, h⟩ := h
  have hp' : O'.Perm (Oo ++ ((A0 ++ (B0 ++ (C0 ++ (D0 ++ (A1 ++ (B1 ++ (C1 ++ (D1 ++ (Os ++ (Oq ++ (Oa ++ Obk))))))))))) ++ X)) := by
    refine hO.trans ((hp.append_right X).trans (List.Perm.of_eq ?_))
    simp only [List.append_assoc]
  obtain ⟨a, k1, k2⟩ := h.objs.store hp' (k := .i64) (i := k) (row := o.row) (by rw [List.getElem?_map, hk]; rfl)
  obtain ⟨O1', s1, s2⟩ := k2 0 o'.row (by simp [Ob.row]) (ob_ones o')
  rw [ptr0] at s1
  refine ⟨a, k1, _, s1, O1' ++ (A0 ++ (B0 ++ (C0 ++ (D0 ++ (A1 ++ (B1 ++ (C1 ++ (D1 ++ (Os ++ (Oq ++ (Oa ++ Obk))))))))))), List.Perm.of_eq (by simp only [List.append_assoc]), O1', A0, B0, C0, D0, A1, B1, C1, D1, Os, Oq, Oa, Obk, List.Perm.refl _, ?_⟩
  have e : (b.objs.map Ob.row).set k (splice o.row 0 o'.row) = (setOb b k o').objs.map Ob.row := by
    have : splice o.row 0 o'.row = o'.row := by simp [splice, Ob.row]
    rw [this, setOb, List.map_set]
  rw [e] at s2
  exact ⟨s2, h.l0, h.h0, h.f0, h.g0, h.l1, h.h1, h.f1, h.g1, h.stack, h.queue, h.att, h.blocks⟩
theorem OwnB.perm {t : Tys} {w : BV12} {b : Bd} {O O' : Own} (h : OwnB t w b O) (hp : O'.Perm O) : OwnB t w b O' :=
  let ⟨Oo, A0, B0, C0, D0, A1, B1, C1, D1, Os, Oq, Oa, Obk, hq, h⟩ := h
  ⟨Oo, A0, B0, C0, D0, A1, B1, C1, D1, Os, Oq, Oa, Obk, hp.trans hq, h⟩
theorem OwnB.zero (t : Tys) : OwnB t nilV zBd [] :=
  ⟨[], [], [], [], [], [], [], [], [], [], [], [], [], List.Perm.refl _, OSl.nil _ _, OSl.nil _ _, OSl.nil _ _, OSl.nil _ _, OSl.nil _ _, OSl.nil _ _, OSl.nil _ _, OSl.nil _ _, OSl.nil _ _,
    ⟨[], [], [], List.Perm.refl _, OSl.nil _ _, rfl, rfl, fun i r x T h => by simp at h⟩, ⟨[], [], [], List.Perm.refl _, OSl.nil _ _, rfl, rfl, fun i r x T h => by simp at h⟩, OSl.nil _ _, OSl.nil _ _⟩
def setV (b : Bd) (o : Ob) : Bd × Int :=
  if validO o then (if indexE b o.id != 0 then (zBd, indexE b o.id) else if ((findO b o.id).card != o.card || (findO b o.id).owner != o.owner) = true then (zBd, 8) else (setOb b (idxO b o.id).toNat o, 0)) else (zBd, 2)
theorem c_Set {H : Heap} {v : BV12} {b : Bd} (h : BdS H v b) (hB : bdB b) {o : Ob} (hid : i64 o.id) : Triple PP F_board_Set [.agg (boardC v b).toArray, .agg o.row.toArray] H [] fun r _ O' => ∃ w, r = .tuple #[.agg (boardC w (setV b o).1).toArray, iV (setV b o).2] ∧ OwnB tys w (setV b o).1 O' := by
  refine run_board_Set (vs := boardC v b ++ o.row) (by kernel_rfl) (ones_app (boardC_ones (h.r [])) (ob_ones o)) ?_
  simp only [T_board_Set]
  refine newbox_den fun r0 => newbox_den fun r1 => newbox_den fun r2 => ?_
  repeat (first | refine chkN_den ?_ | refine chkV_den ?_)
  refine call_retO (c_object_Valid o H []) rfl ⟨rfl, trivial⟩ fun H1 l1 => pure_den _ (not_eq' _) (br_den (fun hb => ?_) (fun hb => ?_))
  · repeat (first | refine chkN_den ?_ | refine chkV_den ?_)
    refine ret_denO ⟨nilV, ?_, ?_⟩
    · have e : setV b o = (zBd, 2) := by simp [setV, notT hb]
      rw [e]; rfl
    · have e : setV b o = (zBd, 2) := by simp [setV, notT hb]
      rw [e]; exact OwnB.zero tys
  have hv := notF hb
  replace h := h.le l1
  repeat (first | refine chkN_den ?_ | refine chkV_den ?_)
  refine call_retO (c_index (h.r []) hid) rfl ⟨rfl, rfl, trivial⟩ fun H2 l2 => pure_den _ (neq_eq _ _) (br_den (fun hb => ?_) (fun hb => ?_))
  · repeat (first | refine chkN_den ?_ | refine chkV_den ?_)
    have e : setV b o = (zBd, indexE b o.id) := by simp only [setV, hv, if_true]; rw [if_pos hb]
    refine ret_denO ⟨nilV, ?_, ?_⟩
    · rw [e]; rfl
    · rw [e]; exact OwnB.zero tys
  replace h := h.le l2
  obtain ⟨_, k, x, e1, e2, e3, e4⟩ := indexE_ok hb
  obtain ⟨a, h1, h2, _, h3, h4⟩ := (h.r []).objs.idx .i64 k (Ob.row x) (by rw [List.getElem?_map, e1]; rfl)
  have hfo := findO_eq hb e1 e3
  rw [e4]
  repeat (first | refine chkN_den ?_ | refine chkV_den ?_)
  refine pure_den _ h1 (load_denR h2 h3 h4 (newbox_den fun r3 => ?_))
  repeat (first | refine chkN_den ?_ | refine chkV_den ?_ | refine newbox_den fun _ => ?_ | refine pure_den _ (lss_eq _ _) ?_ | refine pure_den _ (gtr_eq _ _) ?_ | refine pure_den _ (leq_eq _ _) ?_ | refine pure_den _ (geq_eq _ _) ?_ | refine pure_den _ (eql_eq _ _) ?_ | refine pure_den _ (neq_eq _ _) ?_ | refine pure_den _ (pick_and _ _) ?_ | refine pure_den _ (pick_or _ _) ?_ | refine pure_den _ (not_eq' _) ?_ | refine pure_den _ (beql_eq _ _) ?_ | refine pure_den _ (bneq_eq _ _) ?_)
  refine br_den (fun hc => ?_) (fun hc => ?_)
  · repeat (first | refine chkN_den ?_ | refine chkV_den ?_)
    have e : setV b o = (zBd, 8) := by simp only [setV, hv, if_true]; rw [if_neg (by rw [hb]; simp), hfo, if_pos hc]
    refine ret_denO ⟨nilV, ?_, ?_⟩
    · rw [e]; rfl
    · rw [e]; exact OwnB.zero tys
  have e : setV b o = (setOb b k o, 0) := by simp only [setV, hv, if_true]; rw [if_neg (by rw [hb]; simp), hfo, if_neg (by rw [show (x.card != o.card || x.owner != o.owner) = false from hc]; simp), e3]; rfl
  rw [e]
  repeat (first | refine chkN_den ?_ | refine chkV_den ?_)
  refine call_new (c_Copy h hB) ?_
  rintro _ H3 O3 ⟨w, rfl, ho⟩ l3
  refine ⟨boardC w b, rfl, ownB_ones H3 ho, ?_⟩
  repeat (first | refine chkN_den ?_ | refine chkV_den ?_)
  obtain ⟨a', q1, O1, q2, O2, q3, q4⟩ := OwnB.store_ob ho (X := []) (O' := O3 ++ []) (by simp) e1 o
  refine pure_den _ q1 (chkP_den rfl ⟨_, q2, ?_⟩)
  repeat (first | refine chkN_den ?_ | refine chkV_den ?_)
  exact ret_denO ⟨w, rfl, OwnB.perm q4 (by simpa using q3)⟩

/-! Where an object is -/
def spotL (id : Int) : List (Int × Int × List Int) → Option (Int × Int × Int)
  | [] => none
  | x :: r => if 0 ≤ idxI x.2.2 id 0 then some (x.1, x.2.1, idxI x.2.2 id 0) else spotL id r
def zonesL (b : Bd) : List (Int × Int × List Int) := [(0, 0, b.s0.lib), (0, 1, b.s0.hand), (0, 2, b.s0.field), (0, 3, b.s0.grave), (1, 0, b.s1.lib), (1, 1, b.s1.hand), (1, 2, b.s1.field), (1, 3, b.s1.grave)]
def spotG (q : It → Bool) (b : Bd) (id : Int) : Option (Int × Int × Int) :=
  match spotL id (zonesL b) with
  | some s => some s
  | none => if 0 ≤ idxP q b.stack 0 then some ((b.stack.getD (idxP q b.stack 0).toNat zIt).player, 4, idxP q b.stack 0) else none
abbrev spotRow (s : Int × Int × Int) : List Value := [iV s.1, iV s.2.1, iV s.2.2]
def spotV (s : Option (Int × Int × Int)) : Int × Int × Int := s.getD (0, 0, 0)
theorem idxI_none : ∀ {l : List Int} {id i : Int}, 0 ≤ i → ¬ (0 ≤ idxI l id i) → id ∉ l
  | [], _, _, _, _ => by simp
  | a :: l, id, i, h, hn => by
    simp only [idxI] at hn
    by_cases he : id = a
    · subst he; simp at hn; omega
    · have hb : (id == a) = false := by simpa using he
      rw [if_neg (by rw [hb]; simp)] at hn
      simp only [List.mem_cons, not_or]
      exact ⟨he, idxI_none (by omega) hn⟩
theorem spotL_none {id : Int} : ∀ {l : List (Int × Int × List Int)}, spotL id l = none → ∀ x ∈ l, id ∉ x.2.2
  | [], _, _, h => by simp at h
  | a :: l, h, x, hx => by
    simp only [spotL] at h
    split at h
    · cases h
    · rename_i hn
      rcases List.mem_cons.1 hx with rfl | hx
      · exact idxI_none (by omega) hn
      · exact spotL_none h x hx
theorem spot_there {b : Bd} (h : validBd b = true) {k : Nat} {o : Ob} (hk : b.objs[k]? = some o) : ∃ s, spotG (isOn o.id) b o.id = some s := by
  obtain ⟨_, hm, _, _⟩ := obj_known (valid_parts h).1 hk
  unfold spotG
  cases e : spotL o.id (zonesL b) with
  | some s => exact ⟨s, rfl⟩
  | none =>
    have hn := spotL_none e
    simp only [zonesL, List.mem_cons, List.not_mem_nil, or_false, forall_eq_or_imp, forall_eq] at hn
    obtain ⟨n1, n2, n3, n4, n5, n6, n7, n8⟩ := hn
    simp only [pairsB, pairsS, List.map_append, List.mem_append, List.mem_map, Prod.mk.injEq] at hm
    have : ∃ x ∈ cardsOn b.stack, x.id = o.id := by
      rcases hm with (⟨a, ha, rfl, _⟩ | ⟨a, ha, rfl, _⟩ | ⟨a, ha, rfl, _⟩ | ⟨a, ha, rfl, _⟩) | (⟨a, ha, rfl, _⟩ | ⟨a, ha, rfl, _⟩ | ⟨a, ha, rfl, _⟩ | ⟨a, ha, rfl, _⟩) | hm
      · exact absurd ha n1
      · exact absurd ha n2
      · exact absurd ha n3
      · exact absurd ha n4
      · exact absurd ha n5
      · exact absurd ha n6
      · exact absurd ha n7
      · exact absurd ha n8
      · simp only [owned, List.mem_map, Prod.mk.injEq] at hm
        obtain ⟨x, hx, e, _⟩ := hm
        exact ⟨x, hx, e⟩
    obtain ⟨x, hx, e⟩ := this
    simp only [cardsOn, List.mem_filter] at hx
    have h0 : 0 ≤ idxP (isOn o.id) b.stack 0 := by
      have := idxP_ge (isOn o.id) b.stack 0 (by omega)
      have hany : b.stack.any (isOn o.id) = true := List.any_eq_true.2 ⟨x, hx.1, by simp only [isOn, hx.2, e, beq_self_eq_true, Bool.and_self]⟩
      rw [hany] at this
      exact of_decide_eq_true this
    exact ⟨_, by rw [if_pos h0]⟩
theorem box_read {H : Heap} {X : Own} {r : Nat} {T : TypeId} {x : Value} : Reads H ((r, .cells [x].toArray T (0, 0)) :: X) (.pointer (some ⟨r, 0, none⟩)) 1 [x] :=
  .inr ⟨⟨r, 0, none⟩, [x].toArray, T, rfl, rfl, by simp, rfl, rfl⟩
theorem c_Where_1 {H : Heap} {O : Own} {row : List Value} {x : It} (h : ItR H O row x) {r : Nat} {T : TypeId} {id : Int} (hb : (r, Obj.cells [iV id].toArray T (0, 0)) ∈ O) :
    RetO PP F_board_Where_1 ([.agg row.toArray] ++ (#[.pointer (some ⟨r, 0, none⟩)] : Array Value).toList) H O (.bool (isOn id x)) := by
  obtain ⟨s, rfl, hs⟩ := h
  refine run_board_Where_1 (vs := [iV x.player, iV x.id, iV x.card, iV x.trig, s, .pointer (some ⟨r, 0, none⟩)]) (by kernel_rfl) ⟨rfl, rfl, rfl, rfl, hs.one, rfl, trivial⟩ ?_
  simp only [T_board_Where_1]
  refine newbox_den fun r0 => chkN_den (pure_den _ (lss_eq _ _) ?_)
  repeat (first | refine chkN_den ?_ | refine chkV_den ?_)
  refine ⟨[iV id], rfl, ⟨rfl, trivial⟩, fun _ => .inr ⟨⟨r, 0, none⟩, [iV id].toArray, T, rfl, rfl, hb, rfl, rfl⟩, ?_⟩
  repeat (first | refine chkN_den ?_ | refine chkV_den ?_ | refine newbox_den fun _ => ?_ | refine pure_den _ (lss_eq _ _) ?_ | refine pure_den _ (gtr_eq _ _) ?_ | refine pure_den _ (leq_eq _ _) ?_ | refine pure_den _ (geq_eq _ _) ?_ | refine pure_den _ (eql_eq _ _) ?_ | refine pure_den _ (neq_eq _ _) ?_ | refine pure_den _ (pick_and _ _) ?_ | refine pure_den _ (pick_or _ _) ?_ | refine pure_den _ (not_eq' _) ?_ | refine pure_den _ (beql_eq _ _) ?_ | refine pure_den _ (bneq_eq _ _) ?_)
  exact ret_denO ⟨rfl, rfl⟩
/-- Where an object is, as the program says. -/
def whereP (b : Bd) (id : Int) : Int × Int × Int := if indexE b id != 0 then (0, 0, 0) else spotV (spotG (isOn id) b id)
theorem c_board_Where {H : Heap} {v : BV12} {b : Bd} (h : BdS H v b) {id : Int} (hid : i64 id) (O : Own) : RetO PP F_board_Where [.agg (boardC v b).toArray, iV id] H O (.tuple #[.agg (spotRow (whereP b id)).toArray, iV (indexE b id)]) := by
  refine run_board_Where (vs := boardC v b ++ [iV id]) (by kernel_rfl) (ones_app (boardC_ones (h.r [])) ⟨rfl, trivial⟩) ?_
  simp only [T_board_Where]
  refine newbox_den fun r0 => newbox_den fun r1 => newbox_den fun r2 => ?_
  repeat (first | refine chkN_den ?_ | refine chkV_den ?_)
  refine call_retO (c_index (h.r O) hid) rfl ⟨rfl, rfl, trivial⟩ fun H1 l1 => pure_den _ (neq_eq _ _) (br_den (fun hb => ?_) (fun hb => ?_))
  · repeat (first | refine chkN_den ?_ | refine chkV_den ?_)
    refine ret_denO ⟨?_, rfl⟩
    have e : whereP b id = (0, 0, 0) := by rw [whereP, if_pos hb]
    rw [e]; rfl
  replace h := h.le l1
  have ew : whereP b id = spotV (spotG (isOn id) b id) := by rw [whereP, if_neg (by rw [hb]; simp)]
  have ez : indexE b id = 0 := by simpa using hb
  obtain ⟨hval, k0, o0, e1, e2, _, _⟩ := indexE_ok hb
  rw [ew, ez]
  clear hb
  refine call_retO (c_lists r0 1 _ _) rfl ⟨rfl, rfl, rfl, rfl, trivial⟩ fun L0 m0 => ?_
  replace h := h.le m0
  repeat (first | refine chkN_den ?_ | refine chkV_den ?_)
  refine call_retO (c_Index_int (h.s0.lib.rsl O) id) rfl ⟨rfl, trivial⟩ fun K0 j0 => pure_den _ (geq_eq _ _) (br_den (fun hb => ?_) (fun n0 => ?_))
  · repeat (first | refine chkN_den ?_ | refine chkV_den ?_)
    refine ret_denO ⟨?_, rfl⟩
    have e := of_decide_eq_true hb
    have e : 0 ≤ idxI b.s0.lib id 0 := e
    rw [spotG, zonesL]
    simp only [spotL, e, if_true, if_false]
    rfl
  have n0 : ¬ (0 ≤ idxI b.s0.lib id 0) := of_decide_eq_false n0
  replace h := h.le j0
  repeat (first | refine chkN_den ?_ | refine chkV_den ?_)
  refine call_retO (c_Index_int (h.s0.hand.rsl O) id) rfl ⟨rfl, trivial⟩ fun K1 j1 => pure_den _ (geq_eq _ _) (br_den (fun hb => ?_) (fun n1 => ?_))
  · repeat (first | refine chkN_den ?_ | refine chkV_den ?_)
    refine ret_denO ⟨?_, rfl⟩
    have e := of_decide_eq_true hb
    have e : 0 ≤ idxI b.s0.hand id 0 := e
    rw [spotG, zonesL]
    simp only [spotL, n0, e, if_true, if_false]
    rfl
  have n1 : ¬ (0 ≤ idxI b.s0.hand id 0) := of_decide_eq_false n1
  replace h := h.le j1
  repeat (first | refine chkN_den ?_ | refine chkV_den ?_)
  refine call_retO (c_Index_int (h.s0.field.rsl O) id) rfl ⟨rfl, trivial⟩ fun K2 j2 => pure_den _ (geq_eq _ _) (br_den (fun hb => ?_) (fun n2 => ?_))
  · repeat (first | refine chkN_den ?_ | refine chkV_den ?_)
    refine ret_denO ⟨?_, rfl⟩
    have e := of_decide_eq_true hb
    have e : 0 ≤ idxI b.s0.field id 0 := e
    rw [spotG, zonesL]
    simp only [spotL, n0, n1, e, if_true, if_false]
    rfl
  have n2 : ¬ (0 ≤ idxI b.s0.field id 0) := of_decide_eq_false n2
  replace h := h.le j2
  repeat (first | refine chkN_den ?_ | refine chkV_den ?_)
  refine call_retO (c_Index_int (h.s0.grave.rsl O) id) rfl ⟨rfl, trivial⟩ fun K3 j3 => pure_den _ (geq_eq _ _) (br_den (fun hb => ?_) (fun n3 => ?_))
  · repeat (first | refine chkN_den ?_ | refine chkV_den ?_)
    refine ret_denO ⟨?_, rfl⟩
    have e := of_decide_eq_true hb
    have e : 0 ≤ idxI b.s0.grave id 0 := e
    rw [spotG, zonesL]
    simp only [spotL, n0, n1, n2, e, if_true, if_false]
    rfl
  have n3 : ¬ (0 ≤ idxI b.s0.grave id 0) := of_decide_eq_false n3
  replace h := h.le j3
  repeat (first | refine chkN_den ?_ | refine chkV_den ?_)
  refine call_retO (c_lists r0 15 _ _) rfl ⟨rfl, rfl, rfl, rfl, trivial⟩ fun L1 m1 => ?_
  replace h := h.le m1
  repeat (first | refine chkN_den ?_ | refine chkV_den ?_)
  refine call_retO (c_Index_int (h.s1.lib.rsl O) id) rfl ⟨rfl, trivial⟩ fun K4 j4 => pure_den _ (geq_eq _ _) (br_den (fun hb => ?_) (fun n4 => ?_))
  · repeat (first | refine chkN_den ?_ | refine chkV_den ?_)
    refine ret_denO ⟨?_, rfl⟩
    have e := of_decide_eq_true hb
    have e : 0 ≤ idxI b.s1.lib id 0 := e
    rw [spotG, zonesL]
    simp only [spotL, n0, n1, n2, n3, e, if_true, if_false]
    rfl
  have n4 : ¬ (0 ≤ idxI b.s1.lib id 0) := of_decide_eq_false n4
  replace h := h.le j4
  repeat (first | refine chkN_den ?_ | refine chkV_den ?_)
  refine call_retO (c_Index_int (h.s1.hand.rsl O) id) rfl ⟨rfl, trivial⟩ fun K5 j5 => pure_den _ (geq_eq _ _) (br_den (fun hb => ?_) (fun n5 => ?_))
  · repeat (first | refine chkN_den ?_ | refine chkV_den ?_)
    refine ret_denO ⟨?_, rfl⟩
    have e := of_decide_eq_true hb
    have e : 0 ≤ idxI b.s1.hand id 0 := e
    rw [spotG, zonesL]
    simp only [spotL, n0, n1, n2, n3, n4, e, if_true, if_false]
    rfl
  have n5 : ¬ (0 ≤ idxI b.s1.hand id 0) := of_decide_eq_false n5
  replace h := h.le j5
  repeat (first | refine chkN_den ?_ | refine chkV_den ?_)
  refine call_retO (c_Index_int (h.s1.field.rsl O) id) rfl ⟨rfl, trivial⟩ fun K6 j6 => pure_den _ (geq_eq _ _) (br_den (fun hb => ?_) (fun n6 => ?_))
  · repeat (first | refine chkN_den ?_ | refine chkV_den ?_)
    refine ret_denO ⟨?_, rfl⟩
    have e := of_decide_eq_true hb
    have e : 0 ≤ idxI b.s1.field id 0 := e
    rw [spotG, zonesL]
    simp only [spotL, n0, n1, n2, n3, n4, n5, e, if_true, if_false]
    rfl
  have n6 : ¬ (0 ≤ idxI b.s1.field id 0) := of_decide_eq_false n6
  replace h := h.le j6
  repeat (first | refine chkN_den ?_ | refine chkV_den ?_)
  refine call_retO (c_Index_int (h.s1.grave.rsl O) id) rfl ⟨rfl, trivial⟩ fun K7 j7 => pure_den _ (geq_eq _ _) (br_den (fun hb => ?_) (fun n7 => ?_))
  · repeat (first | refine chkN_den ?_ | refine chkV_den ?_)
    refine ret_denO ⟨?_, rfl⟩
    have e := of_decide_eq_true hb
    have e : 0 ≤ idxI b.s1.grave id 0 := e
    rw [spotG, zonesL]
    simp only [spotL, n0, n1, n2, n3, n4, n5, n6, e, if_true, if_false]
    rfl
  have n7 : ¬ (0 ≤ idxI b.s1.grave id 0) := of_decide_eq_false n7
  replace h := h.le j7
  repeat (first | refine chkN_den ?_ | refine chkV_den ?_)
  have hL : spotL id (zonesL b) = none := by
    rw [zonesL]
    simp only [spotL, n0, n1, n2, n3, n4, n5, n6, n7, if_false]
  have hG : spotG (isOn id) b id = if 0 ≤ idxP (isOn id) b.stack 0 then some ((b.stack.getD (idxP (isOn id) b.stack 0).toNat zIt).player, 4, idxP (isOn id) b.stack 0) else none := by
    rw [spotG, hL]
  obtain ⟨s, hs⟩ := spot_there hval e1
  rw [e2] at hs
  have h0 : 0 ≤ idxP (isOn id) b.stack 0 := by
    rw [hG] at hs
    split at hs
    · assumption
    · cases hs
  rw [if_pos h0] at hG
  rw [hG]
  rcases idxP_spec (isOn id) b.stack 0 (by omega) with ⟨e, _⟩ | ⟨k, x, e3, e4, e5⟩
  · omega
  have e5 : idxP (isOn id) b.stack 0 = (k : Int) := by omega
  refine call_own (own := [⟨r1, 3, [iV id]⟩]) (c_IndexFunc_Item (p := isOn id) (h.stack.r _) rfl (okFn_of okL_ok (by decide)) fun H' _ row x hx => c_Where_1 hx (r := r1) (T := 3) (by simp [BV.obj])) rfl ⟨rfl, trivial⟩ ⟨rfl, ⟨rfl, trivial⟩, trivial⟩ fun H9 l9 => ?_
  replace h := h.le l9
  repeat (first | refine chkN_den ?_ | refine chkV_den ?_)
  obtain ⟨rows, hr, hrl, hit⟩ := (h.stack.r O)
  have hklt : k < b.stack.length := (List.getElem?_eq_some_iff.1 e3).1
  have hrk : rows[k]? = some rows[k] := List.getElem?_eq_getElem (by omega)
  obtain ⟨sv, hrow, _⟩ := hit k rows[k] x hrk e3
  obtain ⟨a, h1, _, h3, _⟩ := hr.idx .i64 k rows[k] hrk
  have hr0 := h3 0 1 (by omega)
  rw [hrow, ptr0] at hr0
  rw [e5]
  refine pure_den _ h1 (chkP_den rfl (load_denR hr0 rfl ⟨rfl, trivial⟩ ?_))
  repeat (first | refine chkN_den ?_ | refine chkV_den ?_)
  refine ret_denO ⟨?_, rfl⟩
  simp only [spotV, Option.getD_some, Int.toNat_natCast, List.getD_eq_getElem?_getD, e3]
  rfl

/-- A list is searched. -/
theorem search_den {lab key : Nat} {v : Value} {l : List Int} {id : Int} {H : Heap} {O : Own} {Q : Value → Heap → Own → Prop} {eqs : List (List Value × List Value)} {found : List Value → Tree} {k : Tree} (h : RSl H O 1 v (ints l)) (he : Eqs eqs)
    (hf : ∀ H' (i : Nat), Heap.le H H' → idxI l id 0 = i → (found [iV i]).den PP Q H' O) (hk : ∀ H', Heap.le H H' → ¬ (0 ≤ idxI l id 0) → k.den PP Q H' O) :
    (Tree.loop lab key [(.int .i64 0)] fun C l1 =>
      .pure [] .len [v] fun v2 =>
      .pure [] (.bin .lss .int) [(g l1 0), v2] fun v3 =>
      .br v3 (
        .pure [] (.idx 1) [v, (g l1 0)] fun v4 =>
        .load [] v4 1 fun l5 =>
        .pure [] (.bin .eql .int) [(g l5 0), iV id] fun v6 =>
        .br v6 (found l1) (
          .pure [] (.bin .add .int) [(g l1 0), (.int .i64 1)] fun v7 =>
          .cont lab C [v7] eqs)) k).den PP Q H O := by
  have hl := h.len
  have hB := h.lenB
  rw [ints, List.length_map] at hl hB
  refine count_den l.length (fun i H' O' => O' = O ∧ Heap.le H H' ∧ idxI l id 0 = idxI (l.drop i) id i) ⟨rfl, Heap.le_refl H, by simp⟩ ?_
  rintro i H' O' hi - ⟨rfl, hle, hor⟩
  refine pure_den _ hl (pure_den _ (lss_eq _ _) (br_den (fun hb => ?_) (fun hb => ?_)))
  · have hlt : i < l.length := by simpa using hb
    obtain ⟨a, h1, h2, _, h3, h4⟩ := (h.le hle).idx .i64 i [iV l[i]] (by simp [ints, hlt])
    refine pure_den _ h1 (load_denR h2 h3 h4 (pure_den _ (eql_eq _ _) (br_den (fun hb => ?_) (fun hb => ?_))))
    · refine hf H' i hle ?_
      have hb : l[i] = id := by simpa using hb
      rw [hor, List.drop_eq_getElem_cons hlt, idxI, hb, if_pos (by simp)]
    · refine pure_den _ (add_one (by omega)) (count_cont he hlt ⟨rfl, hle, ?_⟩)
      have hb : ¬ l[i] = id := by simpa using hb
      rw [hor, List.drop_eq_getElem_cons hlt, idxI, if_neg (by simpa using fun e => hb e.symm)]; rfl
  · have hge : l.length ≤ i := by simpa using hb
    refine hk H' hle ?_
    rw [hor, List.drop_of_length_le hge]; simp [idxI]
def onR (id : Int) (x : It) : Bool := (x.trig == -1) && x.id == id
def whereE (s : Option (Int × Int × Int)) : Int := if s.isSome then 0 else 9
theorem r_Where {H : Heap} {O : Own} {v : BV12} {b : Bd} (h : BdR H O v b) (id : Int) : RetO PP F_zeitnotref15_Where [.agg (boardC v b).toArray, iV id] H O (.tuple #[.agg (spotRow (spotV (spotG (onR id) b id))).toArray, iV (whereE (spotG (onR id) b id))]) := by
  refine run_zeitnotref15_Where (vs := boardC v b ++ [iV id]) (by kernel_rfl) (ones_app (boardC_ones h) ⟨rfl, trivial⟩) ?_
  simp only [T_zeitnotref15_Where]
  obtain ⟨z1, z2, z3, z4⟩ := stR_ones h.s0
  obtain ⟨z5, z6, z7, z8⟩ := stR_ones h.s1
  refine newbox_den fun r0 => newbox_den fun r1 => ?_
  repeat (first | refine chkN_den ?_ | refine chkV_den ?_)
  refine call_retO (r_Zones b.s0 z1 z2 z3 z4 _ O) rfl ⟨z1, z2, z3, z4, trivial⟩ fun L0 m0 => ?_
  replace h := h.le m0
  refine search_den h.s0.lib (by simp [Eqs]) (fun H' i hle hi => ?_) (fun H' hle n0 => ?_)
  · repeat (first | refine chkN_den ?_ | refine chkV_den ?_)
    refine ret_denO ⟨?_, rfl⟩
    have e : 0 ≤ idxI b.s0.lib id 0 := by omega
    rw [spotG, zonesL]
    simp only [spotL, e, if_true, if_false]
    rw [hi]; rfl
  replace h := h.le hle
  refine search_den h.s0.hand (by simp [Eqs]) (fun H' i hle hi => ?_) (fun H' hle n1 => ?_)
  · repeat (first | refine chkN_den ?_ | refine chkV_den ?_)
    refine ret_denO ⟨?_, rfl⟩
    have e : 0 ≤ idxI b.s0.hand id 0 := by omega
    rw [spotG, zonesL]
    simp only [spotL, n0, e, if_true, if_false]
    rw [hi]; rfl
  replace h := h.le hle
  refine search_den h.s0.field (by simp [Eqs]) (fun H' i hle hi => ?_) (fun H' hle n2 => ?_)
  · repeat (first | refine chkN_den ?_ | refine chkV_den ?_)
    refine ret_denO ⟨?_, rfl⟩
    have e : 0 ≤ idxI b.s0.field id 0 := by omega
    rw [spotG, zonesL]
    simp only [spotL, n0, n1, e, if_true, if_false]
    rw [hi]; rfl
  replace h := h.le hle
  refine search_den h.s0.grave (by simp [Eqs]) (fun H' i hle hi => ?_) (fun H' hle n3 => ?_)
  · repeat (first | refine chkN_den ?_ | refine chkV_den ?_)
    refine ret_denO ⟨?_, rfl⟩
    have e : 0 ≤ idxI b.s0.grave id 0 := by omega
    rw [spotG, zonesL]
    simp only [spotL, n0, n1, n2, e, if_true, if_false]
    rw [hi]; rfl
  replace h := h.le hle
  repeat (first | refine chkN_den ?_ | refine chkV_den ?_)
  refine call_retO (r_Zones b.s1 z5 z6 z7 z8 _ O) rfl ⟨z5, z6, z7, z8, trivial⟩ fun L1 m1 => ?_
  replace h := h.le m1
  refine search_den h.s1.lib (by simp [Eqs]) (fun H' i hle hi => ?_) (fun H' hle n4 => ?_)
  · repeat (first | refine chkN_den ?_ | refine chkV_den ?_)
    refine ret_denO ⟨?_, rfl⟩
    have e : 0 ≤ idxI b.s1.lib id 0 := by omega
    rw [spotG, zonesL]
    simp only [spotL, n0, n1, n2, n3, e, if_true, if_false]
    rw [hi]; rfl
  replace h := h.le hle
  refine search_den h.s1.hand (by simp [Eqs]) (fun H' i hle hi => ?_) (fun H' hle n5 => ?_)
  · repeat (first | refine chkN_den ?_ | refine chkV_den ?_)
    refine ret_denO ⟨?_, rfl⟩
    have e : 0 ≤ idxI b.s1.hand id 0 := by omega
    rw [spotG, zonesL]
    simp only [spotL, n0, n1, n2, n3, n4, e, if_true, if_false]
    rw [hi]; rfl
  replace h := h.le hle
  refine search_den h.s1.field (by simp [Eqs]) (fun H' i hle hi => ?_) (fun H' hle n6 => ?_)
  · repeat (first | refine chkN_den ?_ | refine chkV_den ?_)
    refine ret_denO ⟨?_, rfl⟩
    have e : 0 ≤ idxI b.s1.field id 0 := by omega
    rw [spotG, zonesL]
    simp only [spotL, n0, n1, n2, n3, n4, n5, e, if_true, if_false]
    rw [hi]; rfl
  replace h := h.le hle
  refine search_den h.s1.grave (by simp [Eqs]) (fun H' i hle hi => ?_) (fun Hz hle n7 => ?_)
  · repeat (first | refine chkN_den ?_ | refine chkV_den ?_)
    refine ret_denO ⟨?_, rfl⟩
    have e : 0 ≤ idxI b.s1.grave id 0 := by omega
    rw [spotG, zonesL]
    simp only [spotL, n0, n1, n2, n3, n4, n5, n6, e, if_true, if_false]
    rw [hi]; rfl
  replace h := h.le hle
  have hG : spotG (onR id) b id = if 0 ≤ idxP (onR id) b.stack 0 then some ((b.stack.getD (idxP (onR id) b.stack 0).toNat zIt).player, 4, idxP (onR id) b.stack 0) else none := by
    rw [spotG, zonesL]
    simp only [spotL, n0, n1, n2, n3, n4, n5, n6, n7, if_false]
  have hsl := ItsR.len h.stack
  have stk := h.stack
  obtain ⟨rows, hrs, hrl, hit⟩ := stk
  have hB := hrs.lenB
  refine count_den b.stack.length (fun i H' O' => O' = O ∧ Heap.le Hz H' ∧ idxP (onR id) b.stack 0 = idxP (onR id) (b.stack.drop i) i) ⟨rfl, Heap.le_refl _, by simp⟩ ?_
  rintro i H' O' hi - ⟨rfl, hle, hor⟩
  refine chkN_den (pure_den _ hsl (pure_den _ (lss_eq _ _) (br_den (fun hb => ?_) (fun hb => ?_))))
  · have hlt : i < b.stack.length := by simpa using hb
    obtain ⟨a, h1, h2, _, h3, h4⟩ := (hrs.le hle).idx .i64 i rows[i] (by simp [hrl, hlt])
    obtain ⟨s, hrow, _⟩ := hit i rows[i] b.stack[i] (by simp [hrl, hlt]) (by simp [hlt])
    rw [hrow] at h2 h3 h4
    have hst : idxP (onR id) (b.stack.drop i) i = if onR id b.stack[i] then (i : Int) else idxP (onR id) (b.stack.drop (i + 1)) (i + 1) := by rw [List.drop_eq_getElem_cons hlt, idxP]
    refine chkN_den (pure_den _ h1 (load_denR h2 h3 h4 ?_))
    repeat (first | refine chkN_den ?_ | refine chkV_den ?_ | refine newbox_den fun _ => ?_ | refine pure_den _ (lss_eq _ _) ?_ | refine pure_den _ (gtr_eq _ _) ?_ | refine pure_den _ (leq_eq _ _) ?_ | refine pure_den _ (geq_eq _ _) ?_ | refine pure_den _ (eql_eq _ _) ?_ | refine pure_den _ (neq_eq _ _) ?_ | refine pure_den _ (pick_and _ _) ?_ | refine pure_den _ (pick_or _ _) ?_ | refine pure_den _ (not_eq' _) ?_ | refine pure_den _ (beql_eq _ _) ?_ | refine pure_den _ (bneq_eq _ _) ?_)
    refine br_den (fun hc => ?_) (fun hc => ?_)
    · have hc : onR id b.stack[i] = true := hc
      have e : idxP (onR id) b.stack 0 = (i : Int) := by rw [hor, hst, if_pos hc]
      repeat (first | refine chkN_den ?_ | refine chkV_den ?_)
      refine ret_denO ⟨?_, rfl⟩
      rw [hG, e, if_pos (by omega)]
      simp only [spotV, whereE, Option.getD_some, Int.toNat_natCast, List.getD_eq_getElem?_getD, List.getElem?_eq_getElem hlt]
      rfl
    · have hc : onR id b.stack[i] = false := hc
      refine pure_den _ (add_one (by omega)) (count_cont (by simp [Eqs]) hlt ⟨rfl, hle, ?_⟩)
      rw [hor, hst, if_neg (by rw [hc]; simp)]; rfl
  · have hge : b.stack.length ≤ i := by simpa using hb
    repeat (first | refine chkN_den ?_ | refine chkV_den ?_)
    refine ret_denO ⟨?_, rfl⟩
    rw [hG, hor, List.drop_of_length_le hge, if_neg (by simp [idxP])]
    rfl
end Go.Proofs.YtjaegdkkiefchaaGreatDoor
