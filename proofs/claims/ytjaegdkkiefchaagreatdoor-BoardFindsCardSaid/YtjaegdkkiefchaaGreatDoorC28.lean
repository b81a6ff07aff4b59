/- BoardFinds is true. -/
import Derived.Test.YtjaegdkkiefchaaGreatDoorC27
import Derived.Test.YtjaegdkkiefchaaGreatDoorC24
namespace Go.Proofs.YtjaegdkkiefchaaGreatDoor
open Go Go.Sx
set_option maxRecDepth 100000
set_option maxHeartbeats 1000000

theorem bdS_zero (H : Heap) : BdS H nilV zBd :=
  ⟨Sl.nil H 12, ⟨Sl.nil H 1, Sl.nil H 1, Sl.nil H 1, Sl.nil H 1⟩, ⟨Sl.nil H 1, Sl.nil H 1, Sl.nil H 1, Sl.nil H 1⟩, ⟨[], Sl.nil H 5, rfl, fun i r x h => by simp at h⟩, ⟨[], Sl.nil H 5, rfl, fun i r x h => by simp at h⟩, Sl.nil H 1, Sl.nil H 2⟩
theorem obEql (o p : Ob) : rawE PP (.eqv .eql Ty_api_Object false) [.agg o.row.toArray, .agg p.row.toArray] = some (.bool (o == p)) := by
  have e : rawE PP (.eqv .eql Ty_api_Object false) [.agg o.row.toArray, .agg p.row.toArray] = (chain [o.id == p.id, o.card == p.card, o.owner == p.owner, o.power == p.power, o.tough == p.tough, o.dmg == p.dmg, o.cnt == p.cnt, o.pp == p.pp, o.pt == p.pt, o.tap == p.tap, o.sick == p.sick, o.doom == p.doom]).map fun b => .bool b := by kernel_rfl
  rw [e, chain_all]
  simp only [Option.map_some, Option.some.injEq, Value.bool.injEq]
  cases o; cases p
  rw [Bool.eq_iff_iff]
  simp
theorem spotEql (s t : Int × Int × Int) : rawE PP (.eqv .eql Ty_api_Spot false) [.agg (spotRow s).toArray, .agg (spotRow t).toArray] = some (.bool (s == t)) := by
  have e : rawE PP (.eqv .eql Ty_api_Spot false) [.agg (spotRow s).toArray, .agg (spotRow t).toArray] = (chain [s.1 == t.1, s.2.1 == t.2.1, s.2.2 == t.2.2]).map fun b => .bool b := by kernel_rfl
  rw [e, chain_all]
  simp only [Option.map_some, Option.some.injEq, Value.bool.injEq]
  obtain ⟨a, b, c⟩ := s
  obtain ⟨d, e, f⟩ := t
  rw [Bool.eq_iff_iff]
  simp
def setR (b : Bd) (o : Ob) : Bd := if 0 ≤ idxO b o.id then setOb b (idxO b o.id).toNat o else b
theorem r_SetO {H : Heap} {v : BV12} {b : Bd} (h : BdS H v b) (hB : bdB b) (o : Ob) : Triple PP F_zeitnotref15_Set [.agg (boardC v b).toArray, .agg o.row.toArray] H [] fun r _ O' => ∃ w, r = .agg (boardC w (setR b o)).toArray ∧ OwnB tys w (setR b o) O' := by
  refine run_zeitnotref15_Set (vs := boardC v b ++ o.row) (by kernel_rfl) (ones_app (boardC_ones (h.r [])) (ob_ones o)) ?_
  simp only [T_zeitnotref15_Set]
  refine newbox_den fun r0 => newbox_den fun r1 => newbox_den fun r2 => ?_
  repeat (first | refine chkN_den ?_ | refine chkV_den ?_)
  refine call_new (r_Copy h hB) ?_
  rintro _ H3 O3 ⟨w, rfl, ho⟩ l3
  refine ⟨boardC w b, rfl, ownB_ones H3 ho, ?_⟩
  repeat (first | refine chkN_den ?_ | refine chkV_den ?_)
  refine call_retO (r_Index (ho.r (fun p hp => List.mem_append_left _ hp) H3) o.id) rfl ⟨rfl, trivial⟩ fun H4 l4 => pure_den _ (geq_eq _ _) (br_den (fun hb => ?_) (fun hb => ?_))
  · have hb := of_decide_eq_true hb
    obtain ⟨k, x, e1, e2, e3⟩ := idxO_some (b := b) (id := o.id) (by omega)
    have e : setR b o = setOb b k o := by simp [setR, e3]
    rw [e, e3]
    obtain ⟨a', q1, O1, q2, O2, q3, q4⟩ := OwnB.store_ob ho (X := []) (O' := O3 ++ []) (by simp) e1 o
    repeat (first | refine chkN_den ?_ | refine chkV_den ?_)
    refine pure_den _ q1 (chkP_den rfl ⟨_, q2, ?_⟩)
    repeat (first | refine chkN_den ?_ | refine chkV_den ?_)
    exact ret_denO ⟨w, rfl, OwnB.perm q4 (by simpa using q3)⟩
  · have hb := of_decide_eq_false hb
    have e : setR b o = b := by rw [setR, if_neg (by omega)]
    rw [e]
    repeat (first | refine chkN_den ?_ | refine chkV_den ?_)
    exact ret_denO ⟨w, rfl, OwnB.perm ho (by simp)⟩
theorem r_Set {H : Heap} {v : BV12} {b : Bd} (h : BdS H v b) (hB : bdB b) (o : Ob) : Triple PP F_zeitnotref15_Set [.agg (boardC v b).toArray, .agg o.row.toArray] H [] fun r H' O' => (∃ w, r = .agg (boardC w (setR b o)).toArray ∧ BdS H' w (setR b o)) ∧ O' = [] :=
  Triple.frozen (r_SetO h hB o)
theorem c_law_where {H : Heap} {v : BV12} {b : Bd} (h : BdS H v b) {id : Int} (hid : i64 id) (s : Int × Int × Int) (e : Int) (O : Own) :
    RetO PP F_zeitnotlaw15_where [.agg (boardC v b).toArray, iV id, .agg (spotRow s).toArray, iV e] H O (.bool ((whereP b id == s) && (indexE b id == e))) := by
  refine run_zeitnotlaw15_where (vs := boardC v b ++ ([iV id] ++ (spotRow s ++ [iV e]))) (by kernel_rfl) (ones_app (boardC_ones (h.r [])) ⟨rfl, rfl, rfl, rfl, rfl, trivial⟩) ?_
  simp only [T_zeitnotlaw15_where]
  refine newbox_den fun r0 => newbox_den fun r1 => ?_
  repeat (first | refine chkN_den ?_ | refine chkV_den ?_)
  refine call_retO (c_board_Where h hid O) rfl (vs := spotRow (whereP b id) ++ [iV (indexE b id)]) ⟨rfl, rfl, rfl, rfl, trivial⟩ fun H1 l1 => newbox_den fun r2 => ?_
  repeat (first | refine chkN_den ?_ | refine chkV_den ?_)
  refine raw_denG (spotEql (whereP b id) s) ?_
  repeat (first | refine chkN_den ?_ | refine chkV_den ?_ | refine newbox_den fun _ => ?_ | refine pure_den _ (lss_eq _ _) ?_ | refine pure_den _ (gtr_eq _ _) ?_ | refine pure_den _ (leq_eq _ _) ?_ | refine pure_den _ (geq_eq _ _) ?_ | refine pure_den _ (eql_eq _ _) ?_ | refine pure_den _ (neq_eq _ _) ?_ | refine pure_den _ (pick_and _ _) ?_ | refine pure_den _ (pick_or _ _) ?_ | refine pure_den _ (not_eq' _) ?_ | refine pure_den _ (beql_eq _ _) ?_ | refine pure_den _ (bneq_eq _ _) ?_)
  exact ret_denO ⟨rfl, rfl⟩
theorem c_gives {H : Heap} {wx vw vf vs : BV12} {x want src was : Bd} {O1 : Own} (hx : OwnB tys wx x O1) (hw : BdS H vw want) (hf : BdS H vf src) (hs : BdS H vs was) (e no : Int) :
    Triple PP F_zeitnotlaw15_gives [.agg (boardC wx x).toArray, iV e, .agg (boardC vw want).toArray, iV no, .agg (boardC vf src).toArray, .agg (boardC vs was).toArray] H O1 fun r _ _ => r = .bool (((x == want) && (e == no)) && (src == was)) := by
  refine run_zeitnotlaw15_gives (vs := boardC wx x ++ ([iV e] ++ (boardC vw want ++ ([iV no] ++ (boardC vf src ++ boardC vs was))))) (by kernel_rfl)
    (ones_app (ownB_ones H hx) (ones_app ⟨rfl, trivial⟩ (ones_app (boardC_ones (hw.r [])) (ones_app ⟨rfl, trivial⟩ (ones_app (boardC_ones (hf.r [])) (boardC_ones (hs.r []))))))) ?_
  simp only [T_zeitnotlaw15_gives]
  refine newbox_den fun r0 => newbox_den fun r1 => newbox_den fun r2 => newbox_den fun r3 => ?_
  repeat (first | refine chkN_den ?_ | refine chkV_den ?_)
  refine call_retO (r_Same (hx.r (fun p hp => hp) H) (hw.r O1)) rfl ⟨rfl, trivial⟩ fun H1 l1 => ?_
  repeat (first | refine chkN_den ?_ | refine chkV_den ?_ | refine newbox_den fun _ => ?_ | refine pure_den _ (lss_eq _ _) ?_ | refine pure_den _ (gtr_eq _ _) ?_ | refine pure_den _ (leq_eq _ _) ?_ | refine pure_den _ (geq_eq _ _) ?_ | refine pure_den _ (eql_eq _ _) ?_ | refine pure_den _ (neq_eq _ _) ?_ | refine pure_den _ (pick_and _ _) ?_ | refine pure_den _ (pick_or _ _) ?_ | refine pure_den _ (not_eq' _) ?_ | refine pure_den _ (beql_eq _ _) ?_ | refine pure_den _ (bneq_eq _ _) ?_)
  refine br_den (fun hb => ?_) (fun hb => ?_)
  · repeat (first | refine chkN_den ?_ | refine chkV_den ?_)
    refine call_retO (r_Same ((hf.le l1).r O1) ((hs.le l1).r O1)) rfl ⟨rfl, trivial⟩ fun H2 l2 => ?_
    repeat (first | refine chkN_den ?_ | refine chkV_den ?_)
    refine call_drop (O2 := []) (by simp) (c_stain hx) rfl trivial fun H3 O3 l3 => br_den (fun hc => ?_) (fun hc => ?_)
    · have l := Heap.le_trans l1 (Heap.le_trans l2 l3)
      repeat (first | refine chkN_den ?_ | refine chkV_den ?_)
      refine call_retO (r_Same ((hf.le l).r _) ((hs.le l).r _)) rfl ⟨rfl, trivial⟩ fun H4 l4 => ret_denO ?_
      rw [show ((x == want) && (e == no)) = true from hb, Bool.true_and]; rfl
    · refine ret_denO ?_
      rw [show (src == was) = false from hc, Bool.and_false]
  · repeat (first | refine chkN_den ?_ | refine chkV_den ?_)
    refine call_drop (O2 := []) (by simp) (c_stain hx) rfl trivial fun H3 O3 l3 => ret_denO ?_
    rw [show ((x == want) && (e == no)) = false from hb, Bool.false_and]

theorem idxP_congr {α : Type} {p q : α → Bool} : ∀ {l : List α} {i : Int}, (∀ x ∈ l, p x = q x) → idxP p l i = idxP q l i
  | [], _, _ => rfl
  | a :: l, i, h => by
    simp only [idxP, h a (by simp), idxP_congr (l := l) fun x hx => h x (by simp [hx])]
theorem onR_isOn {b : Bd} (h : validBd b = true) (id : Int) : ∀ x ∈ b.stack, onR id x = isOn id x := by
  intro x hx
  have hf := List.all_eq_true.1 (valid_parts h).2.2.2 x hx
  have ht := fine_trig hf
  simp only [onR, isOn]
  by_cases hn : x.trig < 0
  · simp [ht hn]
  · have : ¬ x.trig = -1 := by omega
    simp [hn, this]
theorem spot_eq {b : Bd} (h : validBd b = true) (id : Int) : spotG (onR id) b id = spotG (isOn id) b id := by
  simp only [spotG, idxP_congr (onR_isOn h id)]
theorem spotL_some {id : Int} : ∀ {l : List (Int × Int × List Int)} {s : Int × Int × Int}, spotL id l = some s → ∃ x ∈ l, id ∈ x.2.2
  | [], _, h => by simp [spotL] at h
  | a :: l, s, h => by
    simp only [spotL] at h
    split at h
    · rename_i hi
      have := idxI_ge a.2.2 id 0 (by omega)
      rw [decide_eq_true hi] at this
      exact ⟨a, by simp, by simpa using this.symm⟩
    · obtain ⟨x, hx, hm⟩ := spotL_some h
      exact ⟨x, by simp [hx], hm⟩
theorem spot_obj {b : Bd} (h : validBd b = true) {id : Int} {s : Int × Int × Int} (hs : spotG (isOn id) b id = some s) : ¬ idxO b id < 0 := by
  have hm : id ∈ (pairsB b).map (·.1) := by
    rw [ids_pairs]
    simp only [idsB, idsS, List.mem_append, List.mem_map]
    unfold spotG at hs
    split at hs
    · rename_i s' e
      obtain ⟨x, hx, hm⟩ := spotL_some e
      simp only [zonesL, List.mem_cons, List.not_mem_nil, or_false] at hx
      rcases hx with rfl | rfl | rfl | rfl | rfl | rfl | rfl | rfl <;> simp [hm]
    · split at hs
      · rename_i hi
        have := idxP_ge (isOn id) b.stack 0 (by omega)
        rw [decide_eq_true hi] at this
        obtain ⟨x, hx, hp⟩ := List.any_eq_true.1 this.symm
        simp only [isOn, Bool.and_eq_true, decide_eq_true_eq, beq_iff_eq] at hp
        right; right
        exact ⟨x, by simp [cardsOn, hx, hp.1], hp.2⟩
      · cases hs
  obtain ⟨o, ho, e, _⟩ := placed_ids (valid_parts h).1 id hm
  intro hn
  rcases idxP_spec (fun x : Ob => x.id == id) b.objs 0 (by omega) with ⟨_, h2⟩ | ⟨k, x, _, _, e3⟩
  · have := h2 o ho
    simp [e] at this
  · have : idxO b id = k := by rw [idxO, e3]; omega
    omega
theorem where_eq {b : Bd} (h : validBd b = true) (id : Int) : whereP b id = spotV (spotG (onR id) b id) ∧ indexE b id = whereE (spotG (onR id) b id) := by
  rw [spot_eq h]
  by_cases hi : idxO b id < 0
  · have he : indexE b id = 9 := by simp [indexE, h, hi]
    cases e : spotG (isOn id) b id with
    | none => exact ⟨by simp [whereP, he, spotV], by simp [he, whereE]⟩
    | some s => exact absurd hi (spot_obj h e)
  · have he : indexE b id = 0 := by simp [indexE, h, hi]
    obtain ⟨k, o, e1, e2, _⟩ := idxO_some hi
    obtain ⟨s, hs⟩ := spot_there h e1
    rw [e2] at hs
    exact ⟨by simp [whereP, he], by simp [he, whereE, hs]⟩
theorem finds_true {H : Heap} (hgl : GlobOk glob0 H) {v : BV12} {b : Bd} (h : BdS H v b) {id : Int} (hid : i64 id) {o : Ob} (hoid : i64 o.id) :
    Triple PP F_zeitnotlaw15_BoardFinds [.agg (boardC v b).toArray, iV id, .agg o.row.toArray] H [] fun r _ O' => r = .bool true ∧ O' = [] := by
  refine run_zeitnotlaw15_BoardFinds (vs := boardC v b ++ ([iV id] ++ o.row)) (by kernel_rfl) (ones_app (boardC_ones (h.r [])) (ones_app ⟨rfl, trivial⟩ (ob_ones o))) ?_
  simp only [T_zeitnotlaw15_BoardFinds]
  refine newbox_den fun r0 => newbox_den fun r1 => ?_
  repeat (first | refine chkN_den ?_ | refine chkV_den ?_)
  refine call_retO (c_small (h.r [])) rfl ⟨rfl, trivial⟩ fun H1 l1 => pure_den _ (not_eq' _) (br_den (fun _ => ?_) (fun hsm => ?_))
  · exact call_retO (c_known (hgl.le l1) []) rfl ⟨rfl, trivial⟩ fun H2 l2 => ret_denO ⟨rfl, rfl⟩
  have sa := notF hsm
  have hB := small_B sa
  replace hgl := hgl.le l1
  replace h := h.le l1
  repeat (first | refine chkN_den ?_ | refine chkV_den ?_)
  refine call_new (Triple.frozen (r_Copy h hB)) ?_
  rintro _ H2 _ ⟨⟨u, rfl, hwas⟩, rfl⟩ l2
  refine ⟨boardC u b, rfl, boardC_ones (hwas.r []), ?_⟩
  replace hgl := hgl.le l2
  replace h := h.le l2
  refine newbox_den fun r2 => ?_
  repeat (first | refine chkN_den ?_ | refine chkV_den ?_)
  refine call_retO (c_Find (h.r _) hid) rfl (vs := (findO b id).row ++ [iV (indexE b id)]) (ones_app (ob_ones _) ⟨rfl, trivial⟩) fun H3 l3 => newbox_den fun r3 => ?_
  replace h := h.le l3
  replace hwas := hwas.le l3
  replace hgl := hgl.le l3
  repeat (first | refine chkN_den ?_ | refine chkV_den ?_)
  refine call_new (c_Set h hB hoid) ?_
  rintro _ H4 O4 ⟨w, rfl, hs⟩ l4
  refine ⟨boardC w (setV b o).1 ++ [iV (setV b o).2], rfl, ones_app (ownB_ones H4 hs) ⟨rfl, trivial⟩, newbox_den fun r4 => ?_⟩
  replace h := h.le l4
  replace hwas := hwas.le l4
  replace hgl := hgl.le l4
  repeat (first | refine chkN_den ?_ | refine chkV_den ?_)
  refine call_retO (r_Valid (h.r _) (small_fit sa)) rfl ⟨rfl, trivial⟩ fun H5 l5 => pure_den _ (not_eq' _) (br_den (fun hv => ?_) (fun hv => ?_))
  · replace h := h.le l5
    replace hwas := hwas.le l5
    replace hgl := hgl.le l5
    rw [valid_eq] at hv
    have hv : validBd b = false := notT hv
    have e2 : ∀ n, indexE b n = 2 := fun n => by simp [indexE, hv]
    have ef : findO b id = zO := by simp [findO, e2]
    have hset : setV b o = (zBd, 2) := by
      unfold setV
      split
      · simp [e2]
      · rfl
    repeat (first | refine chkN_den ?_ | refine chkV_den ?_)
    refine raw_denG (obEql (findO b id) zO) ?_
    repeat (first | refine chkN_den ?_ | refine chkV_den ?_ | refine newbox_den fun _ => ?_ | refine pure_den _ (lss_eq _ _) ?_ | refine pure_den _ (gtr_eq _ _) ?_ | refine pure_den _ (leq_eq _ _) ?_ | refine pure_den _ (geq_eq _ _) ?_ | refine pure_den _ (eql_eq _ _) ?_ | refine pure_den _ (neq_eq _ _) ?_ | refine pure_den _ (pick_and _ _) ?_ | refine pure_den _ (pick_or _ _) ?_ | refine pure_den _ (not_eq' _) ?_ | refine pure_den _ (beql_eq _ _) ?_ | refine pure_den _ (bneq_eq _ _) ?_)
    refine br_den (fun _ => ?_) (fun hx => ?_)
    · repeat (first | refine chkN_den ?_ | refine chkV_den ?_)
      refine call_retO (c_law_where h hid (0, 0, 0) 2 _) rfl ⟨rfl, trivial⟩ fun L6 l6 => br_den (fun _ => ?_) (fun hx => ?_)
      · replace h := h.le l6
        replace hwas := hwas.le l6
        replace hgl := hgl.le l6
        repeat (first | refine chkN_den ?_ | refine chkV_den ?_)
        refine call_drop (O1 := O4) (O2 := []) (by simp) (c_gives hs (bdS_zero _) h hwas _ 2) rfl ⟨rfl, trivial⟩ fun Hg Og lg => br_den (fun _ => ?_) (fun hx => ?_)
        · exact call_retO (c_known (hgl.le lg) _) rfl ⟨rfl, trivial⟩ fun _ _ => ret_drop ⟨rfl, rfl⟩
        · exfalso; simp only [hset, beq_self_eq_true, Bool.and_self, Bool.true_eq_false, reduceCtorEq] at hx
      · exfalso
        have : whereP b id = (0, 0, 0) := by simp [whereP, e2]
        rw [this, e2] at hx
        simp at hx
    · exfalso
      rw [ef] at hx
      have hx : ((zO == zO) && (indexE b id == 2)) = false := hx
      rw [e2] at hx
      simp at hx
  replace h := h.le l5
  replace hwas := hwas.le l5
  replace hgl := hgl.le l5
  rw [valid_eq] at hv
  have hv : validBd b = true := notF hv
  obtain ⟨w1, w2⟩ := where_eq hv id
  repeat (first | refine chkN_den ?_ | refine chkV_den ?_)
  refine call_retO (r_Where (h.r _) id) rfl (vs := spotRow (spotV (spotG (onR id) b id)) ++ [iV (whereE (spotG (onR id) b id))]) ⟨rfl, rfl, rfl, rfl, trivial⟩ fun K6 j6 => newbox_den fun r5 => ?_
  replace h := h.le j6
  replace hwas := hwas.le j6
  replace hgl := hgl.le j6
  repeat (first | refine chkN_den ?_ | refine chkV_den ?_)
  refine call_retO (r_Index (h.r _) id) rfl ⟨rfl, trivial⟩ fun K7 j7 => ?_
  replace h := h.le j7
  replace hwas := hwas.le j7
  replace hgl := hgl.le j7
  repeat (first | refine chkN_den ?_ | refine chkV_den ?_)
  refine call_retO (r_Index (h.r _) o.id) rfl ⟨rfl, trivial⟩ fun K8 j8 => newbox_den fun r6 => pure_den _ (geq_eq _ _) (br_den (fun hi => ?_) (fun hi => ?_))
  · replace h := h.le j8
    replace hwas := hwas.le j8
    replace hgl := hgl.le j8
    have hi := of_decide_eq_true hi
    obtain ⟨i0, x0, f1, f2, f3⟩ := idxO_some (b := b) (id := id) (by omega)
    have hne0 : (indexE b id != 0) = false := by
      have : ¬ idxO b id < 0 := by omega
      simp [indexE, hv, this]
    have ef := findO_eq hne0 f1 f3
    obtain ⟨a0, g1, g2, _, g3, g4⟩ := (h.r (O4 ++ [])).objs.idx .i64 i0 (Ob.row x0) (by rw [List.getElem?_map, f1]; rfl)
    rw [f3]
    repeat (first | refine chkN_den ?_ | refine chkV_den ?_)
    refine pure_den _ g1 (load_denR g2 g3 g4 ?_)
    repeat (first | refine chkN_den ?_ | refine chkV_den ?_)
    refine raw_denG (obEq (findO b id) x0) ?_
    repeat (first | refine chkN_den ?_ | refine chkV_den ?_ | refine newbox_den fun _ => ?_ | refine pure_den _ (lss_eq _ _) ?_ | refine pure_den _ (gtr_eq _ _) ?_ | refine pure_den _ (leq_eq _ _) ?_ | refine pure_den _ (geq_eq _ _) ?_ | refine pure_den _ (eql_eq _ _) ?_ | refine pure_den _ (neq_eq _ _) ?_ | refine pure_den _ (pick_and _ _) ?_ | refine pure_den _ (pick_or _ _) ?_ | refine pure_den _ (not_eq' _) ?_ | refine pure_den _ (beql_eq _ _) ?_ | refine pure_den _ (bneq_eq _ _) ?_)
    refine br_den (fun hx => ?_) (fun _ => ?_)
    · exfalso
      have hx : ((!(findO b id == x0)) || (indexE b id != whereE (spotG (onR id) b id))) = true := hx
      rw [ef, w2] at hx
      simp at hx
    repeat (first | refine chkN_den ?_ | refine chkV_den ?_)
    refine call_retO (c_law_where h hid _ _ _) rfl ⟨rfl, trivial⟩ fun L6 l6 => pure_den _ (not_eq' _) (br_den (fun hx => ?_) (fun _ => ?_))
    · exfalso; rw [w1, w2] at hx; simp at hx
    replace h := h.le l6
    replace hwas := hwas.le l6
    replace hgl := hgl.le l6
    repeat (first | refine chkN_den ?_ | refine chkV_den ?_)
    refine call_retO (r_object_Valid o _ _) rfl ⟨rfl, trivial⟩ fun L7 l7 => pure_den _ (not_eq' _) (br_den (fun hx => ?_) (fun hx => ?_))
    · replace h := h.le l7
      replace hwas := hwas.le l7
      replace hgl := hgl.le l7
      have hset : setV b o = (zBd, 2) := by simp [setV, notT hx]
      repeat (first | refine chkN_den ?_ | refine chkV_den ?_)
      refine call_drop (O1 := O4) (O2 := []) (by simp) (c_gives hs (bdS_zero _) h hwas _ 2) rfl ⟨rfl, trivial⟩ fun Hg Og lg => br_den (fun _ => ?_) (fun hx => ?_)
      · exact call_retO (c_known (hgl.le lg) _) rfl ⟨rfl, trivial⟩ fun _ _ => ret_drop ⟨rfl, rfl⟩
      · exfalso; simp only [hset, beq_self_eq_true, Bool.and_self, Bool.true_eq_false, reduceCtorEq] at hx
    have hvo := notF hx
    replace h := h.le l7
    replace hwas := hwas.le l7
    replace hgl := hgl.le l7
    refine pure_den _ (lss_eq _ _) (br_den (fun hk => ?_) (fun hk => ?_))
    · have hset : setV b o = (zBd, 9) := by
        have hk := of_decide_eq_true hk
        simp [setV, hvo, indexE, hv, hk]
      repeat (first | refine chkN_den ?_ | refine chkV_den ?_)
      refine call_drop (O1 := O4) (O2 := []) (by simp) (c_gives hs (bdS_zero _) h hwas _ 9) rfl ⟨rfl, trivial⟩ fun Hg Og lg => br_den (fun _ => ?_) (fun hx => ?_)
      · exact call_retO (c_known (hgl.le lg) _) rfl ⟨rfl, trivial⟩ fun _ _ => ret_drop ⟨rfl, rfl⟩
      · exfalso; simp only [hset, beq_self_eq_true, Bool.and_self, Bool.true_eq_false, reduceCtorEq] at hx
    have hk := of_decide_eq_false hk
    obtain ⟨k, x, e1, e2, e3⟩ := idxO_some hk
    have hne : (indexE b o.id != 0) = false := by simp [indexE, hv, hk]
    have hfo := findO_eq hne e1 e3
    obtain ⟨a, h1, _, h3, _⟩ := (h.r []).objs.idx .i64 k (Ob.row x) (by rw [List.getElem?_map, e1]; rfl)
    rw [e3]
    repeat (first | refine chkN_den ?_ | refine chkV_den ?_)
    refine pure_den _ h1 (chkP_den rfl (load_denR (vs := [iV x.card]) ((h3 1 1 (by omega)).imp (fun h => h) fun ⟨_, _, _, _, _, z, _⟩ => by cases z) rfl ⟨rfl, trivial⟩ ?_))
    repeat (first | refine chkN_den ?_ | refine chkV_den ?_)
    refine pure_den _ (neq_eq _ _) ?_
    repeat (first | refine chkN_den ?_ | refine chkV_den ?_)
    refine ⟨.pointer (some a), fun _ => h1, .inr rfl, fun _ => rfl, ?_⟩
    repeat (first | refine chkN_den ?_ | refine chkV_den ?_)
    refine ⟨[iV x.owner], rfl, ⟨rfl, trivial⟩, fun _ => (h3 2 1 (by omega)).imp (fun h => h) (fun ⟨_, _, _, _, _, z, _⟩ => by cases z), ?_⟩
    repeat (first | refine chkN_den ?_ | refine chkV_den ?_ | refine newbox_den fun _ => ?_ | refine pure_den _ (lss_eq _ _) ?_ | refine pure_den _ (gtr_eq _ _) ?_ | refine pure_den _ (leq_eq _ _) ?_ | refine pure_den _ (geq_eq _ _) ?_ | refine pure_den _ (eql_eq _ _) ?_ | refine pure_den _ (neq_eq _ _) ?_ | refine pure_den _ (pick_and _ _) ?_ | refine pure_den _ (pick_or _ _) ?_ | refine pure_den _ (not_eq' _) ?_ | refine pure_den _ (beql_eq _ _) ?_ | refine pure_den _ (bneq_eq _ _) ?_)
    refine br_den (fun hc => ?_) (fun hc => ?_)
    · have hset : setV b o = (zBd, 8) := by simp only [setV, hvo, if_true]; rw [if_neg (by rw [hne]; simp), hfo, if_pos hc]
      repeat (first | refine chkN_den ?_ | refine chkV_den ?_)
      refine call_drop (O1 := O4) (O2 := []) (by simp) (c_gives hs (bdS_zero _) h hwas _ 8) rfl ⟨rfl, trivial⟩ fun Hg Og lg => br_den (fun _ => ?_) (fun hx => ?_)
      · exact call_retO (c_known (hgl.le lg) _) rfl ⟨rfl, trivial⟩ fun _ _ => ret_drop ⟨rfl, rfl⟩
      · exfalso; simp only [hset, beq_self_eq_true, Bool.and_self, Bool.true_eq_false, reduceCtorEq] at hx
    have hset : setV b o = (setOb b k o, 0) := by simp only [setV, hvo, if_true]; rw [if_neg (by rw [hne]; simp), hfo, if_neg (by rw [show (x.card != o.card || x.owner != o.owner) = false from hc]; simp), e3]; rfl
    have hsr : setR b o = setOb b k o := by simp [setR, e3]
    repeat (first | refine chkN_den ?_ | refine chkV_den ?_)
    refine call_new (r_Set h hB o) ?_
    rintro _ H8 _ ⟨⟨w', rfl, hw'⟩, rfl⟩ l8
    refine ⟨boardC w' _, rfl, boardC_ones (hw'.r []), ?_⟩
    replace h := h.le l8
    replace hwas := hwas.le l8
    replace hgl := hgl.le l8
    repeat (first | refine chkN_den ?_ | refine chkV_den ?_)
    refine call_drop (O1 := O4) (O2 := []) (by simp) (c_gives hs hw' h hwas _ 0) rfl ⟨rfl, trivial⟩ fun Hg Og lg => br_den (fun _ => ?_) (fun hx => ?_)
    · exact call_retO (c_known (hgl.le lg) _) rfl ⟨rfl, trivial⟩ fun _ _ => ret_drop ⟨rfl, rfl⟩
    · exfalso; simp only [hset, hsr, beq_self_eq_true, Bool.and_self, Bool.true_eq_false, reduceCtorEq] at hx
  · replace h := h.le j8
    replace hwas := hwas.le j8
    replace hgl := hgl.le j8
    have hi := of_decide_eq_false hi
    have ef : findO b id = zO := by
      have : idxO b id < 0 := by omega
      simp [findO, indexE, hv, this]
    repeat (first | refine chkN_den ?_ | refine chkV_den ?_)
    refine raw_denG (obEq (findO b id) zO) ?_
    repeat (first | refine chkN_den ?_ | refine chkV_den ?_ | refine newbox_den fun _ => ?_ | refine pure_den _ (lss_eq _ _) ?_ | refine pure_den _ (gtr_eq _ _) ?_ | refine pure_den _ (leq_eq _ _) ?_ | refine pure_den _ (geq_eq _ _) ?_ | refine pure_den _ (eql_eq _ _) ?_ | refine pure_den _ (neq_eq _ _) ?_ | refine pure_den _ (pick_and _ _) ?_ | refine pure_den _ (pick_or _ _) ?_ | refine pure_den _ (not_eq' _) ?_ | refine pure_den _ (beql_eq _ _) ?_ | refine pure_den _ (bneq_eq _ _) ?_)
    refine br_den (fun hx => ?_) (fun _ => ?_)
    · exfalso
      have hx : ((!(findO b id == zO)) || (indexE b id != whereE (spotG (onR id) b id))) = true := hx
      rw [ef, w2] at hx
      simp at hx
    repeat (first | refine chkN_den ?_ | refine chkV_den ?_)
    refine call_retO (c_law_where h hid _ _ _) rfl ⟨rfl, trivial⟩ fun L6 l6 => pure_den _ (not_eq' _) (br_den (fun hx => ?_) (fun _ => ?_))
    · exfalso; rw [w1, w2] at hx; simp at hx
    replace h := h.le l6
    replace hwas := hwas.le l6
    replace hgl := hgl.le l6
    repeat (first | refine chkN_den ?_ | refine chkV_den ?_)
    refine call_retO (r_object_Valid o _ _) rfl ⟨rfl, trivial⟩ fun L7 l7 => pure_den _ (not_eq' _) (br_den (fun hx => ?_) (fun hx => ?_))
    · replace h := h.le l7
      replace hwas := hwas.le l7
      replace hgl := hgl.le l7
      have hset : setV b o = (zBd, 2) := by simp [setV, notT hx]
      repeat (first | refine chkN_den ?_ | refine chkV_den ?_)
      refine call_drop (O1 := O4) (O2 := []) (by simp) (c_gives hs (bdS_zero _) h hwas _ 2) rfl ⟨rfl, trivial⟩ fun Hg Og lg => br_den (fun _ => ?_) (fun hx => ?_)
      · exact call_retO (c_known (hgl.le lg) _) rfl ⟨rfl, trivial⟩ fun _ _ => ret_drop ⟨rfl, rfl⟩
      · exfalso; simp only [hset, beq_self_eq_true, Bool.and_self, Bool.true_eq_false, reduceCtorEq] at hx
    have hvo := notF hx
    replace h := h.le l7
    replace hwas := hwas.le l7
    replace hgl := hgl.le l7
    refine pure_den _ (lss_eq _ _) (br_den (fun hk => ?_) (fun hk => ?_))
    · have hset : setV b o = (zBd, 9) := by
        have hk := of_decide_eq_true hk
        simp [setV, hvo, indexE, hv, hk]
      repeat (first | refine chkN_den ?_ | refine chkV_den ?_)
      refine call_drop (O1 := O4) (O2 := []) (by simp) (c_gives hs (bdS_zero _) h hwas _ 9) rfl ⟨rfl, trivial⟩ fun Hg Og lg => br_den (fun _ => ?_) (fun hx => ?_)
      · exact call_retO (c_known (hgl.le lg) _) rfl ⟨rfl, trivial⟩ fun _ _ => ret_drop ⟨rfl, rfl⟩
      · exfalso; simp only [hset, beq_self_eq_true, Bool.and_self, Bool.true_eq_false, reduceCtorEq] at hx
    have hk := of_decide_eq_false hk
    obtain ⟨k, x, e1, e2, e3⟩ := idxO_some hk
    have hne : (indexE b o.id != 0) = false := by simp [indexE, hv, hk]
    have hfo := findO_eq hne e1 e3
    obtain ⟨a, h1, _, h3, _⟩ := (h.r []).objs.idx .i64 k (Ob.row x) (by rw [List.getElem?_map, e1]; rfl)
    rw [e3]
    repeat (first | refine chkN_den ?_ | refine chkV_den ?_)
    refine pure_den _ h1 (chkP_den rfl (load_denR (vs := [iV x.card]) ((h3 1 1 (by omega)).imp (fun h => h) fun ⟨_, _, _, _, _, z, _⟩ => by cases z) rfl ⟨rfl, trivial⟩ ?_))
    repeat (first | refine chkN_den ?_ | refine chkV_den ?_)
    refine pure_den _ (neq_eq _ _) ?_
    repeat (first | refine chkN_den ?_ | refine chkV_den ?_)
    refine ⟨.pointer (some a), fun _ => h1, .inr rfl, fun _ => rfl, ?_⟩
    repeat (first | refine chkN_den ?_ | refine chkV_den ?_)
    refine ⟨[iV x.owner], rfl, ⟨rfl, trivial⟩, fun _ => (h3 2 1 (by omega)).imp (fun h => h) (fun ⟨_, _, _, _, _, z, _⟩ => by cases z), ?_⟩
    repeat (first | refine chkN_den ?_ | refine chkV_den ?_ | refine newbox_den fun _ => ?_ | refine pure_den _ (lss_eq _ _) ?_ | refine pure_den _ (gtr_eq _ _) ?_ | refine pure_den _ (leq_eq _ _) ?_ | refine pure_den _ (geq_eq _ _) ?_ | refine pure_den _ (eql_eq _ _) ?_ | refine pure_den _ (neq_eq _ _) ?_ | refine pure_den _ (pick_and _ _) ?_ | refine pure_den _ (pick_or _ _) ?_ | refine pure_den _ (not_eq' _) ?_ | refine pure_den _ (beql_eq _ _) ?_ | refine pure_den _ (bneq_eq _ _) ?_)
    refine br_den (fun hc => ?_) (fun hc => ?_)
    · have hset : setV b o = (zBd, 8) := by simp only [setV, hvo, if_true]; rw [if_neg (by rw [hne]; simp), hfo, if_pos hc]
      repeat (first | refine chkN_den ?_ | refine chkV_den ?_)
      refine call_drop (O1 := O4) (O2 := []) (by simp) (c_gives hs (bdS_zero _) h hwas _ 8) rfl ⟨rfl, trivial⟩ fun Hg Og lg => br_den (fun _ => ?_) (fun hx => ?_)
      · exact call_retO (c_known (hgl.le lg) _) rfl ⟨rfl, trivial⟩ fun _ _ => ret_drop ⟨rfl, rfl⟩
      · exfalso; simp only [hset, beq_self_eq_true, Bool.and_self, Bool.true_eq_false, reduceCtorEq] at hx
    have hset : setV b o = (setOb b k o, 0) := by simp only [setV, hvo, if_true]; rw [if_neg (by rw [hne]; simp), hfo, if_neg (by rw [show (x.card != o.card || x.owner != o.owner) = false from hc]; simp), e3]; rfl
    have hsr : setR b o = setOb b k o := by simp [setR, e3]
    repeat (first | refine chkN_den ?_ | refine chkV_den ?_)
    refine call_new (r_Set h hB o) ?_
    rintro _ H8 _ ⟨⟨w', rfl, hw'⟩, rfl⟩ l8
    refine ⟨boardC w' _, rfl, boardC_ones (hw'.r []), ?_⟩
    replace h := h.le l8
    replace hwas := hwas.le l8
    replace hgl := hgl.le l8
    repeat (first | refine chkN_den ?_ | refine chkV_den ?_)
    refine call_drop (O1 := O4) (O2 := []) (by simp) (c_gives hs hw' h hwas _ 0) rfl ⟨rfl, trivial⟩ fun Hg Og lg => br_den (fun _ => ?_) (fun hx => ?_)
    · exact call_retO (c_known (hgl.le lg) _) rfl ⟨rfl, trivial⟩ fun _ _ => ret_drop ⟨rfl, rfl⟩
    · exfalso; simp only [hset, hsr, beq_self_eq_true, Bool.and_self, Bool.true_eq_false, reduceCtorEq] at hx
end Go.Proofs.YtjaegdkkiefchaaGreatDoor
