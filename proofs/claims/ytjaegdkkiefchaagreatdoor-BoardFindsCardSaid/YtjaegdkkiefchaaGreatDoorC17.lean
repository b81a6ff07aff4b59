/- Equal boards: what the program says. -/
import Derived.Test.YtjaegdkkiefchaaGreatDoorC16
namespace Go.Proofs.YtjaegdkkiefchaaGreatDoor
open Go Go.Sx
set_option maxRecDepth 100000
set_option maxHeartbeats 1000000

theorem c_Equal_Ob {H : Heap} {O : Own} {v v' : Value} {l l' : List Ob} (h : RSl H O 12 v (l.map Ob.row)) (h' : RSl H O 12 v' (l'.map Ob.row)) : RetO PP F_slices_Equal_api_Object_api_Object [v, v'] H O (.bool (l == l')) := by
  refine run_slices_Equal_api_Object_api_Object (vs := [v, v']) (by kernel_rfl) ⟨h.one, h'.one, trivial⟩ ?_
  simp only [T_slices_Equal_api_Object_api_Object]
  have hl := h.len
  have hl' := h'.len
  rw [List.length_map] at hl hl'
  refine pure_den _ hl (pure_den _ hl' (pure_den _ (neq_eq _ _) (br_den (fun hb => ret_denO ⟨?_, rfl⟩) (fun hb => ?_))))
  · have : l ≠ l' := by intro e; subst e; simp at hb
    exact neB this
  · have hlen : l.length = l'.length := by simp at hb; omega
    refine pure_den _ hl ?_
    refine count_den l.length (fun i H' O' => O' = O ∧ Heap.le H H' ∧ l.take i = l'.take i) ⟨rfl, Heap.le_refl H, by simp⟩ ?_
    rintro i H' O' hi - ⟨rfl, hle, hor⟩
    refine pure_den _ (lss_eq _ _) (br_den (fun hb => ?_) (fun hb => ?_))
    · have hlt : i < l.length := by simpa using hb
      have hlt' : i < l'.length := by omega
      obtain ⟨a, h1, h2, _, h3, h4⟩ := (h.le hle).idx .i64 i (Ob.row l[i]) (by simp [hlt])
      obtain ⟨b, k1, k2, _, k3, k4⟩ := (h'.le hle).idx .i64 i (Ob.row l'[i]) (by simp [hlt'])
      refine pure_den _ h1 (load_denR h2 h3 h4 (pure_den _ k1 (load_denR k2 k3 k4 (raw_denG (obEq l[i] l'[i]) (br_den (fun hb => ret_denO ⟨?_, rfl⟩) (fun hb => ?_))))))
      · have hne : l[i] ≠ l'[i] := by simpa using hb
        exact neB (by rintro rfl; exact hne rfl)
      · have he : l[i] = l'[i] := by simpa using hb
        refine pure_den _ (add_one (by have := h.lenB; simp at this; omega)) (count_cont (by simp [Eqs]) hlt ⟨rfl, hle, ?_⟩)
        rw [List.take_add_one, List.take_add_one, hor, List.getElem?_eq_getElem hlt, List.getElem?_eq_getElem hlt', he]
    · have hge : l.length ≤ i := by simpa using hb
      refine ret_denO ⟨?_, rfl⟩
      rw [List.take_of_length_le hge, List.take_of_length_le (by omega)] at hor
      simp [hor]
theorem c_Equal_Tg {H : Heap} {O : Own} {v v' : Value} {l l' : List Tg} (h : RSl H O 2 v (l.map Tg.row)) (h' : RSl H O 2 v' (l'.map Tg.row)) : RetO PP F_slices_Equal_api_Target_api_Target [v, v'] H O (.bool (l == l')) := by
  refine run_slices_Equal_api_Target_api_Target (vs := [v, v']) (by kernel_rfl) ⟨h.one, h'.one, trivial⟩ ?_
  simp only [T_slices_Equal_api_Target_api_Target]
  have hl := h.len
  have hl' := h'.len
  rw [List.length_map] at hl hl'
  refine pure_den _ hl (pure_den _ hl' (pure_den _ (neq_eq _ _) (br_den (fun hb => ret_denO ⟨?_, rfl⟩) (fun hb => ?_))))
  · have : l ≠ l' := by intro e; subst e; simp at hb
    exact neB this
  · have hlen : l.length = l'.length := by simp at hb; omega
    refine pure_den _ hl ?_
    refine count_den l.length (fun i H' O' => O' = O ∧ Heap.le H H' ∧ l.take i = l'.take i) ⟨rfl, Heap.le_refl H, by simp⟩ ?_
    rintro i H' O' hi - ⟨rfl, hle, hor⟩
    refine pure_den _ (lss_eq _ _) (br_den (fun hb => ?_) (fun hb => ?_))
    · have hlt : i < l.length := by simpa using hb
      have hlt' : i < l'.length := by omega
      obtain ⟨a, h1, h2, _, h3, h4⟩ := (h.le hle).idx .i64 i (Tg.row l[i]) (by simp [hlt])
      obtain ⟨b, k1, k2, _, k3, k4⟩ := (h'.le hle).idx .i64 i (Tg.row l'[i]) (by simp [hlt'])
      refine pure_den _ h1 (load_denR h2 h3 h4 (pure_den _ k1 (load_denR k2 k3 k4 (raw_denG (tgEq l[i] l'[i]) (br_den (fun hb => ret_denO ⟨?_, rfl⟩) (fun hb => ?_))))))
      · have hne : l[i] ≠ l'[i] := by simpa using hb
        exact neB (by rintro rfl; exact hne rfl)
      · have he : l[i] = l'[i] := by simpa using hb
        refine pure_den _ (add_one (by have := h.lenB; simp at this; omega)) (count_cont (by simp [Eqs]) hlt ⟨rfl, hle, ?_⟩)
        rw [List.take_add_one, List.take_add_one, hor, List.getElem?_eq_getElem hlt, List.getElem?_eq_getElem hlt', he]
    · have hge : l.length ≤ i := by simpa using hb
      refine ret_denO ⟨?_, rfl⟩
      rw [List.take_of_length_le hge, List.take_of_length_le (by omega)] at hor
      simp [hor]
theorem c_Equal_Bl {H : Heap} {O : Own} {v v' : Value} {l l' : List Bl} (h : RSl H O 2 v (l.map Bl.row)) (h' : RSl H O 2 v' (l'.map Bl.row)) : RetO PP F_slices_Equal_api_Block_api_Block [v, v'] H O (.bool (l == l')) := by
  refine run_slices_Equal_api_Block_api_Block (vs := [v, v']) (by kernel_rfl) ⟨h.one, h'.one, trivial⟩ ?_
  simp only [T_slices_Equal_api_Block_api_Block]
  have hl := h.len
  have hl' := h'.len
  rw [List.length_map] at hl hl'
  refine pure_den _ hl (pure_den _ hl' (pure_den _ (neq_eq _ _) (br_den (fun hb => ret_denO ⟨?_, rfl⟩) (fun hb => ?_))))
  · have : l ≠ l' := by intro e; subst e; simp at hb
    exact neB this
  · have hlen : l.length = l'.length := by simp at hb; omega
    refine pure_den _ hl ?_
    refine count_den l.length (fun i H' O' => O' = O ∧ Heap.le H H' ∧ l.take i = l'.take i) ⟨rfl, Heap.le_refl H, by simp⟩ ?_
    rintro i H' O' hi - ⟨rfl, hle, hor⟩
    refine pure_den _ (lss_eq _ _) (br_den (fun hb => ?_) (fun hb => ?_))
    · have hlt : i < l.length := by simpa using hb
      have hlt' : i < l'.length := by omega
      obtain ⟨a, h1, h2, _, h3, h4⟩ := (h.le hle).idx .i64 i (Bl.row l[i]) (by simp [hlt])
      obtain ⟨b, k1, k2, _, k3, k4⟩ := (h'.le hle).idx .i64 i (Bl.row l'[i]) (by simp [hlt'])
      refine pure_den _ h1 (load_denR h2 h3 h4 (pure_den _ k1 (load_denR k2 k3 k4 (raw_denG (blEq l[i] l'[i]) (br_den (fun hb => ret_denO ⟨?_, rfl⟩) (fun hb => ?_))))))
      · have hne : l[i] ≠ l'[i] := by simpa using hb
        exact neB (by rintro rfl; exact hne rfl)
      · have he : l[i] = l'[i] := by simpa using hb
        refine pure_den _ (add_one (by have := h.lenB; simp at this; omega)) (count_cont (by simp [Eqs]) hlt ⟨rfl, hle, ?_⟩)
        rw [List.take_add_one, List.take_add_one, hor, List.getElem?_eq_getElem hlt, List.getElem?_eq_getElem hlt', he]
    · have hge : l.length ≤ i := by simpa using hb
      refine ret_denO ⟨?_, rfl⟩
      rw [List.take_of_length_le hge, List.take_of_length_le (by omega)] at hor
      simp [hor]
theorem c_same {H : Heap} {O : Own} {row row' : List Value} {x y : It} (h : ItR H O row x) (h' : ItR H O row' y) : RetO PP F_board_same [.agg row.toArray, .agg row'.toArray] H O (.bool (x == y)) := by
  obtain ⟨s, rfl, hs⟩ := h
  obtain ⟨s', rfl, hs'⟩ := h'
  refine run_board_same (vs := [iV x.player, iV x.id, iV x.card, iV x.trig, s, iV y.player, iV y.id, iV y.card, iV y.trig, s']) (by kernel_rfl) ⟨rfl, rfl, rfl, rfl, hs.one, rfl, rfl, rfl, rfl, hs'.one, trivial⟩ ?_
  simp only [T_board_same]
  have e : (x == y) = ((((x.player == y.player && x.id == y.id) && x.card == y.card) && x.trig == y.trig) && x.tgs == y.tgs) := by
    rw [Bool.eq_iff_iff]
    cases x; cases y
    simp [and_assoc]
  repeat (first | refine chkN_den ?_ | refine chkV_den ?_ | refine newbox_den fun _ => ?_ | refine pure_den _ (lss_eq _ _) ?_ | refine pure_den _ (gtr_eq _ _) ?_ | refine pure_den _ (leq_eq _ _) ?_ | refine pure_den _ (geq_eq _ _) ?_ | refine pure_den _ (eql_eq _ _) ?_ | refine pure_den _ (neq_eq _ _) ?_ | refine pure_den _ (pick_and _ _) ?_ | refine pure_den _ (pick_or _ _) ?_ | refine pure_den _ (not_eq' _) ?_ | refine pure_den _ (beql_eq _ _) ?_ | refine pure_den _ (bneq_eq _ _) ?_)
  refine br_den (fun hb => ?_) (fun hb => ret_denO ⟨?_, rfl⟩)
  · refine chkN_den (chkN_den (call_retO (c_Equal_Tg hs hs') rfl ⟨rfl, trivial⟩ fun H1 _ => ret_denO ⟨?_, rfl⟩))
    rw [e, hb]; rfl
  · rw [e, hb]; rfl
theorem c_EqualFunc_same {H : Heap} {O : Own} {v v' : Value} {l l' : List It} (h : ItsR H O v l) (h' : ItsR H O v' l') : RetO PP F_slices_EqualFunc_api_Item_api_Item_api_Item_api_Item [v, v', .func (.func F_board_same) #[] #[]] H O (.bool (l == l')) := by
  have ho := ItsR.one h
  have ho' := ItsR.one h'
  have hl := ItsR.len h
  have hl' := ItsR.len h'
  obtain ⟨rows, hr, hrl, hit⟩ := h
  obtain ⟨rows', hr', hrl', hit'⟩ := h'
  refine run_slices_EqualFunc_api_Item_api_Item_api_Item_api_Item (vs := [v, v', .func (.func F_board_same) #[] #[]]) (by kernel_rfl) ⟨ho, ho', rfl, trivial⟩ ?_
  simp only [T_slices_EqualFunc_api_Item_api_Item_api_Item_api_Item]
  refine pure_den _ hl (pure_den _ hl' (pure_den _ (neq_eq _ _) (br_den (fun hb => ret_denO ⟨?_, rfl⟩) (fun hb => ?_))))
  · have : l ≠ l' := by intro e; subst e; simp at hb
    exact neB this
  · have hlen : l.length = l'.length := by simp at hb; omega
    refine pure_den _ hl ?_
    refine count_den l.length (fun i H' O' => O' = O ∧ Heap.le H H' ∧ l.take i = l'.take i) ⟨rfl, Heap.le_refl H, by simp⟩ ?_
    rintro i H' O' hi - ⟨rfl, hle, hor⟩
    refine pure_den _ (lss_eq _ _) (br_den (fun hb => ?_) (fun hb => ?_))
    · have hlt : i < l.length := by simpa using hb
      have hlt' : i < l'.length := by omega
      have hx := (hit i rows[i] l[i] (by simp [hrl, hlt]) (by simp [hlt])).le hle
      have hy := (hit' i rows'[i] l'[i] (by simp [hrl', hlt']) (by simp [hlt'])).le hle
      obtain ⟨a, h1, h2, _, h3, h4⟩ := (hr.le hle).idx .i64 i rows[i] (by simp [hrl, hlt])
      obtain ⟨b, k1, k2, _, k3, k4⟩ := (hr'.le hle).idx .i64 i rows'[i] (by simp [hrl', hlt'])
      have hc := c_same hx hy
      obtain ⟨s, hrow, _⟩ := hx
      obtain ⟨s', hrow', _⟩ := hy
      rw [hrow] at h2 h3 h4 hc
      rw [hrow'] at k2 k3 k4 hc
      refine pure_den _ h1 (load_denR h2 h3 h4 (newbox_den fun r0 => chkN_den (pure_den _ k1 (load_denR k2 k3 k4 (newbox_den fun r1 => chkN_den (chkN_den (chkN_den ?_)))))))
      refine callv_den rfl (okFn_of okL_ok (by decide)) hc rfl ⟨rfl, trivial⟩ fun H2 hle2 => pure_den _ (not_eq' _) (br_den (fun hb => ret_denO ⟨?_, rfl⟩) (fun hb => ?_))
      · have hne : l[i] ≠ l'[i] := by simpa using hb
        exact neB (by rintro rfl; exact hne rfl)
      · have he : l[i] = l'[i] := by simpa using hb
        refine pure_den _ (add_one (by have := hr.lenB; omega)) (count_cont (by simp [Eqs, E]) hlt ⟨rfl, Heap.le_trans hle hle2, ?_⟩)
        rw [List.take_add_one, List.take_add_one, hor, List.getElem?_eq_getElem hlt, List.getElem?_eq_getElem hlt', he]
    · have hge : l.length ≤ i := by simpa using hb
      refine ret_denO ⟨?_, rfl⟩
      rw [List.take_of_length_le hge, List.take_of_length_le (by omega)] at hor
      simp [hor]
theorem c_Equal {H : Heap} {O : Own} {v w : BV12} {a b : Bd} (h : BdR H O v a) (h' : BdR H O w b) : RetO PP F_board_Equal [.agg (boardC v a).toArray, .agg (boardC w b).toArray] H O (.bool (a == b)) := by
  refine run_board_Equal (vs := boardC v a ++ boardC w b) (by kernel_rfl) (ones_app (boardC_ones h) (boardC_ones h')) ?_
  simp only [T_board_Equal]
  refine newbox_den fun r0 => newbox_den fun r1 => ?_
  repeat (first | refine chkN_den ?_ | refine chkV_den ?_ | refine newbox_den fun _ => ?_ | refine pure_den _ (neq_eq _ _) ?_ | refine pure_den _ (eql_eq _ _) ?_ | refine raw_denG (manaEq _ _ _ _ _ _ _ _) ?_ | refine pure_den _ (bneq_eq _ _) ?_ | refine pure_den _ (pick_or _ _) ?_ | refine pure_den _ (pick_and _ _) ?_)
  refine br_den (fun hb => ret_denO ⟨neB (by rintro rfl; simp at hb), rfl⟩) (fun hs0 => ?_)
  refine call_retO (c_lists r1 1 _ _) rfl ⟨rfl, rfl, rfl, rfl, trivial⟩ fun L1 m1 => chkV_den (chkV_den (chkV_den (chkV_den ?_)))
  replace h := h.le m1
  replace h' := h'.le m1
  refine newbox_den fun _ => chkN_den ?_
  refine call_retO (c_lists r0 1 _ _) rfl ⟨rfl, rfl, rfl, rfl, trivial⟩ fun L2 m2 => chkV_den (chkV_den (chkV_den (chkV_den ?_)))
  replace h := h.le m2
  replace h' := h'.le m2
  repeat (first | refine chkN_den ?_ | refine chkV_den ?_ | refine newbox_den fun _ => ?_ | refine pure_den _ (neq_eq _ _) ?_ | refine pure_den _ (eql_eq _ _) ?_ | refine raw_denG (manaEq _ _ _ _ _ _ _ _) ?_ | refine pure_den _ (bneq_eq _ _) ?_ | refine pure_den _ (pick_or _ _) ?_ | refine pure_den _ (pick_and _ _) ?_)
  refine call_retO (c_Equal_int h.s0.lib h'.s0.lib) rfl ⟨rfl, trivial⟩ fun L3 m3 => pure_den _ (not_eq' _) (br_den (fun hb => ret_denO ⟨neB (by rintro rfl; simp at hb), rfl⟩) (fun zs00 => ?_))
  replace h := h.le m3
  replace h' := h'.le m3
  repeat (first | refine chkN_den ?_ | refine chkV_den ?_ | refine newbox_den fun _ => ?_ | refine pure_den _ (neq_eq _ _) ?_ | refine pure_den _ (eql_eq _ _) ?_ | refine raw_denG (manaEq _ _ _ _ _ _ _ _) ?_ | refine pure_den _ (bneq_eq _ _) ?_ | refine pure_den _ (pick_or _ _) ?_ | refine pure_den _ (pick_and _ _) ?_)
  refine call_retO (c_Equal_int h.s0.hand h'.s0.hand) rfl ⟨rfl, trivial⟩ fun L4 m4 => pure_den _ (not_eq' _) (br_den (fun hb => ret_denO ⟨neB (by rintro rfl; simp at hb), rfl⟩) (fun zs01 => ?_))
  replace h := h.le m4
  replace h' := h'.le m4
  repeat (first | refine chkN_den ?_ | refine chkV_den ?_ | refine newbox_den fun _ => ?_ | refine pure_den _ (neq_eq _ _) ?_ | refine pure_den _ (eql_eq _ _) ?_ | refine raw_denG (manaEq _ _ _ _ _ _ _ _) ?_ | refine pure_den _ (bneq_eq _ _) ?_ | refine pure_den _ (pick_or _ _) ?_ | refine pure_den _ (pick_and _ _) ?_)
  refine call_retO (c_Equal_int h.s0.field h'.s0.field) rfl ⟨rfl, trivial⟩ fun L5 m5 => pure_den _ (not_eq' _) (br_den (fun hb => ret_denO ⟨neB (by rintro rfl; simp at hb), rfl⟩) (fun zs02 => ?_))
  replace h := h.le m5
  replace h' := h'.le m5
  repeat (first | refine chkN_den ?_ | refine chkV_den ?_ | refine newbox_den fun _ => ?_ | refine pure_den _ (neq_eq _ _) ?_ | refine pure_den _ (eql_eq _ _) ?_ | refine raw_denG (manaEq _ _ _ _ _ _ _ _) ?_ | refine pure_den _ (bneq_eq _ _) ?_ | refine pure_den _ (pick_or _ _) ?_ | refine pure_den _ (pick_and _ _) ?_)
  refine call_retO (c_Equal_int h.s0.grave h'.s0.grave) rfl ⟨rfl, trivial⟩ fun L6 m6 => pure_den _ (not_eq' _) (br_den (fun hb => ret_denO ⟨neB (by rintro rfl; simp at hb), rfl⟩) (fun zs03 => ?_))
  replace h := h.le m6
  replace h' := h'.le m6
  repeat (first | refine chkN_den ?_ | refine chkV_den ?_ | refine newbox_den fun _ => ?_ | refine pure_den _ (neq_eq _ _) ?_ | refine pure_den _ (eql_eq _ _) ?_ | refine raw_denG (manaEq _ _ _ _ _ _ _ _) ?_ | refine pure_den _ (bneq_eq _ _) ?_ | refine pure_den _ (pick_or _ _) ?_ | refine pure_den _ (pick_and _ _) ?_)
  refine br_den (fun hb => ret_denO ⟨neB (by rintro rfl; simp at hb), rfl⟩) (fun hs1 => ?_)
  refine call_retO (c_lists r1 15 _ _) rfl ⟨rfl, rfl, rfl, rfl, trivial⟩ fun L7 m7 => chkV_den (chkV_den (chkV_den (chkV_den ?_)))
  replace h := h.le m7
  replace h' := h'.le m7
  refine newbox_den fun _ => chkN_den ?_
  refine call_retO (c_lists r0 15 _ _) rfl ⟨rfl, rfl, rfl, rfl, trivial⟩ fun L8 m8 => chkV_den (chkV_den (chkV_den (chkV_den ?_)))
  replace h := h.le m8
  replace h' := h'.le m8
  repeat (first | refine chkN_den ?_ | refine chkV_den ?_ | refine newbox_den fun _ => ?_ | refine pure_den _ (neq_eq _ _) ?_ | refine pure_den _ (eql_eq _ _) ?_ | refine raw_denG (manaEq _ _ _ _ _ _ _ _) ?_ | refine pure_den _ (bneq_eq _ _) ?_ | refine pure_den _ (pick_or _ _) ?_ | refine pure_den _ (pick_and _ _) ?_)
  refine call_retO (c_Equal_int h.s1.lib h'.s1.lib) rfl ⟨rfl, trivial⟩ fun L9 m9 => pure_den _ (not_eq' _) (br_den (fun hb => ret_denO ⟨neB (by rintro rfl; simp at hb), rfl⟩) (fun zs10 => ?_))
  replace h := h.le m9
  replace h' := h'.le m9
  repeat (first | refine chkN_den ?_ | refine chkV_den ?_ | refine newbox_den fun _ => ?_ | refine pure_den _ (neq_eq _ _) ?_ | refine pure_den _ (eql_eq _ _) ?_ | refine raw_denG (manaEq _ _ _ _ _ _ _ _) ?_ | refine pure_den _ (bneq_eq _ _) ?_ | refine pure_den _ (pick_or _ _) ?_ | refine pure_den _ (pick_and _ _) ?_)
  refine call_retO (c_Equal_int h.s1.hand h'.s1.hand) rfl ⟨rfl, trivial⟩ fun L10 m10 => pure_den _ (not_eq' _) (br_den (fun hb => ret_denO ⟨neB (by rintro rfl; simp at hb), rfl⟩) (fun zs11 => ?_))
  replace h := h.le m10
  replace h' := h'.le m10
  repeat (first | refine chkN_den ?_ | refine chkV_den ?_ | refine newbox_den fun _ => ?_ | refine pure_den _ (neq_eq _ _) ?_ | refine pure_den _ (eql_eq _ _) ?_ | refine raw_denG (manaEq _ _ _ _ _ _ _ _) ?_ | refine pure_den _ (bneq_eq _ _) ?_ | refine pure_den _ (pick_or _ _) ?_ | refine pure_den _ (pick_and _ _) ?_)
  refine call_retO (c_Equal_int h.s1.field h'.s1.field) rfl ⟨rfl, trivial⟩ fun L11 m11 => pure_den _ (not_eq' _) (br_den (fun hb => ret_denO ⟨neB (by rintro rfl; simp at hb), rfl⟩) (fun zs12 => ?_))
  replace h := h.le m11
  replace h' := h'.le m11
  repeat (first | refine chkN_den ?_ | refine chkV_den ?_ | refine newbox_den fun _ => ?_ | refine pure_den _ (neq_eq _ _) ?_ | refine pure_den _ (eql_eq _ _) ?_ | refine raw_denG (manaEq _ _ _ _ _ _ _ _) ?_ | refine pure_den _ (bneq_eq _ _) ?_ | refine pure_den _ (pick_or _ _) ?_ | refine pure_den _ (pick_and _ _) ?_)
  refine call_retO (c_Equal_int h.s1.grave h'.s1.grave) rfl ⟨rfl, trivial⟩ fun L12 m12 => pure_den _ (not_eq' _) (br_den (fun hb => ret_denO ⟨neB (by rintro rfl; simp at hb), rfl⟩) (fun zs13 => ?_))
  replace h := h.le m12
  replace h' := h'.le m12
  repeat (first | refine chkN_den ?_ | refine chkV_den ?_ | refine newbox_den fun _ => ?_ | refine pure_den _ (neq_eq _ _) ?_ | refine pure_den _ (eql_eq _ _) ?_ | refine raw_denG (manaEq _ _ _ _ _ _ _ _) ?_ | refine pure_den _ (bneq_eq _ _) ?_ | refine pure_den _ (pick_or _ _) ?_ | refine pure_den _ (pick_and _ _) ?_)
  refine br_den (fun hpl => ?_) (fun hb => ret_denO ⟨neB (by rintro rfl; simp at hb), rfl⟩)
  repeat (first | refine chkN_den ?_ | refine chkV_den ?_ | refine newbox_den fun _ => ?_ | refine pure_den _ (neq_eq _ _) ?_ | refine pure_den _ (eql_eq _ _) ?_ | refine raw_denG (manaEq _ _ _ _ _ _ _ _) ?_ | refine pure_den _ (bneq_eq _ _) ?_ | refine pure_den _ (pick_or _ _) ?_ | refine pure_den _ (pick_and _ _) ?_)
  refine call_retO (c_Equal_Ob h.objs h'.objs) rfl ⟨rfl, trivial⟩ fun L13 m13 => br_den (fun x0 => ?_) (fun hb => ret_denO ⟨neB (by rintro rfl; simp at hb), rfl⟩)
  replace h := h.le m13
  replace h' := h'.le m13
  repeat (first | refine chkN_den ?_ | refine chkV_den ?_ | refine newbox_den fun _ => ?_ | refine pure_den _ (neq_eq _ _) ?_ | refine pure_den _ (eql_eq _ _) ?_ | refine raw_denG (manaEq _ _ _ _ _ _ _ _) ?_ | refine pure_den _ (bneq_eq _ _) ?_ | refine pure_den _ (pick_or _ _) ?_ | refine pure_den _ (pick_and _ _) ?_)
  refine call_retO (c_EqualFunc_same h.stack h'.stack) rfl ⟨rfl, trivial⟩ fun L14 m14 => br_den (fun x1 => ?_) (fun hb => ret_denO ⟨neB (by rintro rfl; simp at hb), rfl⟩)
  replace h := h.le m14
  replace h' := h'.le m14
  repeat (first | refine chkN_den ?_ | refine chkV_den ?_ | refine newbox_den fun _ => ?_ | refine pure_den _ (neq_eq _ _) ?_ | refine pure_den _ (eql_eq _ _) ?_ | refine raw_denG (manaEq _ _ _ _ _ _ _ _) ?_ | refine pure_den _ (bneq_eq _ _) ?_ | refine pure_den _ (pick_or _ _) ?_ | refine pure_den _ (pick_and _ _) ?_)
  refine call_retO (c_EqualFunc_same h.queue h'.queue) rfl ⟨rfl, trivial⟩ fun L15 m15 => br_den (fun x2 => ?_) (fun hb => ret_denO ⟨neB (by rintro rfl; simp at hb), rfl⟩)
  replace h := h.le m15
  replace h' := h'.le m15
  repeat (first | refine chkN_den ?_ | refine chkV_den ?_ | refine newbox_den fun _ => ?_ | refine pure_den _ (neq_eq _ _) ?_ | refine pure_den _ (eql_eq _ _) ?_ | refine raw_denG (manaEq _ _ _ _ _ _ _ _) ?_ | refine pure_den _ (bneq_eq _ _) ?_ | refine pure_den _ (pick_or _ _) ?_ | refine pure_den _ (pick_and _ _) ?_)
  refine call_retO (c_Equal_int h.att h'.att) rfl ⟨rfl, trivial⟩ fun L16 m16 => br_den (fun x3 => ?_) (fun hb => ret_denO ⟨neB (by rintro rfl; simp at hb), rfl⟩)
  replace h := h.le m16
  replace h' := h'.le m16
  repeat (first | refine chkN_den ?_ | refine chkV_den ?_ | refine newbox_den fun _ => ?_ | refine pure_den _ (neq_eq _ _) ?_ | refine pure_den _ (eql_eq _ _) ?_ | refine raw_denG (manaEq _ _ _ _ _ _ _ _) ?_ | refine pure_den _ (bneq_eq _ _) ?_ | refine pure_den _ (pick_or _ _) ?_ | refine pure_den _ (pick_and _ _) ?_)
  refine call_retO (c_Equal_Bl h.blocks h'.blocks) rfl ⟨rfl, trivial⟩ fun L m => ret_denO ⟨?_, rfl⟩
  simp only [Bool.not_eq_false', Bool.and_eq_true, beq_iff_eq] at hpl x0 x1 x2 x3 zs00 zs01 zs02 zs03 zs10 zs11 zs12 zs13
  have e0 : (a.s0 == b.s0) = true := by
    rw [stEq, zs00, zs01, zs02, zs03]
    simp only [Bool.or_eq_false_iff, bne_eq_false_iff_eq, beq_iff_eq] at hs0
    simp only [stPlain]
    simp_all
  have e1 : (a.s1 == b.s1) = true := by
    rw [stEq, zs10, zs11, zs12, zs13]
    simp only [Bool.or_eq_false_iff, bne_eq_false_iff_eq, beq_iff_eq] at hs1
    simp only [stPlain]
    simp_all
  refine boolV ?_
  rw [bdEq, e0, e1, x0, x1, x2, x3]
  simp only [bdPlain]
  simp_all
end Go.Proofs.YtjaegdkkiefchaaGreatDoor
