/- Items: which are valid. -/
import Derived.Test.YtjaegdkkiefchaaGreatDoorC1
import Derived.Test.YtjaegdkkiefchaaGreatDoorM
namespace Go.Proofs.YtjaegdkkiefchaaGreatDoor
open Go Go.Sx
set_option maxRecDepth 100000
set_option maxHeartbeats 1000000

theorem c_aimed (t : Tg) (H : Heap) (O : Own) : RetO PP F_board_aimed [.agg #[iV t.id, iV t.player]] H O (.bool (aimedB t)) := by
  refine run_board_aimed (vs := [iV t.id, iV t.player]) (by kernel_rfl) ⟨rfl, rfl, trivial⟩ ?_
  simp only [T_board_aimed]
  refine fun r0 => chkN_den (call_retO (c_within t.id 0 500 H O) rfl ⟨rfl, trivial⟩ fun H1 _ => br_den (fun hb => chkN_den ?_) (fun hb => ret_denO ⟨?_, rfl⟩))
  · refine call_retO (c_within t.player 0 1 H1 O) rfl ⟨rfl, trivial⟩ fun H2 _ => ?_
    repeat (first | refine chkN_den ?_ | refine chkV_den ?_ | refine newbox_den fun _ => ?_ | refine pure_den _ (lss_eq _ _) ?_ | refine pure_den _ (gtr_eq _ _) ?_ | refine pure_den _ (leq_eq _ _) ?_ | refine pure_den _ (geq_eq _ _) ?_ | refine pure_den _ (eql_eq _ _) ?_ | refine pure_den _ (neq_eq _ _) ?_ | refine pure_den _ (pick_and _ _) ?_ | refine pure_den _ (pick_or _ _) ?_ | refine pure_den _ (not_eq' _) ?_ | refine pure_den _ (beql_eq _ _) ?_ | refine pure_den _ (bneq_eq _ _) ?_)
    refine ret_denO ⟨?_, rfl⟩
    simp only [aimedB, withinB, hb, Bool.true_and]
  · simp only [aimedB, withinB, hb, Bool.false_and]
theorem c_fine_1 (t : Tg) (H : Heap) (O : Own) : RetO PP F_board_fine_1 [.agg #[iV t.id, iV t.player]] H O (.bool (!aimedB t)) := by
  refine run_board_fine_1 (vs := [iV t.id, iV t.player]) (by kernel_rfl) ⟨rfl, rfl, trivial⟩ ?_
  simp only [T_board_fine_1]
  exact fun r0 => chkN_den (call_retO (c_aimed t H O) rfl ⟨rfl, trivial⟩ fun H1 _ => pure_den _ (not_eq' _) (ret_denO ⟨rfl, rfl⟩))
theorem c_IndexFunc_Target {H : Heap} {O : Own} {v fv : Value} {l : List Tg} {p : Tg → Bool} (h : RSl H O 2 v (l.map Tg.row)) {f : FuncId} (hf : fv = .func (.func f) #[] #[]) (hok : OkFn PP f)
    (hp : ∀ H', Heap.le H H' → ∀ t, RetO PP f [.agg #[iV t.id, iV t.player]] H' O (.bool (p t))) : RetO PP F_slices_IndexFunc_api_Target_api_Target [v, fv] H O (iV (idxP p l 0)) := by
  subst hf
  refine run_slices_IndexFunc_api_Target_api_Target (vs := [v, .func (.func f) #[] #[]]) (by kernel_rfl) ⟨h.one, rfl, trivial⟩ ?_
  simp only [T_slices_IndexFunc_api_Target_api_Target]
  refine pure_den _ h.len ?_
  rw [List.length_map]
  refine count_den l.length (fun i H' O' => O' = O ∧ Heap.le H H' ∧ idxP p l 0 = idxP p (l.drop i) i) ⟨rfl, Heap.le_refl H, by simp⟩ ?_
  rintro i H' O' hi - ⟨rfl, hle, hor⟩
  refine pure_den _ (lss_eq _ _) (br_den (fun hb => ?_) (fun hb => ?_))
  · have hlt : i < l.length := by simpa using hb
    obtain ⟨a, h1, h2, _, h3, h4⟩ := (h.le hle).idx .i64 i (Tg.row l[i]) (by simp [hlt])
    refine pure_den _ h1 (load_denR h2 h3 h4 (callv_den rfl hok (hp H' hle l[i]) rfl ⟨rfl, trivial⟩ fun H2 hle2 => br_den (fun hb => ?_) (fun hb => ?_)))
    · refine ret_denO ⟨?_, rfl⟩
      rw [hor, List.drop_eq_getElem_cons hlt, idxP, if_pos hb]; rfl
    · refine pure_den _ (add_one (by have := h.lenB; simp at this; omega)) (count_cont (by simp [Eqs, E]) hlt ⟨rfl, Heap.le_trans hle hle2, ?_⟩)
      rw [hor, List.drop_eq_getElem_cons hlt, idxP, if_neg (by rw [hb]; simp)]; rfl
  · have hge : l.length ≤ i := by simpa using hb
    refine ret_denO ⟨?_, rfl⟩
    rw [hor, List.drop_of_length_le hge]; rfl
theorem c_ContainsFunc_Target {H : Heap} {O : Own} {v fv : Value} {l : List Tg} {p : Tg → Bool} (h : RSl H O 2 v (l.map Tg.row)) {f : FuncId} (hf : fv = .func (.func f) #[] #[]) (hok : OkFn PP f)
    (hp : ∀ H', Heap.le H H' → ∀ t, RetO PP f [.agg #[iV t.id, iV t.player]] H' O (.bool (p t))) : RetO PP F_slices_ContainsFunc_api_Target_api_Target [v, fv] H O (.bool (l.any p)) := by
  have hone : fv.oneCell' = true := by subst hf; rfl
  refine run_slices_ContainsFunc_api_Target_api_Target (vs := [v, fv]) (by kernel_rfl) ⟨h.one, hone, trivial⟩ ?_
  simp only [T_slices_ContainsFunc_api_Target_api_Target]
  refine call_retO (c_IndexFunc_Target h hf hok hp) rfl ⟨rfl, trivial⟩ fun H1 _ => pure_den _ (geq_eq _ _) (ret_denO ⟨?_, rfl⟩)
  rw [← idxP_ge p l 0 (by omega)]
theorem c_fine {H : Heap} {O : Own} {row : List Value} {x : It} (h : ItR H O row x) (q : Bool) : RetO PP F_board_fine [.agg row.toArray, .bool q] H O (.bool (fineB x q)) := by
  obtain ⟨s, rfl, hs⟩ := h
  refine run_board_fine (vs := [iV x.player, iV x.id, iV x.card, iV x.trig, s, .bool q]) (by kernel_rfl) ⟨rfl, rfl, rfl, rfl, hs.one, rfl, trivial⟩ ?_
  simp only [T_board_fine]
  have hlen : evalPure .len [s] = some (iV x.tgs.length) := by have := hs.len; rwa [List.length_map] at this
  refine fun r0 => chkN_den (call_retO (c_within x.player 0 1 H O) rfl ⟨rfl, trivial⟩ fun H1 l1 => br_den (fun h1 => chkN_den ?_) (fun h1 => ret_denO ⟨by simp only [fineB, withinB, h1, Bool.false_and], rfl⟩))
  refine call_retO (c_within x.id 1 500 H1 O) rfl ⟨rfl, trivial⟩ fun H2 l2 => br_den (fun h2 => chkN_den ?_) (fun h2 => ret_denO ⟨by simp only [fineB, withinB, h1, h2, Bool.false_and, Bool.true_and], rfl⟩)
  refine call_retO (c_within x.card 0 399 H2 O) rfl ⟨rfl, trivial⟩ fun H3 l3 => br_den (fun h3 => chkN_den ?_) (fun h3 => ret_denO ⟨by simp only [fineB, withinB, h1, h2, h3, Bool.false_and, Bool.true_and], rfl⟩)
  refine call_retO (c_within x.trig (-1) 1 H3 O) rfl ⟨rfl, trivial⟩ fun H4 l4 => ?_
  repeat (first | refine chkN_den ?_ | refine chkV_den ?_ | refine pure_den _ hlen ?_ | refine pure_den _ (lss_eq _ _) ?_ | refine pure_den _ (gtr_eq _ _) ?_ | refine pure_den _ (geq_eq _ _) ?_ | refine pure_den _ (pick_and _ _) ?_ | refine pure_den _ (pick_or _ _) ?_ | refine pure_den _ (not_eq' _) ?_)
  have hle := Heap.le_trans (Heap.le_trans (Heap.le_trans l1 l2) l3) l4
  have hfb : fineB x q = (!(!decide (-1 ≤ x.trig ∧ x.trig ≤ 1) || decide ((x.tgs.length : Int) > 4) || (decide (x.trig ≥ 0) && decide ((x.tgs.length : Int) > 0)) || (q && decide (x.trig < 0))) && !x.tgs.any (fun t => !aimedB t)) := by
    simp only [fineB, withinB, h1, h2, h3, Bool.true_and]
    cases decide (-1 ≤ x.trig ∧ x.trig ≤ 1) <;> simp
  refine br_den (fun hb => ret_denO ⟨?_, rfl⟩) (fun hb => chkN_den ?_)
  · rw [hfb, hb]; simp
  · refine call_retO (c_ContainsFunc_Target (p := fun t => !aimedB t) (hs.le hle) rfl (okFn_of okL_ok (by decide)) fun H' _ t => c_fine_1 t H' O) rfl ⟨rfl, trivial⟩ fun H5 _ => pure_den _ (not_eq' _) (ret_denO ⟨?_, rfl⟩)
    rw [hfb, hb]; simp
end Go.Proofs.YtjaegdkkiefchaaGreatDoor
