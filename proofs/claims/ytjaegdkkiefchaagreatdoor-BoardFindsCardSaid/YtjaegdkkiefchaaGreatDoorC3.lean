/- Function values over items; mana; objects. -/
import Derived.Test.YtjaegdkkiefchaaGreatDoorC2
namespace Go.Proofs.YtjaegdkkiefchaaGreatDoor
open Go Go.Sx
set_option maxRecDepth 100000
set_option maxHeartbeats 1000000

theorem c_IndexFunc_Item {H : Heap} {O : Own} {v fv : Value} {l : List It} {p : It → Bool} (h : ItsR H O v l) {f : FuncId} {caps : Array Value} (hf : fv = .func (.func f) #[] caps) (hok : OkFn PP f)
    (hp : ∀ H', Heap.le H H' → ∀ row x, ItR H' O row x → RetO PP f ([.agg row.toArray] ++ caps.toList) H' O (.bool (p x))) : RetO PP F_slices_IndexFunc_api_Item_api_Item [v, fv] H O (iV (idxP p l 0)) := by
  subst hf
  obtain ⟨rows, hr, hlen, hit⟩ := h
  refine run_slices_IndexFunc_api_Item_api_Item (vs := [v, .func (.func f) #[] caps]) (by kernel_rfl) ⟨hr.one, rfl, trivial⟩ ?_
  simp only [T_slices_IndexFunc_api_Item_api_Item]
  refine pure_den _ hr.len ?_
  rw [hlen]
  refine count_den l.length (fun i H' O' => O' = O ∧ Heap.le H H' ∧ idxP p l 0 = idxP p (l.drop i) i) ⟨rfl, Heap.le_refl H, by simp⟩ ?_
  rintro i H' O' hi - ⟨rfl, hle, hor⟩
  refine pure_den _ (lss_eq _ _) (br_den (fun hb => ?_) (fun hb => ?_))
  · have hlt : i < l.length := by simpa using hb
    have hlt' : i < rows.length := by omega
    obtain ⟨a, h1, h2, _, h3, h4⟩ := (hr.le hle).idx .i64 i rows[i] (by simp [hlt'])
    have hx := (hit i rows[i] l[i] (by simp [hlt']) (by simp [hlt])).le hle
    have hx' := hx
    obtain ⟨s, hrow, hs⟩ := hx
    have hcall := hp H' hle rows[i] l[i] hx'
    rw [hrow] at h2 h3 h4 hcall
    refine pure_den _ h1 (load_denR h2 h3 h4 (callv_den rfl hok hcall rfl ⟨rfl, trivial⟩ fun H2 hle2 => br_den (fun hb => ?_) (fun hb => ?_)))
    · refine ret_denO ⟨?_, rfl⟩
      rw [hor, List.drop_eq_getElem_cons hlt, idxP, if_pos hb]; rfl
    · refine pure_den _ (add_one (by have := hr.lenB; omega)) (count_cont (by simp [Eqs, E]) hlt ⟨rfl, Heap.le_trans hle hle2, ?_⟩)
      rw [hor, List.drop_eq_getElem_cons hlt, idxP, if_neg (by rw [hb]; simp)]; rfl
  · have hge : l.length ≤ i := by simpa using hb
    refine ret_denO ⟨?_, rfl⟩
    rw [hor, List.drop_of_length_le hge]; rfl
theorem ItsR.one {H : Heap} {O : Own} {v : Value} {l : List It} (h : ItsR H O v l) : v.oneCell' = true := by
  obtain ⟨_, h, _⟩ := h
  exact h.one
theorem ItsR.len {H : Heap} {O : Own} {v : Value} {l : List It} (h : ItsR H O v l) : evalPure .len [v] = some (iV l.length) := by
  obtain ⟨rows, h1, h2, _⟩ := h
  rw [h1.len, h2]
theorem c_ContainsFunc_Item {H : Heap} {O : Own} {v fv : Value} {l : List It} {p : It → Bool} (h : ItsR H O v l) {f : FuncId} {caps : Array Value} (hf : fv = .func (.func f) #[] caps) (hok : OkFn PP f)
    (hp : ∀ H', Heap.le H H' → ∀ row x, ItR H' O row x → RetO PP f ([.agg row.toArray] ++ caps.toList) H' O (.bool (p x))) : RetO PP F_slices_ContainsFunc_api_Item_api_Item [v, fv] H O (.bool (l.any p)) := by
  have hone : fv.oneCell' = true := by subst hf; rfl
  refine run_slices_ContainsFunc_api_Item_api_Item (vs := [v, fv]) (by kernel_rfl) ⟨ItsR.one h, hone, trivial⟩ ?_
  simp only [T_slices_ContainsFunc_api_Item_api_Item]
  refine call_retO (c_IndexFunc_Item h hf hok hp) rfl ⟨rfl, trivial⟩ fun H1 _ => pure_den _ (geq_eq _ _) (ret_denO ⟨?_, rfl⟩)
  rw [← idxP_ge p l 0 (by omega)]
theorem c_Valid_1 {H : Heap} {O : Own} {row : List Value} {x : It} (h : ItR H O row x) : RetO PP F_board_Valid_1 [.agg row.toArray] H O (.bool (!fineB x false)) := by
  have hf := c_fine h false
  obtain ⟨s, rfl, hs⟩ := h
  refine run_board_Valid_1 (vs := [iV x.player, iV x.id, iV x.card, iV x.trig, s]) (by kernel_rfl) ⟨rfl, rfl, rfl, rfl, hs.one, trivial⟩ ?_
  simp only [T_board_Valid_1]
  exact fun r0 => chkN_den (call_retO hf rfl ⟨rfl, trivial⟩ fun H1 _ => pure_den _ (not_eq' _) (ret_denO ⟨rfl, rfl⟩))
theorem c_Valid_2 {H : Heap} {O : Own} {row : List Value} {x : It} (h : ItR H O row x) : RetO PP F_board_Valid_2 [.agg row.toArray] H O (.bool (!fineB x true)) := by
  have hf := c_fine h true
  obtain ⟨s, rfl, hs⟩ := h
  refine run_board_Valid_2 (vs := [iV x.player, iV x.id, iV x.card, iV x.trig, s]) (by kernel_rfl) ⟨rfl, rfl, rfl, rfl, hs.one, trivial⟩ ?_
  simp only [T_board_Valid_2]
  exact fun r0 => chkN_den (call_retO hf rfl ⟨rfl, trivial⟩ fun H1 _ => pure_den _ (not_eq' _) (ret_denO ⟨rfl, rfl⟩))
theorem aidx_eq {l : List Value} {i : Nat} {v : Value} (h : l[i]? = some v) : evalPure .aidx (iV i :: l) = some v := by
  have hlt := (List.getElem?_eq_some_iff.1 h).1
  simp only [evalPure, evalAidx]
  rw [if_pos ⟨by omega, by omega⟩]
  simpa using h
/-- Four numbers, all of them from 0 to another one. -/
theorem c_mana_within (a b c d m : Int) (H : Heap) (O : Own) : RetO PP F_mana_within [.agg #[iV a, iV b, iV c, iV d], iV m] H O (.bool ([a, b, c, d].all fun n => withinB n 0 m)) := by
  refine run_mana_within (vs := [iV a, iV b, iV c, iV d, iV m]) (by kernel_rfl) ⟨rfl, rfl, rfl, rfl, rfl, trivial⟩ ?_
  simp only [T_mana_within]
  refine fun r0 => chkN_den (count_den 4 (fun i H' O' => O' = O ∧ ([a, b, c, d].all fun n => withinB n 0 m) = (([a, b, c, d].drop i).all fun n => withinB n 0 m)) ⟨rfl, rfl⟩ ?_)
  rintro i H' O' hi - ⟨rfl, hor⟩
  refine pure_den _ (lss_eq _ _) (br_den (fun hb => ?_) (fun hb => ?_))
  · have hlt : i < 4 := by have := of_decide_eq_true hb; omega
    have hlt' : i < [a, b, c, d].length := hlt
    have hv : [iV a, iV b, iV c, iV d][i]? = some (iV [a, b, c, d][i]) := by
      have : [iV a, iV b, iV c, iV d] = [a, b, c, d].map iV := rfl
      rw [this, List.getElem?_map, List.getElem?_eq_getElem hlt']; rfl
    refine pure_den _ (aidx_eq hv) (pure_den _ (lss_eq _ _) (chkV_den (chkV_den (pure_den _ (gtr_eq _ _) (chkV_den (pure_den _ (pick_or _ _) (br_den (fun hb => ret_denO ⟨?_, rfl⟩) (fun hb => pure_den _ (add_one (by omega)) (count_cont (by simp [Eqs, E]) hlt ⟨rfl, ?_⟩)))))))))
    · rw [hor, List.drop_eq_getElem_cons hlt', List.all_cons]
      have : withinB [a, b, c, d][i] 0 m = false := by simp [withinB] at hb ⊢; omega
      rw [this]; rfl
    · rw [hor, List.drop_eq_getElem_cons hlt', List.all_cons]
      have : withinB [a, b, c, d][i] 0 m = true := by simp [withinB] at hb ⊢; omega
      rw [this]; rfl
  · have : i = 4 := by have := of_decide_eq_false hb; omega
    subst this
    exact ret_denO ⟨by rw [hor]; rfl, rfl⟩
theorem c_mana_Valid (a b c d : Int) (H : Heap) (O : Own) : RetO PP F_mana_Valid [.agg #[iV a, iV b, iV c, iV d]] H O (.bool ([a, b, c, d].all fun n => withinB n 0 99)) := by
  refine run_mana_Valid (vs := [iV a, iV b, iV c, iV d]) (by kernel_rfl) ⟨rfl, rfl, rfl, rfl, trivial⟩ ?_
  simp only [T_mana_Valid]
  exact fun r0 => chkN_den (call_retO (c_mana_within a b c d 99 H O) rfl ⟨rfl, trivial⟩ fun H1 _ => ret_denO ⟨rfl, rfl⟩)
/-- Is an object valid? -/
def validO (o : Ob) : Bool := ([o.power, o.tough, o.dmg, o.cnt, o.pp, o.pt].all fun n => withinB n 0 99) &&
  ((((((o.card == -1) || ((o.power == 0) && (o.tough == 0))) && decide (o.id ≥ 1)) && decide (o.id ≤ 500)) && decide (o.card ≥ -1)) && decide (o.card < 400)) && ((o.owner == 0) || (o.owner == 1))
theorem c_object_Valid (o : Ob) (H : Heap) (O : Own) : RetO PP F_object_Valid [.agg o.row.toArray] H O (.bool (validO o)) := by
  refine run_object_Valid (vs := o.row) (by kernel_rfl) (by simp [Ob.row, Ones, Value.oneCell']) ?_
  simp only [T_object_Valid]
  refine fun r0 => chkN_den (chkN_den (chkN_den (chkN_den (chkN_den (chkN_den (count_den 6 (fun i H' O' => O' = O ∧ ([o.power, o.tough, o.dmg, o.cnt, o.pp, o.pt].all fun n => withinB n 0 99) = (([o.power, o.tough, o.dmg, o.cnt, o.pp, o.pt].drop i).all fun n => withinB n 0 99)) ⟨rfl, rfl⟩ ?_))))))
  rintro i H' O' hi - ⟨rfl, hor⟩
  refine pure_den _ (lss_eq _ _) (br_den (fun hb => ?_) (fun hb => ?_))
  · have hlt : i < 6 := by have := of_decide_eq_true hb; omega
    have hlt' : i < [o.power, o.tough, o.dmg, o.cnt, o.pp, o.pt].length := hlt
    have hv : [iV o.power, iV o.tough, iV o.dmg, iV o.cnt, iV o.pp, iV o.pt][i]? = some (iV [o.power, o.tough, o.dmg, o.cnt, o.pp, o.pt][i]) := by
      have : [iV o.power, iV o.tough, iV o.dmg, iV o.cnt, iV o.pp, iV o.pt] = [o.power, o.tough, o.dmg, o.cnt, o.pp, o.pt].map iV := rfl
      rw [this, List.getElem?_map, List.getElem?_eq_getElem hlt']; rfl
    refine pure_den _ (aidx_eq hv) (pure_den _ (lss_eq _ _) (chkV_den (pure_den _ (gtr_eq _ _) (chkV_den (pure_den _ (pick_or _ _) (br_den (fun hb => ret_denO ⟨?_, rfl⟩) (fun hb => pure_den _ (add_one (by omega)) (count_cont (by simp [Eqs, E]) hlt ⟨rfl, ?_⟩))))))))
    · have hf : ([o.power, o.tough, o.dmg, o.cnt, o.pp, o.pt].all fun n => withinB n 0 99) = false := by
        rw [hor, List.drop_eq_getElem_cons hlt', List.all_cons]
        have : withinB [o.power, o.tough, o.dmg, o.cnt, o.pp, o.pt][i] 0 99 = false := by simp [withinB] at hb ⊢; omega
        rw [this]; rfl
      unfold validO; rw [hf]; rfl
    · rw [hor, List.drop_eq_getElem_cons hlt', List.all_cons]
      have : withinB [o.power, o.tough, o.dmg, o.cnt, o.pp, o.pt][i] 0 99 = true := by simp [withinB] at hb ⊢; omega
      rw [this]; rfl
  · have : i = 6 := by have := of_decide_eq_false hb; omega
    subst this
    repeat (first | refine chkN_den ?_ | refine chkV_den ?_ | refine newbox_den fun _ => ?_ | refine pure_den _ (lss_eq _ _) ?_ | refine pure_den _ (gtr_eq _ _) ?_ | refine pure_den _ (leq_eq _ _) ?_ | refine pure_den _ (geq_eq _ _) ?_ | refine pure_den _ (eql_eq _ _) ?_ | refine pure_den _ (neq_eq _ _) ?_ | refine pure_den _ (pick_and _ _) ?_ | refine pure_den _ (pick_or _ _) ?_ | refine pure_den _ (not_eq' _) ?_ | refine pure_den _ (beql_eq _ _) ?_ | refine pure_den _ (bneq_eq _ _) ?_)
    refine ret_denO ⟨?_, rfl⟩
    have hall : ([o.power, o.tough, o.dmg, o.cnt, o.pp, o.pt].all fun n => withinB n 0 99) = true := by rw [hor]; rfl
    unfold validO; rw [hall, Bool.true_and]
end Go.Proofs.YtjaegdkkiefchaaGreatDoor
