/- Small boards. -/
import Derived.Test.YtjaegdkkiefchaaGreatDoorC17
namespace Go.Proofs.YtjaegdkkiefchaaGreatDoor
open Go Go.Sx
set_option maxRecDepth 100000
set_option maxHeartbeats 1000000

def stSmall (s : St) : Bool := !decide ((s.lib.length : Int) > 40) && (!decide ((s.hand.length : Int) > 40) && (!decide ((s.field.length : Int) > 40) && !decide ((s.grave.length : Int) > 40)))
def itsSmall (l : List It) : Bool := !decide ((l.length : Int) > 20) && l.all fun x => !decide ((x.tgs.length : Int) > 6)
def smallBd (b : Bd) : Bool := stSmall b.s0 && (stSmall b.s1 && (itsSmall b.stack && (itsSmall b.queue && ((decide ((b.objs.length : Int) ≤ 30) && decide ((b.att.length : Int) ≤ 30)) && decide ((b.blocks.length : Int) ≤ 30)))))
theorem small_fit {b : Bd} (h : smallBd b = true) : bdFit b := by
  simp only [smallBd, stSmall, itsSmall, Bool.and_eq_true, Bool.not_eq_true', decide_eq_true_eq, decide_eq_false_iff_not] at h
  refine ⟨⟨?_, ?_, ?_, ?_⟩, ⟨?_, ?_, ?_, ?_⟩, ?_⟩ <;> omega
theorem c_small {H : Heap} {O : Own} {v : BV12} {b : Bd} (h : BdR H O v b) : RetO PP F_zeitnotlaw15_small [.agg (boardC v b).toArray] H O (.bool (smallBd b)) := by
  refine run_zeitnotlaw15_small (vs := boardC v b) (by kernel_rfl) (boardC_ones h) ?_
  simp only [T_zeitnotlaw15_small]
  have len1 : ∀ {H' : Heap} {O' : Own} {w : Value} {l : List Int}, RSl H' O' 1 w (ints l) → evalPure .len [w] = some (iV l.length) := fun h => by have := h.len; rwa [ints, List.length_map] at this
  have lo := h.objs.len
  have lb := h.blocks.len
  rw [List.length_map] at lo lb
  have la := len1 h.att
  refine newbox_den fun r0 => ?_
  obtain ⟨s01, s02, s03, s04⟩ := stR_ones h.s0
  refine chkN_den (call_retO (r_Zones b.s0 s01 s02 s03 s04 _ _) rfl ⟨s01, s02, s03, s04, trivial⟩ fun Hs0 ls0 => ?_)
  replace h := h.le ls0
  refine pure_den _ (len1 h.s0.lib) (pure_den _ (gtr_eq _ _) (br_den (fun ks0lib => ret_denO ⟨?_, rfl⟩) (fun ks0lib => ?_)))
  · simp only [smallBd, stSmall, ks0lib, Bool.not_true, Bool.not_false, Bool.true_and, Bool.false_and, Bool.and_false]
  refine pure_den _ (len1 h.s0.hand) (pure_den _ (gtr_eq _ _) (br_den (fun ks0hand => ret_denO ⟨?_, rfl⟩) (fun ks0hand => ?_)))
  · simp only [smallBd, stSmall, ks0lib, ks0hand, Bool.not_true, Bool.not_false, Bool.true_and, Bool.false_and, Bool.and_false]
  refine pure_den _ (len1 h.s0.field) (pure_den _ (gtr_eq _ _) (br_den (fun ks0field => ret_denO ⟨?_, rfl⟩) (fun ks0field => ?_)))
  · simp only [smallBd, stSmall, ks0lib, ks0hand, ks0field, Bool.not_true, Bool.not_false, Bool.true_and, Bool.false_and, Bool.and_false]
  refine pure_den _ (len1 h.s0.grave) (pure_den _ (gtr_eq _ _) (br_den (fun ks0grave => ret_denO ⟨?_, rfl⟩) (fun ks0grave => ?_)))
  · simp only [smallBd, stSmall, ks0lib, ks0hand, ks0field, ks0grave, Bool.not_true, Bool.not_false, Bool.true_and, Bool.false_and, Bool.and_false]
  obtain ⟨s11, s12, s13, s14⟩ := stR_ones h.s1
  refine chkN_den (call_retO (r_Zones b.s1 s11 s12 s13 s14 _ _) rfl ⟨s11, s12, s13, s14, trivial⟩ fun Hs1 ls1 => ?_)
  replace h := h.le ls1
  refine pure_den _ (len1 h.s1.lib) (pure_den _ (gtr_eq _ _) (br_den (fun ks1lib => ret_denO ⟨?_, rfl⟩) (fun ks1lib => ?_)))
  · simp only [smallBd, stSmall, ks0lib, ks0hand, ks0field, ks0grave, ks1lib, Bool.not_true, Bool.not_false, Bool.true_and, Bool.false_and, Bool.and_false]
  refine pure_den _ (len1 h.s1.hand) (pure_den _ (gtr_eq _ _) (br_den (fun ks1hand => ret_denO ⟨?_, rfl⟩) (fun ks1hand => ?_)))
  · simp only [smallBd, stSmall, ks0lib, ks0hand, ks0field, ks0grave, ks1lib, ks1hand, Bool.not_true, Bool.not_false, Bool.true_and, Bool.false_and, Bool.and_false]
  refine pure_den _ (len1 h.s1.field) (pure_den _ (gtr_eq _ _) (br_den (fun ks1field => ret_denO ⟨?_, rfl⟩) (fun ks1field => ?_)))
  · simp only [smallBd, stSmall, ks0lib, ks0hand, ks0field, ks0grave, ks1lib, ks1hand, ks1field, Bool.not_true, Bool.not_false, Bool.true_and, Bool.false_and, Bool.and_false]
  refine pure_den _ (len1 h.s1.grave) (pure_den _ (gtr_eq _ _) (br_den (fun ks1grave => ret_denO ⟨?_, rfl⟩) (fun ks1grave => ?_)))
  · simp only [smallBd, stSmall, ks0lib, ks0hand, ks0field, ks0grave, ks1lib, ks1hand, ks1field, ks1grave, Bool.not_true, Bool.not_false, Bool.true_and, Bool.false_and, Bool.and_false]
  repeat (first | refine chkN_den ?_ | refine chkV_den ?_ | refine newbox_den fun _ => ?_)
  have lstack := ItsR.len h.stack
  refine pure_den _ lstack (pure_den _ (gtr_eq _ _) (br_den (fun kstack => ret_denO ⟨?_, rfl⟩) (fun kstack => ?_)))
  · simp only [smallBd, stSmall, itsSmall, ks0lib, ks0hand, ks0field, ks0grave, ks1lib, ks1hand, ks1field, ks1grave, kstack, Bool.not_true, Bool.not_false, Bool.true_and, Bool.false_and, Bool.and_false]
  have stkstack := h.stack
  obtain ⟨rowsstack, hrsstack, hrlstack, hitstack⟩ := stkstack
  have hBstack := hrsstack.lenB
  refine count_den b.stack.length (fun i H' OO => OO = O ∧ Heap.le Hs1 H' ∧ (b.stack.all fun x => !decide ((x.tgs.length : Int) > 6)) = ((b.stack.drop i).all fun x => !decide ((x.tgs.length : Int) > 6))) ⟨rfl, Heap.le_refl _, rfl⟩ ?_
  rintro istack Hstack Ostack histack - ⟨rfl, hlestack, horstack⟩
  replace h := h.le hlestack
  refine pure_den _ lstack (pure_den _ (lss_eq _ _) (br_den (fun hb => ?_) (fun hb => ?_)))
  · have hlt : istack < b.stack.length := by simpa using hb
    obtain ⟨a, h1, _, h3, _⟩ := (hrsstack.le hlestack).idx .i64 istack rowsstack[istack] (by simp [hrlstack, hlt])
    obtain ⟨s, hrow, hs⟩ := (hitstack istack rowsstack[istack] b.stack[istack] (by simp [hrlstack, hlt]) (by simp [hlt])).le hlestack
    have hr := h3 4 1 (by omega)
    rw [hrow] at hr
    have hst : ((b.stack.drop istack).all fun x => !decide ((x.tgs.length : Int) > 6)) = (!decide ((b.stack[istack].tgs.length : Int) > 6) && ((b.stack.drop (istack + 1)).all fun x => !decide ((x.tgs.length : Int) > 6))) := by rw [List.drop_eq_getElem_cons hlt, List.all_cons]
    have lt := hs.len
    rw [List.length_map] at lt
    refine pure_den _ h1 (chkP_den rfl (load_denR hr rfl ⟨hs.one, trivial⟩ (pure_den _ lt (pure_den _ (gtr_eq _ _) (br_den (fun hc => ret_denO ⟨?_, rfl⟩) (fun hc => ?_))))))
    · simp only [smallBd, stSmall, itsSmall, ks0lib, ks0hand, ks0field, ks0grave, ks1lib, ks1hand, ks1field, ks1grave, kstack, horstack, hst, hc, Bool.not_true, Bool.not_false, Bool.true_and, Bool.false_and, Bool.and_false]
    · refine pure_den _ (add_one (by omega)) (count_cont (by simp [Eqs]) hlt ⟨rfl, hlestack, ?_⟩)
      rw [horstack, hst, hc]; rfl
  have hgestack : b.stack.length ≤ istack := by simpa using hb
  rw [List.drop_of_length_le hgestack] at horstack
  have kallstack : (b.stack.all fun x => !decide ((x.tgs.length : Int) > 6)) = true := by rw [horstack]; rfl
  clear hb
  repeat (first | refine chkN_den ?_ | refine chkV_den ?_ | refine newbox_den fun _ => ?_)
  have lqueue := ItsR.len h.queue
  refine pure_den _ lqueue (pure_den _ (gtr_eq _ _) (br_den (fun kqueue => ret_denO ⟨?_, rfl⟩) (fun kqueue => ?_)))
  · simp only [smallBd, stSmall, itsSmall, ks0lib, ks0hand, ks0field, ks0grave, ks1lib, ks1hand, ks1field, ks1grave, kstack, kallstack, kqueue, Bool.not_true, Bool.not_false, Bool.true_and, Bool.false_and, Bool.and_false]
  have stkqueue := h.queue
  obtain ⟨rowsqueue, hrsqueue, hrlqueue, hitqueue⟩ := stkqueue
  have hBqueue := hrsqueue.lenB
  refine count_den b.queue.length (fun i H' OO => OO = Ostack ∧ Heap.le Hstack H' ∧ (b.queue.all fun x => !decide ((x.tgs.length : Int) > 6)) = ((b.queue.drop i).all fun x => !decide ((x.tgs.length : Int) > 6))) ⟨rfl, Heap.le_refl _, rfl⟩ ?_
  rintro iqueue Hqueue Oqueue hiqueue - ⟨rfl, hlequeue, horqueue⟩
  replace h := h.le hlequeue
  refine pure_den _ lqueue (pure_den _ (lss_eq _ _) (br_den (fun hb => ?_) (fun hb => ?_)))
  · have hlt : iqueue < b.queue.length := by simpa using hb
    obtain ⟨a, h1, _, h3, _⟩ := (hrsqueue.le hlequeue).idx .i64 iqueue rowsqueue[iqueue] (by simp [hrlqueue, hlt])
    obtain ⟨s, hrow, hs⟩ := (hitqueue iqueue rowsqueue[iqueue] b.queue[iqueue] (by simp [hrlqueue, hlt]) (by simp [hlt])).le hlequeue
    have hr := h3 4 1 (by omega)
    rw [hrow] at hr
    have hst : ((b.queue.drop iqueue).all fun x => !decide ((x.tgs.length : Int) > 6)) = (!decide ((b.queue[iqueue].tgs.length : Int) > 6) && ((b.queue.drop (iqueue + 1)).all fun x => !decide ((x.tgs.length : Int) > 6))) := by rw [List.drop_eq_getElem_cons hlt, List.all_cons]
    have lt := hs.len
    rw [List.length_map] at lt
    refine pure_den _ h1 (chkP_den rfl (load_denR hr rfl ⟨hs.one, trivial⟩ (pure_den _ lt (pure_den _ (gtr_eq _ _) (br_den (fun hc => ret_denO ⟨?_, rfl⟩) (fun hc => ?_))))))
    · simp only [smallBd, stSmall, itsSmall, ks0lib, ks0hand, ks0field, ks0grave, ks1lib, ks1hand, ks1field, ks1grave, kstack, kallstack, kqueue, horqueue, hst, hc, Bool.not_true, Bool.not_false, Bool.true_and, Bool.false_and, Bool.and_false]
    · refine pure_den _ (add_one (by omega)) (count_cont (by simp [Eqs]) hlt ⟨rfl, hlequeue, ?_⟩)
      rw [horqueue, hst, hc]; rfl
  have hgequeue : b.queue.length ≤ iqueue := by simpa using hb
  rw [List.drop_of_length_le hgequeue] at horqueue
  have kallqueue : (b.queue.all fun x => !decide ((x.tgs.length : Int) > 6)) = true := by rw [horqueue]; rfl
  clear hb
  repeat (first | refine chkN_den ?_ | refine chkV_den ?_ | refine pure_den _ lo ?_ | refine pure_den _ la ?_ | refine pure_den _ lb ?_ | refine pure_den _ (leq_eq _ _) ?_ | refine pure_den _ (pick_and _ _) ?_)
  refine ret_denO ⟨?_, rfl⟩
  simp only [smallBd, stSmall, itsSmall, ks0lib, ks0hand, ks0field, ks0grave, ks1lib, ks1hand, ks1field, ks1grave, kstack, kallstack, kqueue, kallqueue, Bool.not_true, Bool.not_false, Bool.true_and, Bool.false_and, Bool.and_false]
end Go.Proofs.YtjaegdkkiefchaaGreatDoor
