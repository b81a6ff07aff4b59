/- Are all objects in just one place: what the reference says. -/
import Derived.Test.YtjaegdkkiefchaaGreatDoorC11
namespace Go.Proofs.YtjaegdkkiefchaaGreatDoor
open Go Go.Sx
set_option maxRecDepth 100000
set_option maxHeartbeats 1000000

theorem idxP_spec {α : Type} (p : α → Bool) : ∀ (l : List α) (i : Int), 0 ≤ i → (idxP p l i = -1 ∧ ∀ x ∈ l, p x = false) ∨ ∃ (k : Nat) (x : α), l[k]? = some x ∧ p x = true ∧ idxP p l i = i + k
  | [], i, _ => .inl ⟨rfl, by simp⟩
  | a :: l, i, h => by
    simp only [idxP]
    by_cases hp : p a = true
    · right; exact ⟨0, a, rfl, hp, by rw [if_pos hp]; simp⟩
    · rw [if_neg hp]
      rcases idxP_spec p l (i + 1) (by omega) with ⟨h1, h2⟩ | ⟨k, x, h1, h2, h3⟩
      · left
        refine ⟨h1, fun x hx => ?_⟩
        rcases List.mem_cons.1 hx with rfl | hx
        · simpa using hp
        · exact h2 x hx
      · right; exact ⟨k + 1, x, by simpa using h1, h2, by rw [h3]; omega⟩
def cardAt (b : Bd) (i : Int) : Int := (b.objs[i.toNat]?.map (·.card)).getD 0
/-- A card on the stack has its object. -/
def stItem (b : Bd) (x : It) : Bool := decide (x.trig ≥ 0) || !(decide (idxO b x.id < 0) || (cardAt b (idxO b x.id) != x.card))
def isCard (x : It) : Bool := !decide (x.trig ≥ 0)
def manyS (b : Bd) : Nat := b.s0.lib.length + b.s0.hand.length + b.s0.field.length + b.s0.grave.length + b.s1.lib.length + b.s1.hand.length + b.s1.field.length + b.s1.grave.length
def objsGoR (b : Bd) : Option Int → List Ob → Bool
  | _, [] => true
  | prev, o :: r => (!(!validO o || prevBad prev o.id) && (((placesN b o.owner o.id : Nat) : Int) == 1)) && objsGoR b (some o.id) r
def foundR (b : Bd) : Bool := b.stack.all (stItem b) && (objsGoR b none b.objs && (((manyS b + b.stack.countP isCard : Nat) : Int) == (b.objs.length : Int)))
theorem validO_owner {o : Ob} (h : validO o = true) : o.owner = 0 ∨ o.owner = 1 := ((validO_iff o).1 h).2.2.2.2.2.2
theorem r_found {H : Heap} {O : Own} {v : BV12} {b : Bd} (h : BdR H O v b) (hfit : bdFit b) : RetO PP F_zeitnotref15_found [.agg (boardC v b).toArray] H O (.bool (foundR b)) := by
  refine run_zeitnotref15_found (vs := boardC v b) (by kernel_rfl) (boardC_ones h) ?_
  simp only [T_zeitnotref15_found]
  have hfit' := hfit
  obtain ⟨⟨f1, f2, f3, f4⟩, ⟨f5, f6, f7, f8⟩, f9⟩ := hfit
  have len1 : ∀ {H' : Heap} {O' : Own} {w : Value} {l : List Int}, RSl H' O' 1 w (ints l) → evalPure .len [w] = some (iV l.length) := fun h => by have := h.len; rwa [ints, List.length_map] at this
  obtain ⟨z1, z2, z3, z4⟩ := stR_ones h.s0
  obtain ⟨z5, z6, z7, z8⟩ := stR_ones h.s1
  refine newbox_den fun r0 => chkN_den (call_retO (r_Zones b.s0 z1 z2 z3 z4 H O) rfl ⟨z1, z2, z3, z4, trivial⟩ fun H1 l1 => ?_)
  replace h := h.le l1
  refine pure_den _ (len1 h.s0.lib) (pure_den _ (add_nat0 (by omega)) (pure_den _ (len1 h.s0.hand) (pure_den _ (add_nat (by omega)) (pure_den _ (len1 h.s0.field) (pure_den _ (add_nat (by omega)) (pure_den _ (len1 h.s0.grave) (pure_den _ (add_nat (by omega)) ?_)))))))
  refine chkN_den (call_retO (r_Zones b.s1 z5 z6 z7 z8 H1 O) rfl ⟨z5, z6, z7, z8, trivial⟩ fun H2 l2 => ?_)
  replace h := h.le l2
  refine pure_den _ (len1 h.s1.lib) (pure_den _ (add_nat (by omega)) (pure_den _ (len1 h.s1.hand) (pure_den _ (add_nat (by omega)) (pure_den _ (len1 h.s1.field) (pure_den _ (add_nat (by omega)) (pure_den _ (len1 h.s1.grave) (pure_den _ (add_nat (by omega)) ?_)))))))
  have hz : b.s0.lib.length + b.s0.hand.length + b.s0.field.length + b.s0.grave.length + b.s1.lib.length + b.s1.hand.length + b.s1.field.length + b.s1.grave.length = manyS b := rfl
  have hzb : manyS b ≤ 800000 := by unfold manyS; omega
  rw [hz]
  have hsl : evalPure .len [v.s] = some (iV b.stack.length) := ItsR.len h.stack
  have stk := h.stack
  obtain ⟨rows, hrs, hrl, hit⟩ := stk
  have lo := h.objs.len
  have lob := h.objs.lenB
  rw [List.length_map] at lo lob
  refine countY_den b.stack.length (fun i x H' O' => O' = O ∧ Heap.le H2 H' ∧ x = iV ((manyS b + (b.stack.take i).countP isCard : Nat) : Int) ∧ b.stack.all (stItem b) = (b.stack.drop i).all (stItem b)) ⟨rfl, Heap.le_refl _, by simp, rfl⟩ ?_
  rintro i x H' O' hi - ⟨rfl, hle, rfl, hor⟩
  have hci : (b.stack.take i).countP isCard ≤ i := Nat.le_trans List.countP_le_length (by simp; omega)
  refine chkN_den (pure_den _ hsl (pure_den _ (lss_eq _ _) (br_den (fun hb => ?_) (fun hb => ?_))))
  · have hlt : i < b.stack.length := by simpa using hb
    obtain ⟨a, h1, h2, _, h3, h4⟩ := (hrs.le hle).idx .i64 i rows[i] (by simp [hrl, hlt])
    obtain ⟨s, hrow, _⟩ := hit i rows[i] b.stack[i] (by simp [hrl, hlt]) (by simp [hlt])
    rw [hrow] at h2 h3 h4
    have hst : (b.stack.drop i).all (stItem b) = (stItem b b.stack[i] && (b.stack.drop (i + 1)).all (stItem b)) := by rw [List.drop_eq_getElem_cons hlt, List.all_cons]
    refine chkN_den (pure_den _ h1 (load_denR h2 h3 h4 ?_))
    repeat (first | refine chkN_den ?_ | refine chkV_den ?_ | refine newbox_den fun _ => ?_ | refine pure_den _ (lss_eq _ _) ?_ | refine pure_den _ (gtr_eq _ _) ?_ | refine pure_den _ (leq_eq _ _) ?_ | refine pure_den _ (geq_eq _ _) ?_ | refine pure_den _ (eql_eq _ _) ?_ | refine pure_den _ (neq_eq _ _) ?_ | refine pure_den _ (pick_and _ _) ?_ | refine pure_den _ (pick_or _ _) ?_ | refine pure_den _ (not_eq' _) ?_ | refine pure_den _ (beql_eq _ _) ?_ | refine pure_den _ (bneq_eq _ _) ?_)
    refine br_den (fun hb => ?_) (fun hb => ?_)
    · refine pure_den _ (add_one (by omega)) (countY_cont (by simp [Eqs]) hlt ⟨rfl, hle, ?_, ?_⟩)
      · have : isCard b.stack[i] = false := by simp only [isCard, hb, Bool.not_true]
        rw [take_countP hlt, this]; rfl
      · rw [hor, hst]
        have : stItem b b.stack[i] = true := by simp only [stItem, hb, Bool.true_or]
        rw [this, Bool.true_and]
    · refine pure_den _ (add_one (by omega)) (chkN_den (chkN_den (call_retO (r_Index (h.le hle) b.stack[i].id) rfl ⟨rfl, trivial⟩ fun H3 l3 => pure_den _ (lss_eq _ _) ?_)))
      repeat (first | refine chkN_den ?_ | refine chkV_den ?_)
      have hpv : ∃ pv : Value, pv.oneCell' = true ∧ (¬ (idxO b b.stack[i].id < 0) → evalPure (.idx 12) [v.o, iV (idxO b b.stack[i].id)] = some pv ∧ isPtr pv = true ∧ Reads H3 O' (ptrAdd pv 1) 1 [iV (cardAt b (idxO b b.stack[i].id))]) := by
        rcases idxP_spec (fun o => o.id == b.stack[i].id) b.objs 0 (by omega) with ⟨e, _⟩ | ⟨k, o, e1, _, e3⟩
        · refine ⟨iV 0, rfl, fun hn => ?_⟩
          exfalso; apply hn
          show idxO b b.stack[i].id < 0
          unfold idxO; omega
        · have e3 : idxO b b.stack[i].id = (k : Int) := by unfold idxO; omega
          obtain ⟨a, k1, k2, k3, _⟩ := ((h.objs.le (Heap.le_trans hle l3))).idx .i64 k (Ob.row o) (by rw [List.getElem?_map, e1]; rfl)
          refine ⟨.pointer (some a), rfl, fun _ => ⟨by rw [e3]; exact k1, rfl, ?_⟩⟩
          have := k3 1 1 (by omega)
          rw [e3]
          have ec : cardAt b (k : Int) = o.card := by simp [cardAt, e1]
          rw [ec]; exact this
      obtain ⟨pv, hpone, hpv⟩ := hpv
      have hon : On [((.bool (decide (idxO b b.stack[i].id < 0)) : Value), false)] → ¬ (idxO b b.stack[i].id < 0) := fun h => by
        have := h.1
        simp at this
        omega
      refine ⟨pv, fun ho => (hpv (hon ho)).1, .inr hpone, ?_⟩
      refine ⟨fun ho => (hpv (hon ho)).2.1, ?_⟩
      repeat (first | refine chkN_den ?_ | refine chkV_den ?_)
      refine ⟨[iV (cardAt b (idxO b b.stack[i].id))], rfl, ⟨rfl, trivial⟩, fun ho => (hpv (hon ho)).2.2, ?_⟩
      repeat (first | refine chkN_den ?_ | refine chkV_den ?_ | refine newbox_den fun _ => ?_ | refine pure_den _ (lss_eq _ _) ?_ | refine pure_den _ (gtr_eq _ _) ?_ | refine pure_den _ (leq_eq _ _) ?_ | refine pure_den _ (geq_eq _ _) ?_ | refine pure_den _ (eql_eq _ _) ?_ | refine pure_den _ (neq_eq _ _) ?_ | refine pure_den _ (pick_and _ _) ?_ | refine pure_den _ (pick_or _ _) ?_ | refine pure_den _ (not_eq' _) ?_ | refine pure_den _ (beql_eq _ _) ?_ | refine pure_den _ (bneq_eq _ _) ?_)
      have hsi : stItem b b.stack[i] = !(decide (idxO b b.stack[i].id < 0) || (cardAt b (idxO b b.stack[i].id) != b.stack[i].card)) := by simp only [stItem, hb, Bool.false_or]
      refine br_den (fun hc => ret_denO ⟨?_, rfl⟩) (fun hc => ?_)
      · have : b.stack.all (stItem b) = false := by rw [hor, hst, hsi, show (decide (idxO b b.stack[i].id < 0) || (cardAt b (idxO b b.stack[i].id) != b.stack[i].card)) = true from hc]; rfl
        rw [foundR, this]; rfl
      · refine pure_den _ (add_one (by omega)) (countY_cont (by simp [Eqs]) hlt ⟨rfl, Heap.le_trans hle l3, ?_, ?_⟩)
        · have : isCard b.stack[i] = true := by simp only [isCard, hb, Bool.not_false]
          rw [take_countP hlt, this]; rfl
        · rw [hor, hst, hsi, show (decide (idxO b b.stack[i].id < 0) || (cardAt b (idxO b b.stack[i].id) != b.stack[i].card)) = false from hc]; rfl
  · have hge : b.stack.length ≤ i := by simpa using hb
    rw [List.take_of_length_le hge] at hci ⊢
    rw [List.drop_of_length_le hge] at hor
    have hfr : foundR b = (objsGoR b none b.objs && (((manyS b + b.stack.countP isCard : Nat) : Int) == (b.objs.length : Int))) := by rw [foundR, hor]; rfl
    replace h := h.le hle
    refine count_den b.objs.length (fun i H'' O'' => O'' = O' ∧ Heap.le H' H'' ∧ objsGoR b none b.objs = objsGoR b (prevId b.objs i) (b.objs.drop i)) ⟨rfl, Heap.le_refl _, by simp [prevId]⟩ ?_
    rintro j H'' O'' hj - ⟨rfl, hle2, hor2⟩
    refine chkN_den (pure_den _ lo (pure_den _ (lss_eq _ _) (br_den (fun hb => ?_) (fun hb => ?_))))
    · have hlt : j < b.objs.length := by simpa using hb
      obtain ⟨a, h1, h2, _, h3, h4⟩ := (h.objs.le hle2).idx .i64 j (Ob.row b.objs[j]) (by simp [hlt])
      refine chkN_den (pure_den _ h1 (load_denR h2 h3 h4 (newbox_den fun r2 => chkN_den (chkN_den (call_retO (r_object_Valid b.objs[j] H'' O'') rfl ⟨rfl, trivial⟩ fun H4 l4 => ?_)))))
      have l4' := Heap.le_trans hle2 l4
      have hp : ∃ (pv : Value) (x : Int), pv.oneCell' = true ∧ (0 < j → evalPure (.idx 12) [v.o, iV ((j : Int) - 1)] = some pv ∧ isPtr pv = true ∧ Reads H4 O'' pv 1 [iV x]) ∧ prevBad (prevId b.objs j) b.objs[j].id = (decide ((j : Int) > 0) && decide (x ≥ b.objs[j].id)) := by
        rcases Nat.eq_zero_or_pos j with rfl | hpos
        · exact ⟨iV 0, 0, rfl, fun h => absurd h (Nat.lt_irrefl 0), by simp [prevId, prevBad]⟩
        · obtain ⟨j', rfl⟩ : ∃ j', j = j' + 1 := ⟨j - 1, by omega⟩
          have hj' : j' < b.objs.length := by omega
          obtain ⟨a, k1, k2, k3, _⟩ := (h.objs.le l4').idx .i64 j' (Ob.row b.objs[j']) (by simp [hj'])
          refine ⟨.pointer (some a), b.objs[j'].id, rfl, fun _ => ⟨?_, rfl, ?_⟩, ?_⟩
          · have e : ((j' + 1 : Nat) : Int) - 1 = (j' : Int) := by omega
            rw [e]; exact k1
          · have := k3 0 1 (by omega)
            have e : ptrAdd (.pointer (some a)) 0 = .pointer (some a) := by simp [ptrAdd, Addr.add]
            rwa [e] at this
          · rw [prev_succ hj']
            have : ((j' + 1 : Nat) : Int) > 0 := by omega
            simp only [prevBad, this, decide_true, Bool.true_and]
      obtain ⟨pv, x, hpone, hpv, hprev⟩ := hp
      have hsub1 : evalPure (.bin .sub .int) [iV j, iV 1] = some (iV ((j : Int) - 1)) := by
        simp only [evalPure, evalBin, evalInt, if_true]
        rw [wrap_id (by omega) (by omega)]
      have hon : ∀ {u : Bool}, On [((.bool (decide ((j : Int) > 0)) : Value), true), (.bool u, false)] → 0 < j := fun h => by
        have := h.1
        simp at this
        omega
      refine pure_den _ (not_eq' _) (chkV_den (pure_den _ (gtr_eq _ _) ?_))
      repeat (first | refine chkN_den ?_ | refine chkV_den ?_ | refine pure_den _ hsub1 ?_)
      refine ⟨pv, fun ho => (hpv (hon ho)).1, .inr hpone, ?_⟩
      refine ⟨fun ho => (hpv (hon ho)).2.1, ?_⟩
      repeat (first | refine chkN_den ?_ | refine chkV_den ?_)
      refine ⟨[iV x], rfl, ⟨rfl, trivial⟩, fun ho => (hpv (hon ho)).2.2, ?_⟩
      repeat (first | refine chkN_den ?_ | refine chkV_den ?_ | refine newbox_den fun _ => ?_ | refine pure_den _ (lss_eq _ _) ?_ | refine pure_den _ (gtr_eq _ _) ?_ | refine pure_den _ (leq_eq _ _) ?_ | refine pure_den _ (geq_eq _ _) ?_ | refine pure_den _ (eql_eq _ _) ?_ | refine pure_den _ (neq_eq _ _) ?_ | refine pure_den _ (pick_and _ _) ?_ | refine pure_den _ (pick_or _ _) ?_ | refine pure_den _ (not_eq' _) ?_ | refine pure_den _ (beql_eq _ _) ?_ | refine pure_den _ (bneq_eq _ _) ?_)
      have hstep : objsGoR b (prevId b.objs j) (b.objs.drop j) = ((!(!validO b.objs[j] || prevBad (prevId b.objs j) b.objs[j].id) && (((placesN b b.objs[j].owner b.objs[j].id : Nat) : Int) == 1)) && objsGoR b (some b.objs[j].id) (b.objs.drop (j + 1))) := by
        rw [List.drop_eq_getElem_cons hlt, objsGoR]
      refine br_den (fun hc => ret_denO ⟨?_, rfl⟩) (fun hc => ?_)
      · rw [hfr, hor2, hstep, hprev, show (!validO b.objs[j] || (decide ((j : Int) > 0) && decide (x ≥ b.objs[j].id))) = true from hc]; rfl
      have hc' : (!validO b.objs[j] || (decide ((j : Int) > 0) && decide (x ≥ b.objs[j].id))) = false := hc
      have hval : validO b.objs[j] = true := by
        have := (Bool.or_eq_false_iff.1 hc').1
        simpa using this
      refine chkN_den (chkN_den (chkN_den (call_retO (r_places (h.le l4') hfit' (validO_owner hval) b.objs[j].id) rfl ⟨rfl, trivial⟩ fun H5 l5 => pure_den _ (neq_eq _ _) (br_den (fun hd => ret_denO ⟨?_, rfl⟩) (fun hd => ?_)))))
      · have : (((placesN b b.objs[j].owner b.objs[j].id : Nat) : Int) == 1) = false := by simpa using hd
        rw [hfr, hor2, hstep, this]; simp
      · have : (((placesN b b.objs[j].owner b.objs[j].id : Nat) : Int) == 1) = true := by simpa using hd
        refine pure_den _ (add_one (by omega)) (count_cont (by simp [Eqs]) hlt ⟨rfl, Heap.le_trans l4' l5, ?_⟩)
        rw [hor2, hstep, hprev, hc', this, prev_succ hlt]; rfl
    · have hge : b.objs.length ≤ j := by simpa using hb
      rw [List.drop_of_length_le hge] at hor2
      refine chkN_den (pure_den _ lo (pure_den _ (eql_eq _ _) (ret_denO ⟨?_, rfl⟩)))
      rw [hfr, hor2]; rfl
end Go.Proofs.YtjaegdkkiefchaaGreatDoor
