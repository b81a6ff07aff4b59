/- Items, counts and places: what the reference says. -/
import Derived.Test.YtjaegdkkiefchaaGreatDoorC9
namespace Go.Proofs.YtjaegdkkiefchaaGreatDoor
open Go Go.Sx
set_option maxRecDepth 100000
set_option maxHeartbeats 1000000

/-- A loop whose second number counts up to n, beside another value. -/
abbrev IY (n : Nat) (R : Nat → Value → Heap → Own → Prop) : List Value → Heap → Own → Prop := fun vs H O => ∃ (i : Nat) (x : Value), vs = [x, iV i] ∧ i ≤ n ∧ R i x H O
abbrev MY (n : Nat) : List Value → Heap → Own → Nat := fun vs _ _ => match g vs 1 with | .int _ k => n - k.toNat | _ => 0
theorem countY_den {P : Program} {lab key : Nat} {x0 : Value} {body : (List Value → Heap → Own → Prop) → List Value → Tree} {H : Heap} {O : Own} {Q : Value → Heap → Own → Prop} (n : Nat) (R : Nat → Value → Heap → Own → Prop)
    (h0 : R 0 x0 H O) (step : ∀ i x H' O', i ≤ n → Heap.le H H' → R i x H' O' → (body (Back (IY n R) (MY n) (n - i)) [x, iV i]).den P Q H' O') :
    (Tree.loop lab key [x0, .int .i64 0] body).den P Q H O := by
  refine loop_den (IY n R) (MY n) ⟨0, x0, rfl, Nat.zero_le _, h0⟩ ?_
  rintro vs H' O' _ _ hle ⟨i, x, rfl, hi, hr⟩
  exact step i x H' O' hi hle hr
theorem countY_cont {P : Program} {lab n i : Nat} {R : Nat → Value → Heap → Own → Prop} {x : Value} {eqs : List (List Value × List Value)} {H : Heap} {O : Own} {Q : Value → Heap → Own → Prop} (he : Eqs eqs) (hi : i < n) (hr : R (i + 1) x H O) :
    (Tree.cont lab (Back (IY n R) (MY n) (n - i)) [x, iV ((i + 1 : Nat) : Int)] eqs).den P Q H O := by
  refine cont_den he ⟨i + 1, x, rfl, hi, hr⟩ ?_
  show n - ((i + 1 : Nat) : Int).toNat < n - i
  simp; omega
theorem take_count {α : Type} [BEq α] [LawfulBEq α] {l : List α} {i : Nat} (h : i < l.length) (n : α) : (l.take (i + 1)).count n = (l.take i).count n + (if l[i] == n then 1 else 0) := by
  rw [List.take_add_one, List.getElem?_eq_getElem h, Option.toList_some, List.count_append, List.count_singleton]
theorem r_Count {H : Heap} {O : Own} {v : Value} {l : List Int} (h : RSl H O 1 v (ints l)) (n : Int) : RetO PP F_zeitnotref15_Count [v, iV n] H O (iV ((l.count n : Nat) : Int)) := by
  refine run_zeitnotref15_Count (vs := [v, iV n]) (by kernel_rfl) ⟨h.one, rfl, trivial⟩ ?_
  simp only [T_zeitnotref15_Count]
  have hlen := h.len
  rw [ints, List.length_map] at hlen
  have hB := h.lenB
  simp only [ints, List.length_map] at hB
  refine countY_den l.length (fun i x H' O' => O' = O ∧ Heap.le H H' ∧ x = iV (((l.take i).count n : Nat) : Int)) ⟨rfl, Heap.le_refl H, by simp⟩ ?_
  rintro i x H' O' hi - ⟨rfl, hle, rfl⟩
  have hci : (l.take i).count n ≤ i := Nat.le_trans List.count_le_length (by simp; omega)
  refine pure_den _ hlen (pure_den _ (lss_eq _ _) (br_den (fun hb => ?_) (fun hb => ?_)))
  · have hlt : i < l.length := by simpa using hb
    obtain ⟨a, h1, h2, _, h3, h4⟩ := (h.le hle).idx .i64 i [iV l[i]] (by simp [ints, hlt])
    refine pure_den _ h1 (load_denR h2 h3 h4 (pure_den _ (eql_eq _ _) (br_den (fun hb => ?_) (fun hb => ?_))))
    · refine pure_den _ (add_one (by omega)) (pure_den _ (add_one (by omega)) (countY_cont (by simp [Eqs]) hlt ⟨rfl, hle, ?_⟩))
      rw [take_count hlt, hb]; rfl
    · refine pure_den _ (add_one (by omega)) (countY_cont (by simp [Eqs]) hlt ⟨rfl, hle, ?_⟩)
      rw [take_count hlt, hb]; rfl
  · have : l.length ≤ i := by simpa using hb
    refine ret_denO ⟨?_, rfl⟩
    rw [List.take_of_length_le this]; rfl
def idxO (b : Bd) (id : Int) : Int := idxP (fun o => o.id == id) b.objs 0
theorem r_Index {H : Heap} {O : Own} {v : BV12} {b : Bd} (h : BdR H O v b) (id : Int) : RetO PP F_zeitnotref15_Index [.agg (boardC v b).toArray, iV id] H O (iV (idxO b id)) := by
  refine run_zeitnotref15_Index (vs := boardC v b ++ [iV id]) (by kernel_rfl) (ones_app (boardC_ones h) ⟨rfl, trivial⟩) ?_
  simp only [T_zeitnotref15_Index]
  have lo := h.objs.len
  have hB := h.objs.lenB
  rw [List.length_map] at lo hB
  refine newbox_den fun r0 => count_den b.objs.length (fun i H' O' => O' = O ∧ Heap.le H H' ∧ idxO b id = idxP (fun o => o.id == id) (b.objs.drop i) i) ⟨rfl, Heap.le_refl H, by simp [idxO]⟩ ?_
  rintro i H' O' hi - ⟨rfl, hle, hor⟩
  refine chkN_den (pure_den _ lo (pure_den _ (lss_eq _ _) (br_den (fun hb => ?_) (fun hb => ?_))))
  · have hlt : i < b.objs.length := by simpa using hb
    obtain ⟨a, h1, h2, h5, h3, h4⟩ := (h.objs.le hle).idx .i64 i (Ob.row b.objs[i]) (by simp [hlt])
    have hr : Reads H' O' (.pointer (some a)) 1 [iV b.objs[i].id] := by
      have := h5 0 1 (by omega)
      have e : ptrAdd (.pointer (some a)) 0 = .pointer (some a) := by simp [ptrAdd, Addr.add]
      rwa [e] at this
    refine chkN_den (pure_den _ h1 (chkP_den rfl (load_denR hr rfl ⟨rfl, trivial⟩ (pure_den _ (eql_eq _ _) (br_den (fun hb => ?_) (fun hb => ?_))))))
    · refine ret_denO ⟨?_, rfl⟩
      rw [hor, List.drop_eq_getElem_cons hlt, idxP, if_pos hb]; rfl
    · refine pure_den _ (add_one (by omega)) (count_cont (by simp [Eqs]) hlt ⟨rfl, hle, ?_⟩)
      rw [hor, List.drop_eq_getElem_cons hlt, idxP, if_neg (by rw [hb]; simp)]; rfl
  · have hge : b.objs.length ≤ i := by simpa using hb
    refine ret_denO ⟨?_, rfl⟩
    rw [hor, List.drop_of_length_le hge]; rfl
theorem r_Item {H : Heap} {O : Own} {row : List Value} {x : It} (h : ItR H O row x) (q : Bool) : RetO PP F_zeitnotref15_Item [.agg row.toArray, .bool q] H O (.bool (fineB x q)) := by
  obtain ⟨s, rfl, hs⟩ := h
  refine run_zeitnotref15_Item (vs := [iV x.player, iV x.id, iV x.card, iV x.trig, s, .bool q]) (by kernel_rfl) ⟨rfl, rfl, rfl, rfl, hs.one, rfl, trivial⟩ ?_
  simp only [T_zeitnotref15_Item]
  have lt := hs.len
  have hB := hs.lenB
  rw [List.length_map] at lt hB
  have e4 : ∀ {k : Value → Tree} {Q : Value → Heap → Own → Prop} {H' : Heap} {O' : Own}, (k (iV x.tgs.length)).den PP Q H' O' → (Tree.pure [] .len [g [iV x.player, iV x.id, iV x.card, iV x.trig, s, Value.bool q] 4] k).den PP Q H' O' := fun hk => pure_den _ lt hk
  repeat (first | refine chkN_den ?_ | refine chkV_den ?_ | refine newbox_den fun _ => ?_ | refine pure_den _ (lss_eq _ _) ?_ | refine pure_den _ (gtr_eq _ _) ?_ | refine pure_den _ (leq_eq _ _) ?_ | refine pure_den _ (geq_eq _ _) ?_ | refine pure_den _ (eql_eq _ _) ?_ | refine pure_den _ (neq_eq _ _) ?_ | refine pure_den _ (pick_and _ _) ?_ | refine pure_den _ (pick_or _ _) ?_ | refine pure_den _ (not_eq' _) ?_ | refine pure_den _ (beql_eq _ _) ?_ | refine pure_den _ (bneq_eq _ _) ?_)
  refine e4 ?_
  repeat (first | refine chkN_den ?_ | refine chkV_den ?_ | refine newbox_den fun _ => ?_ | refine pure_den _ (lss_eq _ _) ?_ | refine pure_den _ (gtr_eq _ _) ?_ | refine pure_den _ (leq_eq _ _) ?_ | refine pure_den _ (geq_eq _ _) ?_ | refine pure_den _ (eql_eq _ _) ?_ | refine pure_den _ (neq_eq _ _) ?_ | refine pure_den _ (pick_and _ _) ?_ | refine pure_den _ (pick_or _ _) ?_ | refine pure_den _ (not_eq' _) ?_ | refine pure_den _ (beql_eq _ _) ?_ | refine pure_den _ (bneq_eq _ _) ?_)
  have fiff : fineB x q = true ↔ (0 ≤ x.player ∧ x.player ≤ 1) ∧ (1 ≤ x.id ∧ x.id ≤ 500) ∧ (0 ≤ x.card ∧ x.card ≤ 399) ∧ (-1 ≤ x.trig ∧ x.trig ≤ 1) ∧ (x.tgs.length ≤ 4 ∧ ¬ (0 ≤ x.trig ∧ 0 < x.tgs.length) ∧ ¬ (q = true ∧ x.trig < 0)) ∧ (x.tgs.any fun t => !aimedB t) = false := by
    simp only [fineB, withinB, Bool.and_eq_true, Bool.not_eq_true', Bool.or_eq_false_iff, Bool.and_eq_false_iff, decide_eq_true_eq, decide_eq_false_iff_not]
    generalize (x.tgs.any fun t => !aimedB t) = c
    cases q <;> simp only [Bool.false_eq_true, false_and, true_and, not_false_eq_true, and_true, reduceCtorEq, or_false, false_or, true_or] <;> constructor <;> intro e <;> (try obtain ⟨e1, e2, e3, e4, e5, e6⟩ := e) <;> (try refine ⟨?_, ?_, ?_, ?_, ?_, ?_⟩) <;> first | omega | assumption
  refine br_den (fun h1 => ret_denO ⟨boolV ?_, rfl⟩) (fun h1 => ?_)
  · rw [fiff]
    simp only [Bool.or_eq_true, decide_eq_true_eq] at h1
    refine ⟨fun e => (by cases e), fun ⟨e1, e2, e3, e4, e5, e6⟩ => ?_⟩
    omega
  simp only [Bool.or_eq_false_iff, decide_eq_false_iff_not] at h1
  repeat (first | refine chkN_den ?_ | refine chkV_den ?_ | refine newbox_den fun _ => ?_ | refine pure_den _ (lss_eq _ _) ?_ | refine pure_den _ (gtr_eq _ _) ?_ | refine pure_den _ (leq_eq _ _) ?_ | refine pure_den _ (geq_eq _ _) ?_ | refine pure_den _ (eql_eq _ _) ?_ | refine pure_den _ (neq_eq _ _) ?_ | refine pure_den _ (pick_and _ _) ?_ | refine pure_den _ (pick_or _ _) ?_ | refine pure_den _ (not_eq' _) ?_ | refine pure_den _ (beql_eq _ _) ?_ | refine pure_den _ (bneq_eq _ _) ?_)
  refine e4 ?_
  repeat (first | refine chkN_den ?_ | refine chkV_den ?_ | refine newbox_den fun _ => ?_ | refine pure_den _ (lss_eq _ _) ?_ | refine pure_den _ (gtr_eq _ _) ?_ | refine pure_den _ (leq_eq _ _) ?_ | refine pure_den _ (geq_eq _ _) ?_ | refine pure_den _ (eql_eq _ _) ?_ | refine pure_den _ (neq_eq _ _) ?_ | refine pure_den _ (pick_and _ _) ?_ | refine pure_den _ (pick_or _ _) ?_ | refine pure_den _ (not_eq' _) ?_ | refine pure_den _ (beql_eq _ _) ?_ | refine pure_den _ (bneq_eq _ _) ?_)
  refine br_den (fun h2 => ret_denO ⟨boolV ?_, rfl⟩) (fun h2 => ?_)
  · rw [fiff]
    simp only [Bool.or_eq_true, Bool.and_eq_true, decide_eq_true_eq] at h2
    refine ⟨fun e => (by cases e), fun ⟨e1, e2, e3, e4, ⟨e5, e6, e7⟩, e8⟩ => ?_⟩
    rcases h2 with h2 | h2
    · omega
    · exact absurd h2 e7
  simp only [Bool.or_eq_false_iff, Bool.and_eq_false_iff, decide_eq_false_iff_not] at h2
  have hfin : (Value.bool (!(x.tgs.any fun t => !aimedB t)) : Value) = .bool (fineB x q) := by
    refine boolV ?_
    rw [fiff, Bool.not_eq_true']
    refine ⟨fun e => ⟨by omega, by omega, by omega, by omega, ⟨by omega, by omega, fun e' => ?_⟩, e⟩, fun e => e.2.2.2.2.2⟩
    rcases h2.2 with h3 | h3
    · rw [h3] at e'; cases e'.1
    · exact h3 e'.2
  refine count_den x.tgs.length (fun i H' O' => O' = O ∧ Heap.le H H' ∧ (x.tgs.any fun t => !aimedB t) = ((x.tgs.drop i).any fun t => !aimedB t)) ⟨rfl, Heap.le_refl H, rfl⟩ ?_
  rintro i H' O' hi - ⟨rfl, hle, hor⟩
  refine chkN_den (e4 (pure_den _ (lss_eq _ _) (br_den (fun hb => ?_) (fun hb => ?_))))
  · have hlt : i < x.tgs.length := by simpa using hb
    obtain ⟨a, k1, k2, _, k3, k4⟩ := (hs.le hle).idx .i64 i (Tg.row x.tgs[i]) (by simp [hlt])
    refine chkN_den (pure_den _ k1 (load_denR k2 k3 k4 ?_))
    repeat (first | refine chkN_den ?_ | refine chkV_den ?_ | refine newbox_den fun _ => ?_ | refine pure_den _ (lss_eq _ _) ?_ | refine pure_den _ (gtr_eq _ _) ?_ | refine pure_den _ (leq_eq _ _) ?_ | refine pure_den _ (geq_eq _ _) ?_ | refine pure_den _ (eql_eq _ _) ?_ | refine pure_den _ (neq_eq _ _) ?_ | refine pure_den _ (pick_and _ _) ?_ | refine pure_den _ (pick_or _ _) ?_ | refine pure_den _ (not_eq' _) ?_ | refine pure_den _ (beql_eq _ _) ?_ | refine pure_den _ (bneq_eq _ _) ?_)
    have hst : ((x.tgs.drop i).any fun t => !aimedB t) = (!aimedB x.tgs[i] || ((x.tgs.drop (i + 1)).any fun t => !aimedB t)) := by rw [List.drop_eq_getElem_cons hlt, List.any_cons]
    refine br_den (fun hb => ret_denO ⟨?_, rfl⟩) (fun hb => ?_)
    · have : aimedB x.tgs[i] = false := by simp [aimedB, withinB] at hb ⊢; omega
      rw [← hfin, hor, hst, this]; rfl
    · have : aimedB x.tgs[i] = true := by simp [aimedB, withinB] at hb ⊢; omega
      refine pure_den _ (add_one (by omega)) (count_cont (by simp [Eqs]) hlt ⟨rfl, hle, ?_⟩)
      rw [hor, hst, this]; rfl
  · have hge : x.tgs.length ≤ i := by simpa using hb
    refine ret_denO ⟨?_, rfl⟩
    rw [← hfin, hor, List.drop_of_length_le hge]; rfl
end Go.Proofs.YtjaegdkkiefchaaGreatDoor
