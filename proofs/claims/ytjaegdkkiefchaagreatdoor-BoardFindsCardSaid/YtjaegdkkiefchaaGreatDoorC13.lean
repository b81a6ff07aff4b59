/- Attackers and blocks: what the reference says. -/
import Derived.Test.YtjaegdkkiefchaaGreatDoorC12
namespace Go.Proofs.YtjaegdkkiefchaaGreatDoor
open Go Go.Sx
set_option maxRecDepth 100000
set_option maxHeartbeats 1000000

def attR (own att : List Int) (x : Int) : Bool := ((((att.count x : Nat) : Int) == 1) && (((own.count x : Nat) : Int) == 1))
def crossB (x y : Bl) : Bool := (y.attacker == x.attacker) || (y.blocker == x.blocker)
def blkOne (att other : List Int) (done : List Bl) (x : Bl) : Bool := (((att.count x.attacker : Nat) : Int) == 1) && ((((other.count x.blocker : Nat) : Int) == 1) && done.all fun y => !crossB x y)
def blkR (att other : List Int) : List Bl → List Bl → Bool
  | _, [] => true
  | done, x :: r => blkOne att other done x && blkR att other (done ++ [x]) r
def fightsRf (own other att : List Int) (bl : List Bl) : Bool := att.all (attR own att) && blkR att other [] bl
def fightsRB (b : Bd) : Bool := if b.active = 0 then fightsRf b.s0.field b.s1.field b.att b.blocks else fightsRf b.s1.field b.s0.field b.att b.blocks
theorem count1 {l : List Int} {x : Int} {c : Bool} (h : (((l.count x : Nat) : Int) != 1) = c) : (((l.count x : Nat) : Int) == 1) = !c := by rw [← h, bne, Bool.not_not]
theorem r_fights {H : Heap} {O : Own} {v : BV12} {b : Bd} (h : BdR H O v b) (ha : b.active = 0 ∨ b.active = 1) : RetO PP F_zeitnotref15_fights [.agg (boardC v b).toArray] H O (.bool (fightsRB b)) := by
  refine run_zeitnotref15_fights (vs := boardC v b) (by kernel_rfl) (boardC_ones h) ?_
  simp only [T_zeitnotref15_fights]
  have e34 : g (boardC v b) 34 = iV b.active := rfl
  rw [e34]
  have hs : ∀ n : Int, n = 0 ∨ n = 1 → evalPure (.bin .sub .int) [iV 1, iV n] = some (iV (1 - n)) := by
    rintro n (rfl | rfl) <;> rfl
  have la := h.att.len
  have laB := h.att.lenB
  have lb := h.blocks.len
  have lbB := h.blocks.lenB
  simp only [ints, List.length_map] at la laB lb lbB
  rcases ha with ha | ha
  · rw [ha]
    have hF : fightsRB b = (b.att.all (attR b.s0.field b.att) && blkR b.att b.s1.field [] b.blocks) := by simp [fightsRB, fightsRf, ha]
    refine newbox_den fun r0 => count_den b.att.length (fun i H' O' => O' = O ∧ Heap.le H H' ∧ b.att.all (attR b.s0.field b.att) = (b.att.drop i).all (attR b.s0.field b.att)) ⟨rfl, Heap.le_refl H, rfl⟩ ?_
    rintro i H' O' hi - ⟨rfl, hle, hor⟩
    refine chkN_den (pure_den _ la (pure_den _ (lss_eq _ _) (br_den (fun hb => ?_) (fun hb => ?_))))
    · have hlt : i < b.att.length := by simpa using hb
      have hst : (b.att.drop i).all (attR b.s0.field b.att) = (attR b.s0.field b.att b.att[i] && (b.att.drop (i + 1)).all (attR b.s0.field b.att)) := by rw [List.drop_eq_getElem_cons hlt, List.all_cons]
      obtain ⟨a, h1, h2, _, h3, h4⟩ := (h.att.le hle).idx .i64 i [iV b.att[i]] (by simp [ints, hlt])
      refine chkN_den (chkN_den (pure_den _ h1 (load_denR h2 h3 h4 (call_retO (r_Count (h.att.le hle) b.att[i]) rfl ⟨rfl, trivial⟩ fun H1 l1 => pure_den _ (neq_eq _ _) (br_den (fun hc => ret_denO ⟨?_, rfl⟩) (fun hc => chkN_den ?_))))))
      · rw [hF, hor, hst, attR, count1 hc]; rfl
      refine ⟨.i64, 0, rfl, fun _ => ?_, fun e => absurd rfl e⟩
      have l1' := Heap.le_trans hle l1
      obtain ⟨a, h1, h2, _, h3, h4⟩ := (h.att.le l1').idx .i64 i [iV b.att[i]] (by simp [ints, hlt])
      refine chkN_den (chkN_den (pure_den _ h1 (load_denR h2 h3 h4 (call_retO (r_Count (h.s0.field.le l1') b.att[i]) rfl ⟨rfl, trivial⟩ fun H2 l2 => pure_den _ (neq_eq _ _) (br_den (fun hd => ret_denO ⟨?_, rfl⟩) (fun hd => ?_))))))
      · rw [hF, hor, hst, attR, count1 hc, count1 hd]; rfl
      · refine pure_den _ (add_one (by omega)) (count_cont (by simp [Eqs]) hlt ⟨rfl, Heap.le_trans l1' l2, ?_⟩)
        rw [hor, hst, attR, count1 hc, count1 hd]; rfl
    · have hge : b.att.length ≤ i := by simpa using hb
      rw [List.drop_of_length_le hge] at hor
      have hF2 : fightsRB b = blkR b.att b.s1.field [] b.blocks := by rw [hF, hor]; rfl
      refine count_den b.blocks.length (fun j H'' O'' => O'' = O' ∧ Heap.le H' H'' ∧ blkR b.att b.s1.field [] b.blocks = blkR b.att b.s1.field (b.blocks.take j) (b.blocks.drop j)) ⟨rfl, Heap.le_refl _, rfl⟩ ?_
      rintro j H'' O'' hj - ⟨rfl, hle2, hor2⟩
      have hle2 := Heap.le_trans hle hle2
      refine chkN_den (pure_den _ lb (pure_den _ (lss_eq _ _) (br_den (fun hb => ?_) (fun hb => ?_))))
      · have hlt : j < b.blocks.length := by simpa using hb
        obtain ⟨a, h1, h2, _, h3, h4⟩ := (h.blocks.le hle2).idx .i64 j (Bl.row b.blocks[j]) (by simp [hlt])
        have hst : blkR b.att b.s1.field (b.blocks.take j) (b.blocks.drop j) = (blkOne b.att b.s1.field (b.blocks.take j) b.blocks[j] && blkR b.att b.s1.field (b.blocks.take (j + 1)) (b.blocks.drop (j + 1))) := by
          rw [List.drop_eq_getElem_cons hlt, blkR, List.take_add_one, List.getElem?_eq_getElem hlt]; rfl
        refine chkN_den (pure_den _ h1 (load_denR h2 h3 h4 (newbox_den fun r1 => chkN_den (chkN_den (chkN_den (call_retO (r_Count (h.att.le hle2) b.blocks[j].attacker) rfl ⟨rfl, trivial⟩ fun H1 l1 => pure_den _ (neq_eq _ _) (br_den (fun hc => ret_denO ⟨?_, rfl⟩) (fun hc => chkN_den (pure_den _ (hs _ (.inl rfl)) ?_)))))))))
        · rw [hF2, hor2, hst, blkOne, count1 hc]; rfl
        refine ⟨.i64, 1, rfl, fun e => absurd e (by omega), fun _ => ⟨.i64, 1, rfl, fun _ => ?_, fun e => absurd rfl e⟩⟩
        have l1' := Heap.le_trans hle2 l1
        refine chkN_den (chkN_den (call_retO (r_Count (h.s1.field.le l1') b.blocks[j].blocker) rfl ⟨rfl, trivial⟩ fun H2 l2 => pure_den _ (neq_eq _ _) (br_den (fun hd => ret_denO ⟨?_, rfl⟩) (fun hd => ?_))))
        · rw [hF2, hor2, hst, blkOne, count1 hc, count1 hd]; rfl
        have l2' := Heap.le_trans l1' l2
        have hone : blkOne b.att b.s1.field (b.blocks.take j) b.blocks[j] = (b.blocks.take j).all fun y => !crossB b.blocks[j] y := by rw [blkOne, count1 hc, count1 hd]; rfl
        refine count_den j (fun k H3 O3 => O3 = O'' ∧ Heap.le H2 H3 ∧ ((b.blocks.take j).all fun y => !crossB b.blocks[j] y) = (((b.blocks.take j).drop k).all fun y => !crossB b.blocks[j] y)) ⟨rfl, Heap.le_refl _, rfl⟩ ?_
        rintro k H3 O3 hk - ⟨rfl, hle3, hor3⟩
        have hle3 := Heap.le_trans l2' hle3
        refine pure_den _ (lss_eq _ _) (br_den (fun hb => ?_) (fun hb => ?_))
        · have hltk : k < j := by simpa using hb
          have hltb : k < b.blocks.length := by omega
          have hst3 : (((b.blocks.take j).drop k).all fun y => !crossB b.blocks[j] y) = (!crossB b.blocks[j] b.blocks[k] && (((b.blocks.take j).drop (k + 1)).all fun y => !crossB b.blocks[j] y)) := by
            rw [List.drop_eq_getElem_cons (by simp; omega), List.all_cons, List.getElem_take]
          obtain ⟨a, k1, _, k3, _⟩ := (h.blocks.le hle3).idx .i64 k (Bl.row b.blocks[k]) (by simp [hltb])
          have hr1 : Reads H3 O3 (ptrAdd (.pointer (some a)) 1) 1 [iV b.blocks[k].attacker] := k3 1 1 (by omega)
          have hr0 : Reads H3 O3 (.pointer (some a)) 1 [iV b.blocks[k].blocker] := by
            have := k3 0 1 (by omega)
            have e : ptrAdd (.pointer (some a)) 0 = .pointer (some a) := by simp [ptrAdd, Addr.add]
            rwa [e] at this
          refine chkN_den (pure_den _ k1 (chkP_den rfl (load_denR hr1 rfl ⟨rfl, trivial⟩ (chkN_den (pure_den _ (eql_eq _ _) ?_)))))
          repeat (first | refine chkN_den ?_ | refine chkV_den ?_)
          refine pure_denG k1 rfl (chkP_den rfl ?_)
          repeat (first | refine chkN_den ?_ | refine chkV_den ?_)
          refine ⟨[iV b.blocks[k].blocker], rfl, ⟨rfl, trivial⟩, fun _ => hr0, ?_⟩
          repeat (first | refine chkN_den ?_ | refine chkV_den ?_ | refine newbox_den fun _ => ?_ | refine pure_den _ (lss_eq _ _) ?_ | refine pure_den _ (gtr_eq _ _) ?_ | refine pure_den _ (leq_eq _ _) ?_ | refine pure_den _ (geq_eq _ _) ?_ | refine pure_den _ (eql_eq _ _) ?_ | refine pure_den _ (neq_eq _ _) ?_ | refine pure_den _ (pick_and _ _) ?_ | refine pure_den _ (pick_or _ _) ?_ | refine pure_den _ (not_eq' _) ?_ | refine pure_den _ (beql_eq _ _) ?_ | refine pure_den _ (bneq_eq _ _) ?_)
          refine br_den (fun hx => ret_denO ⟨?_, rfl⟩) (fun hx => ?_)
          · rw [hF2, hor2, hst, hone, hor3, hst3, show crossB b.blocks[j] b.blocks[k] = true from hx]; rfl
          · refine pure_den _ (add_one (by omega)) (count_cont (by simp [Eqs]) hltk ⟨rfl, Heap.le_trans (Heap.le_refl _) ?_, ?_⟩)
            · assumption
            · rw [hor3, hst3, show crossB b.blocks[j] b.blocks[k] = false from hx]; rfl
        · have hke : (b.blocks.take j).length ≤ k := by
            have : j ≤ k := by simpa using hb
            simp; omega
          rw [List.drop_of_length_le hke] at hor3
          refine pure_den _ (add_one (by omega)) (count_cont (by simp [Eqs]) hlt ⟨rfl, ?_, ?_⟩)
          · exact Heap.le_trans (by assumption) (Heap.le_trans l1 (Heap.le_trans l2 (by assumption)))
          · rw [hor2, hst, hone, hor3]; rfl
      · have hge2 : b.blocks.length ≤ j := by simpa using hb
        refine ret_denO ⟨?_, rfl⟩
        rw [hF2, hor2, List.drop_of_length_le hge2]; rfl
  · rw [ha]
    have hF : fightsRB b = (b.att.all (attR b.s1.field b.att) && blkR b.att b.s0.field [] b.blocks) := by simp [fightsRB, fightsRf, ha]
    refine newbox_den fun r0 => count_den b.att.length (fun i H' O' => O' = O ∧ Heap.le H H' ∧ b.att.all (attR b.s1.field b.att) = (b.att.drop i).all (attR b.s1.field b.att)) ⟨rfl, Heap.le_refl H, rfl⟩ ?_
    rintro i H' O' hi - ⟨rfl, hle, hor⟩
    refine chkN_den (pure_den _ la (pure_den _ (lss_eq _ _) (br_den (fun hb => ?_) (fun hb => ?_))))
    · have hlt : i < b.att.length := by simpa using hb
      have hst : (b.att.drop i).all (attR b.s1.field b.att) = (attR b.s1.field b.att b.att[i] && (b.att.drop (i + 1)).all (attR b.s1.field b.att)) := by rw [List.drop_eq_getElem_cons hlt, List.all_cons]
      obtain ⟨a, h1, h2, _, h3, h4⟩ := (h.att.le hle).idx .i64 i [iV b.att[i]] (by simp [ints, hlt])
      refine chkN_den (chkN_den (pure_den _ h1 (load_denR h2 h3 h4 (call_retO (r_Count (h.att.le hle) b.att[i]) rfl ⟨rfl, trivial⟩ fun H1 l1 => pure_den _ (neq_eq _ _) (br_den (fun hc => ret_denO ⟨?_, rfl⟩) (fun hc => chkN_den ?_))))))
      · rw [hF, hor, hst, attR, count1 hc]; rfl
      refine ⟨.i64, 1, rfl, fun e => absurd e (by omega), fun _ => ⟨.i64, 1, rfl, fun _ => ?_, fun e => absurd rfl e⟩⟩
      have l1' := Heap.le_trans hle l1
      obtain ⟨a, h1, h2, _, h3, h4⟩ := (h.att.le l1').idx .i64 i [iV b.att[i]] (by simp [ints, hlt])
      refine chkN_den (chkN_den (pure_den _ h1 (load_denR h2 h3 h4 (call_retO (r_Count (h.s1.field.le l1') b.att[i]) rfl ⟨rfl, trivial⟩ fun H2 l2 => pure_den _ (neq_eq _ _) (br_den (fun hd => ret_denO ⟨?_, rfl⟩) (fun hd => ?_))))))
      · rw [hF, hor, hst, attR, count1 hc, count1 hd]; rfl
      · refine pure_den _ (add_one (by omega)) (count_cont (by simp [Eqs]) hlt ⟨rfl, Heap.le_trans l1' l2, ?_⟩)
        rw [hor, hst, attR, count1 hc, count1 hd]; rfl
    · have hge : b.att.length ≤ i := by simpa using hb
      rw [List.drop_of_length_le hge] at hor
      have hF2 : fightsRB b = blkR b.att b.s0.field [] b.blocks := by rw [hF, hor]; rfl
      refine count_den b.blocks.length (fun j H'' O'' => O'' = O' ∧ Heap.le H' H'' ∧ blkR b.att b.s0.field [] b.blocks = blkR b.att b.s0.field (b.blocks.take j) (b.blocks.drop j)) ⟨rfl, Heap.le_refl _, rfl⟩ ?_
      rintro j H'' O'' hj - ⟨rfl, hle2, hor2⟩
      have hle2 := Heap.le_trans hle hle2
      refine chkN_den (pure_den _ lb (pure_den _ (lss_eq _ _) (br_den (fun hb => ?_) (fun hb => ?_))))
      · have hlt : j < b.blocks.length := by simpa using hb
        obtain ⟨a, h1, h2, _, h3, h4⟩ := (h.blocks.le hle2).idx .i64 j (Bl.row b.blocks[j]) (by simp [hlt])
        have hst : blkR b.att b.s0.field (b.blocks.take j) (b.blocks.drop j) = (blkOne b.att b.s0.field (b.blocks.take j) b.blocks[j] && blkR b.att b.s0.field (b.blocks.take (j + 1)) (b.blocks.drop (j + 1))) := by
          rw [List.drop_eq_getElem_cons hlt, blkR, List.take_add_one, List.getElem?_eq_getElem hlt]; rfl
        refine chkN_den (pure_den _ h1 (load_denR h2 h3 h4 (newbox_den fun r1 => chkN_den (chkN_den (chkN_den (call_retO (r_Count (h.att.le hle2) b.blocks[j].attacker) rfl ⟨rfl, trivial⟩ fun H1 l1 => pure_den _ (neq_eq _ _) (br_den (fun hc => ret_denO ⟨?_, rfl⟩) (fun hc => chkN_den (pure_den _ (hs _ (.inr rfl)) ?_)))))))))
        · rw [hF2, hor2, hst, blkOne, count1 hc]; rfl
        refine ⟨.i64, 0, rfl, fun _ => ?_, fun e => absurd rfl e⟩
        have l1' := Heap.le_trans hle2 l1
        refine chkN_den (chkN_den (call_retO (r_Count (h.s0.field.le l1') b.blocks[j].blocker) rfl ⟨rfl, trivial⟩ fun H2 l2 => pure_den _ (neq_eq _ _) (br_den (fun hd => ret_denO ⟨?_, rfl⟩) (fun hd => ?_))))
        · rw [hF2, hor2, hst, blkOne, count1 hc, count1 hd]; rfl
        have l2' := Heap.le_trans l1' l2
        have hone : blkOne b.att b.s0.field (b.blocks.take j) b.blocks[j] = (b.blocks.take j).all fun y => !crossB b.blocks[j] y := by rw [blkOne, count1 hc, count1 hd]; rfl
        refine count_den j (fun k H3 O3 => O3 = O'' ∧ Heap.le H2 H3 ∧ ((b.blocks.take j).all fun y => !crossB b.blocks[j] y) = (((b.blocks.take j).drop k).all fun y => !crossB b.blocks[j] y)) ⟨rfl, Heap.le_refl _, rfl⟩ ?_
        rintro k H3 O3 hk - ⟨rfl, hle3, hor3⟩
        have hle3 := Heap.le_trans l2' hle3
        refine pure_den _ (lss_eq _ _) (br_den (fun hb => ?_) (fun hb => ?_))
        · have hltk : k < j := by simpa using hb
          have hltb : k < b.blocks.length := by omega
          have hst3 : (((b.blocks.take j).drop k).all fun y => !crossB b.blocks[j] y) = (!crossB b.blocks[j] b.blocks[k] && (((b.blocks.take j).drop (k + 1)).all fun y => !crossB b.blocks[j] y)) := by
            rw [List.drop_eq_getElem_cons (by simp; omega), List.all_cons, List.getElem_take]
          obtain ⟨a, k1, _, k3, _⟩ := (h.blocks.le hle3).idx .i64 k (Bl.row b.blocks[k]) (by simp [hltb])
          have hr1 : Reads H3 O3 (ptrAdd (.pointer (some a)) 1) 1 [iV b.blocks[k].attacker] := k3 1 1 (by omega)
          have hr0 : Reads H3 O3 (.pointer (some a)) 1 [iV b.blocks[k].blocker] := by
            have := k3 0 1 (by omega)
            have e : ptrAdd (.pointer (some a)) 0 = .pointer (some a) := by simp [ptrAdd, Addr.add]
            rwa [e] at this
          refine chkN_den (pure_den _ k1 (chkP_den rfl (load_denR hr1 rfl ⟨rfl, trivial⟩ (chkN_den (pure_den _ (eql_eq _ _) ?_)))))
          repeat (first | refine chkN_den ?_ | refine chkV_den ?_)
          refine pure_denG k1 rfl (chkP_den rfl ?_)
          repeat (first | refine chkN_den ?_ | refine chkV_den ?_)
          refine ⟨[iV b.blocks[k].blocker], rfl, ⟨rfl, trivial⟩, fun _ => hr0, ?_⟩
          repeat (first | refine chkN_den ?_ | refine chkV_den ?_ | refine newbox_den fun _ => ?_ | refine pure_den _ (lss_eq _ _) ?_ | refine pure_den _ (gtr_eq _ _) ?_ | refine pure_den _ (leq_eq _ _) ?_ | refine pure_den _ (geq_eq _ _) ?_ | refine pure_den _ (eql_eq _ _) ?_ | refine pure_den _ (neq_eq _ _) ?_ | refine pure_den _ (pick_and _ _) ?_ | refine pure_den _ (pick_or _ _) ?_ | refine pure_den _ (not_eq' _) ?_ | refine pure_den _ (beql_eq _ _) ?_ | refine pure_den _ (bneq_eq _ _) ?_)
          refine br_den (fun hx => ret_denO ⟨?_, rfl⟩) (fun hx => ?_)
          · rw [hF2, hor2, hst, hone, hor3, hst3, show crossB b.blocks[j] b.blocks[k] = true from hx]; rfl
          · refine pure_den _ (add_one (by omega)) (count_cont (by simp [Eqs]) hltk ⟨rfl, Heap.le_trans (Heap.le_refl _) ?_, ?_⟩)
            · assumption
            · rw [hor3, hst3, show crossB b.blocks[j] b.blocks[k] = false from hx]; rfl
        · have hke : (b.blocks.take j).length ≤ k := by
            have : j ≤ k := by simpa using hb
            simp; omega
          rw [List.drop_of_length_le hke] at hor3
          refine pure_den _ (add_one (by omega)) (count_cont (by simp [Eqs]) hlt ⟨rfl, ?_, ?_⟩)
          · exact Heap.le_trans (by assumption) (Heap.le_trans l1 (Heap.le_trans l2 (by assumption)))
          · rw [hor2, hst, hone, hor3]; rfl
      · have hge2 : b.blocks.length ≤ j := by simpa using hb
        refine ret_denO ⟨?_, rfl⟩
        rw [hF2, hor2, List.drop_of_length_le hge2]; rfl
end Go.Proofs.YtjaegdkkiefchaaGreatDoor
