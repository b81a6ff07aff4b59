/- Legal targets; light cards; lists that are equal. -/
import Derived.Test.YtbaegnnmedjkmaaGreatC48
import Derived.Test.YtbaegnnmedjkmaaGreatKT
namespace Go.Proofs.YtbaegnnmedjkmaaGreat
open Go Go.Sx
set_option maxRecDepth 100000
set_option maxHeartbeats 1000000
theorem tgEql (o p : Tg) : rawE PP (.eqv .eql Ty_api_Target false) [.agg o.row.toArray, .agg p.row.toArray] = some (.bool (o == p)) := by
 have e : rawE PP (.eqv .eql Ty_api_Target false) [.agg o.row.toArray, .agg p.row.toArray] = (chain [o.id == p.id, o.player == p.player]).map fun b => .bool b := by kernel_rfl
 rw [e, chain_all]
 simp only [Option.map_some, Option.some.injEq, Value.bool.injEq]
 cases o; cases p
 rw [Bool.eq_iff_iff]
 simp
theorem tRows_get {l : List Tg} {i : Nat} (h : i < l.length) : (tRows l)[i]? = some l[i].row := by simp [tRows, h]
theorem tg_ones (t : Tg) : Ones t.row := ⟨rfl, rfl, trivial⟩
theorem c_TIndex {H : Heap} {O : Own} {v : Value} {l : List Tg} (h : Sl H 2 v (tRows l)) (t : Tg) : RetO PP F_slices_Index_api_Target_api_Target [v, .agg t.row.toArray] H O (iV (idxP (fun y => t == y) l 0)) := by
 refine run_slices_Index_api_Target_api_Target (vs := v :: t.row) (by kernel_rfl) ⟨h.one, tg_ones t⟩ ?_
 simp only [T_slices_Index_api_Target_api_Target]
 have hlen : evalPure .len [v] = some (iV l.length) := by have := h.len; rwa [tRows_len] at this
 have hlB := h.lenB
 rw [tRows_len] at hlB
 refine newbox_den fun r0 => ?_
 repeat (first | refine chkN_den ?_ | refine chkV_den ?_)
 refine pure_den _ hlen ?_
 refine count_den l.length (fun i H' O' => O' = O ∧ Heap.le H H' ∧ idxP (fun y => t == y) l 0 = idxP (fun y => t == y) (l.drop i) i) ⟨rfl, Heap.le_refl H, by simp⟩ ?_
 rintro i H' O' hi - ⟨rfl, hle, hor⟩
 repeat (first | refine chkN_den ?_ | refine chkV_den ?_)
 refine pure_den _ (lss_eq _ _) (br_den (fun hb => ?_) (fun hb => ?_))
 ·have hlt : i < l.length := by simpa using hb
  obtain ⟨a, h1, h2, h3, h4⟩ := (h.le hle).idx (k := .i64) (tRows_get hlt)
  repeat (first | refine chkN_den ?_ | refine chkV_den ?_)
  refine pure_den _ h1 (load_den h2 h3 h4 ?_)
  repeat (first | refine chkN_den ?_ | refine chkV_den ?_)
  refine raw_denG (tgEql t l[i]) (br_den (fun hc => ?_) (fun hc => ?_))
  ·refine ret_denO ⟨?_, rfl⟩
   rw [hor, List.drop_eq_getElem_cons hlt, idxP, if_pos hc]; rfl
  ·refine pure_den _ (add_one (by omega)) (count_cont (by simp [Eqs, E]) hlt ⟨rfl, hle, ?_⟩)
   rw [hor, List.drop_eq_getElem_cons hlt, idxP, if_neg (by rw [hc]; simp)]; rfl
 ·have hge : l.length ≤ i := by simpa using hb
  refine ret_denO ⟨?_, rfl⟩
  rw [hor, List.drop_of_length_le hge]; rfl
theorem c_TContains {H : Heap} {O : Own} {v : Value} {l : List Tg} (h : Sl H 2 v (tRows l)) (t : Tg) : RetO PP F_slices_Contains_api_Target_api_Target [v, .agg t.row.toArray] H O (.bool (l.any fun y => t == y)) := by
 refine run_slices_Contains_api_Target_api_Target (vs := v :: t.row) (by kernel_rfl) ⟨h.one, tg_ones t⟩ ?_
 simp only [T_slices_Contains_api_Target_api_Target]
 refine newbox_den fun r0 => ?_
 repeat (first | refine chkN_den ?_ | refine chkV_den ?_)
 refine call_retO (c_TIndex h t) rfl ⟨rfl, trivial⟩ fun H1 _ => ?_
 repeat (first | refine chkN_den ?_ | refine chkV_den ?_)
 refine pure_den _ (geq_eq _ _) (ret_denO ⟨?_, rfl⟩)
 rw [← idxP_ge _ l 0 (by omega)]
def legalT (cs : List Cd) (b : Bd) (p k : Int) (t : Tg) : Bool := (ListT cs b p k).any fun y => t == y
theorem c_Legal {H : Heap} {cv : Value} {cs : List Cd} (hk : CardsS H cv cs) (hli : lightB cs = true) {v : BV12} {b : Bd} (h : BdS H v b) (hst : b.stack.length ≤ 1000000) (p k : Int) (t : Tg) :
  RetO PP F_target_Legal [cv, .agg (boardC v b).toArray, iV p, iV k, .agg t.row.toArray] H [] (.bool (legalT cs b p k t)) := by
 refine run_target_Legal (vs := cv :: (boardC v b ++ (iV p :: iV k :: t.row))) (by kernel_rfl) ⟨hk.one, ones_app (boardC_ones (h.r [])) ⟨rfl, rfl, tg_ones t⟩⟩ ?_
 simp only [T_target_Legal]
 refine newbox_den fun r0 => newbox_den fun r1 => ?_
 repeat (first | refine chkN_den ?_ | refine chkV_den ?_)
 refine call_new (c_TList hk hli h hst p k) ?_
 rintro x H1 _ ⟨hx, rfl⟩ l1
 refine ⟨[x], rfl, ⟨hx.one, trivial⟩, ?_⟩
 repeat (first | refine chkN_den ?_ | refine chkV_den ?_)
 refine call_retO (c_TContains hx t) rfl ⟨rfl, trivial⟩ fun H2 _ => ?_
 repeat (first | refine chkN_den ?_ | refine chkV_den ?_)
 exact ret_denO ⟨rfl, rfl⟩
theorem r_Legal {H : Heap} {cv : Value} {cs : List Cd} (hk : CardsS H cv cs) (hli : lightB cs = true) {v : BV12} {b : Bd} (h : BdS H v b) (hB : bdB b) (hfit : bdFit b) (hst : b.stack.length ≤ 1000000) (p k : Int) (t : Tg) :
  RetO PP F_zeitnotref16_Legal [cv, .agg (boardC v b).toArray, iV p, iV k, .agg t.row.toArray] H [] (.bool (legalT cs b p k t)) := by
 refine run_zeitnotref16_Legal (vs := cv :: (boardC v b ++ (iV p :: iV k :: t.row))) (by kernel_rfl) ⟨hk.one, ones_app (boardC_ones (h.r [])) ⟨rfl, rfl, tg_ones t⟩⟩ ?_
 simp only [T_zeitnotref16_Legal]
 refine newbox_den fun r0 => newbox_den fun r1 => ?_
 repeat (first | refine chkN_den ?_ | refine chkV_den ?_)
 refine call_new (r_TList hk hli h hB hfit hst p k) ?_
 rintro x H1 _ ⟨hx, rfl⟩ l1
 refine ⟨[x], rfl, ⟨hx.one, trivial⟩, ?_⟩
 rw [legalT]
 generalize ListT cs b p k = l at hx
 have hlen : evalPure .len [x] = some (iV l.length) := by have := hx.len; rwa [tRows_len] at this
 have hlB := hx.lenB
 rw [tRows_len] at hlB
 repeat (first | refine chkN_den ?_ | refine chkV_den ?_)
 refine count_den l.length (fun i H' O' => O' = [] ∧ Heap.le H1 H' ∧ (l.any fun y => t == y) = ((l.drop i).any fun y => t == y)) ⟨rfl, Heap.le_refl _, by simp⟩ ?_
 rintro i H' O' hi - ⟨rfl, hle, hor⟩
 repeat (first | refine chkN_den ?_ | refine chkV_den ?_)
 refine pure_den _ hlen ?_
 repeat (first | refine chkN_den ?_ | refine chkV_den ?_)
 refine pure_den _ (lss_eq _ _) (br_den (fun hb => ?_) (fun hb => ?_))
 ·have hlt : i < l.length := by simpa using hb
  obtain ⟨a, h1, h2, h3, h4⟩ := (hx.le hle).idx (k := .i64) (tRows_get hlt)
  repeat (first | refine chkN_den ?_ | refine chkV_den ?_)
  refine pure_den _ h1 (load_den h2 h3 h4 ?_)
  repeat (first | refine chkN_den ?_ | refine chkV_den ?_)
  have hcm : (t == l[i]) = (l[i] == t) := Bool.eq_iff_iff.2 (by rw [beq_iff_eq, beq_iff_eq]; exact eq_comm)
  refine raw_denG (tgEql l[i] t) (br_den (fun hc => ?_) (fun hc => ?_))
  ·refine ret_denO ⟨?_, rfl⟩
   rw [hor, List.drop_eq_getElem_cons hlt, List.any_cons, hcm, hc]; rfl
  ·refine pure_den _ (add_one (by omega)) (count_cont (by simp [Eqs, E]) hlt ⟨rfl, hle, ?_⟩)
   rw [hor, List.drop_eq_getElem_cons hlt, List.any_cons, hcm, hc]; rfl
 ·have hge : l.length ≤ i := by simpa using hb
  refine ret_denO ⟨?_, rfl⟩
  rw [hor, List.drop_of_length_le hge]; rfl
theorem r_TSame {H : Heap} {O : Own} {v w : Value} {l m : List Tg} (h : Sl H 2 v (tRows l)) (h' : Sl H 2 w (tRows m)) : RetO PP F_zeitnotref16_Same [v, w] H O (.bool (l == m)) := by
 refine run_zeitnotref16_Same (vs := [v, w]) (by kernel_rfl) ⟨h.one, h'.one, trivial⟩ ?_
 simp only [T_zeitnotref16_Same]
 have hlen : evalPure .len [v] = some (iV l.length) := by have := h.len; rwa [tRows_len] at this
 have hlen' : evalPure .len [w] = some (iV m.length) := by have := h'.len; rwa [tRows_len] at this
 have hlB := h.lenB
 rw [tRows_len] at hlB
 refine pure_den _ hlen ?_
 repeat (first | refine chkN_den ?_ | refine chkV_den ?_)
 refine pure_den _ hlen' ?_
 repeat (first | refine chkN_den ?_ | refine chkV_den ?_)
 refine pure_den _ (neq_eq _ _) (br_den (fun hb => ret_denO ⟨?_, rfl⟩) (fun hb => ?_))
 ·have hb : ((l.length : Int) != (m.length : Int)) = true := hb
  congr 1
  rw [eq_comm, beq_eq_false_iff_ne]
  rintro rfl
  simp at hb
 have hlm : l.length = m.length := by
  have hb : ((l.length : Int) != (m.length : Int)) = false := hb
  simp at hb; omega
 refine count_den l.length (fun i H' O' => O' = O ∧ Heap.le H H' ∧ (l == m) = (l.drop i == m.drop i)) ⟨rfl, Heap.le_refl H, by simp⟩ ?_
 rintro i H' O' hi - ⟨rfl, hle, hor⟩
 repeat (first | refine chkN_den ?_ | refine chkV_den ?_)
 refine pure_den _ hlen ?_
 repeat (first | refine chkN_den ?_ | refine chkV_den ?_)
 refine pure_den _ (lss_eq _ _) (br_den (fun hb => ?_) (fun hb => ?_))
 ·have hlt : i < l.length := by simpa using hb
  have hlt' : i < m.length := by omega
  obtain ⟨a, h1, h2, h3, h4⟩ := (h.le hle).idx (k := .i64) (tRows_get hlt)
  obtain ⟨a', j1, j2, j3, j4⟩ := (h'.le hle).idx (k := .i64) (tRows_get hlt')
  have hst : (l.drop i == m.drop i) = ((l[i] == m[i]) && (l.drop (i + 1) == m.drop (i + 1))) := by rw [List.drop_eq_getElem_cons hlt, List.drop_eq_getElem_cons hlt']; rfl
  repeat (first | refine chkN_den ?_ | refine chkV_den ?_)
  refine pure_den _ h1 (load_den h2 h3 h4 ?_)
  repeat (first | refine chkN_den ?_ | refine chkV_den ?_)
  refine pure_den _ j1 (load_den j2 j3 j4 ?_)
  repeat (first | refine chkN_den ?_ | refine chkV_den ?_)
  refine raw_denG (tgEq l[i] m[i]) (br_den (fun hc => ?_) (fun hc => ?_))
  ·refine ret_denO ⟨?_, rfl⟩
   have hc : (l[i] == m[i]) = false := notT hc
   rw [hor, hst, hc]; rfl
  ·have hc : (l[i] == m[i]) = true := notF hc
   refine pure_den _ (add_one (by omega)) (count_cont (by simp [Eqs, E]) hlt ⟨rfl, hle, ?_⟩)
   rw [hor, hst, hc]; rfl
 ·have hge : l.length ≤ i := by simpa using hb
  refine ret_denO ⟨?_, rfl⟩
  rw [hor, List.drop_of_length_le hge, List.drop_of_length_le (by omega)]; rfl
end Go.Proofs.YtbaegnnmedjkmaaGreat
namespace Go.Proofs.YtbaegnnmedjkmaaGreat
open Go Go.Sx
set_option maxRecDepth 100000
set_option maxHeartbeats 1000000
theorem card_idx {H : Heap} (O : Own) {v : Value} {cs : List Cd} (h : CardsS H v cs) {i : Nat} (hi : i < cs.length) :
  ∃ a r, evalPure (.idx 14) [v, iV i] = some (.pointer (some a)) ∧ CdR H r cs[i] ∧ Reads H O (ptrAdd (.pointer (some a)) 11) 1 [g r 11] ∧ Reads H O (ptrAdd (.pointer (some a)) 12) 1 [g r 12] := by
 obtain ⟨rows, h1, h2, h3⟩ := h
 have hlt : i < rows.length := by omega
 obtain ⟨a, k1, k2, k3, k4, k5⟩ := (h1.rsl O).idx .i64 i rows[i] (by simp [hlt])
 refine ⟨a, rows[i], k1, h3 i _ _ (List.getElem?_eq_getElem hlt) (List.getElem?_eq_getElem hi), ?_, ?_⟩
 ·have e : ((rows[i]).drop 11).take 1 = [g rows[i] 11] := by
   rw [g, List.getD_eq_getElem?_getD, List.getElem?_eq_getElem (by omega), List.drop_eq_getElem_cons (by omega)]; rfl
  rw [← e]; exact k3 11 1 (by omega)
 ·have e : ((rows[i]).drop 12).take 1 = [g rows[i] 12] := by
   rw [g, List.getD_eq_getElem?_getD, List.getElem?_eq_getElem (by omega), List.drop_eq_getElem_cons (by omega)]; rfl
  rw [← e]; exact k3 12 1 (by omega)
theorem trig_idx {H : Heap} (O : Own) {v : Value} {tr : List Nat} (h : TrigsS H v tr) {i : Nat} (hi : i < tr.length) :
  ∃ a r, evalPure (.idx 2) [v, iV i] = some (.pointer (some a)) ∧ TrigR H r tr[i] ∧ Reads H O (ptrAdd (.pointer (some a)) 1) 1 [g r 1] := by
 obtain ⟨rows, h1, h2, h3⟩ := h
 have hlt : i < rows.length := by omega
 obtain ⟨a, k1, k2, k3, k4, k5⟩ := (h1.rsl O).idx .i64 i rows[i] (by simp [hlt])
 refine ⟨a, rows[i], k1, h3 i _ _ (List.getElem?_eq_getElem hlt) (List.getElem?_eq_getElem hi), ?_⟩
 have e : ((rows[i]).drop 1).take 1 = [g rows[i] 1] := by
  rw [g, List.getD_eq_getElem?_getD, List.getElem?_eq_getElem (by omega), List.drop_eq_getElem_cons (by omega)]; rfl
 rw [← e]; exact k3 1 1 (by omega)
theorem c_light {H : Heap} {v : Value} {cs : List Cd} (h : CardsS H v cs) : RetO PP F_zeitnotlaw16_light [v] H [] (.bool (lightB cs)) := by
 refine run_zeitnotlaw16_light (vs := [v]) (by kernel_rfl) ⟨h.one, trivial⟩ ?_
 simp only [T_zeitnotlaw16_light]
 have hB : cs.length < 2 ^ 63 := by
  obtain ⟨rows, h1, h2, _⟩ := h
  have := h1.lenB; omega
 refine count_den cs.length (fun i H' O' => O' = [] ∧ Heap.le H H' ∧ i ≤ 13 ∧ ((cs.take i).all cdLight) = true) ⟨rfl, Heap.le_refl H, by omega, rfl⟩ ?_
 rintro i H' O' hi - ⟨rfl, hle, hi13, hor⟩
 replace h := h.le hle
 repeat (first | refine chkN_den ?_ | refine chkV_den ?_ | refine chkP_den rfl ?_)
 refine pure_den _ h.len ?_
 repeat (first | refine chkN_den ?_ | refine chkV_den ?_ | refine chkP_den rfl ?_)
 refine pure_den _ (lss_eq _ _) ?_
 repeat (first | refine chkN_den ?_ | refine chkV_den ?_ | refine chkP_den rfl ?_)
 refine pure_den _ (lss_eq _ _) ?_
 repeat (first | refine chkN_den ?_ | refine chkV_den ?_ | refine chkP_den rfl ?_)
 refine pure_den _ (pick_and _ _) (br_den (fun hb => ?_) (fun hb => ?_))
 ·have hb : (decide ((i : Int) < (cs.length : Int)) && decide ((i : Int) < 13)) = true := hb
  rw [Bool.and_eq_true, decide_eq_true_eq, decide_eq_true_eq] at hb
  have hlt : i < cs.length := by omega
  have hl13 : i < 13 := by omega
  obtain ⟨a, r, k1, k2, k3, k4⟩ := card_idx [] h hlt
  have hst : lightB cs = false ∨ cdLight cs[i] = true := by
   cases hc : cdLight cs[i]
   ·refine .inl ?_
    rw [lightB, Bool.and_eq_false_iff]
    refine .inl ?_
    rw [List.all_eq_false]
    exact ⟨cs[i], List.mem_take_iff_getElem.2 ⟨i, by omega, rfl⟩, by rw [hc]; simp⟩
   ·exact .inr rfl
  have hbad : ∀ {x : Bool}, cdLight cs[i] = false → x = false → (x = lightB cs) := fun h1 h2 => by
   rcases hst with e | e
   ·rw [h2, e]
   ·rw [h1] at e; cases e
  repeat (first | refine chkN_den ?_ | refine chkV_den ?_ | refine chkP_den rfl ?_)
  refine pure_den _ k1 ?_
  repeat (first | refine chkN_den ?_ | refine chkV_den ?_ | refine chkP_den rfl ?_)
  refine load_denR k3 rfl ⟨k2.eff.one, trivial⟩ ?_
  repeat (first | refine chkN_den ?_ | refine chkV_den ?_ | refine chkP_den rfl ?_)
  refine pure_den _ k2.eff.len ?_
  repeat (first | refine chkN_den ?_ | refine chkV_den ?_ | refine chkP_den rfl ?_)
  refine pure_den _ (gtr_eq _ _) ?_
  repeat (first | refine chkN_den ?_ | refine chkV_den ?_ | refine chkP_den rfl ?_)
  refine ⟨.pointer (some a), fun _ => k1, .inr rfl, ?_⟩
  repeat (first | refine chkN_den ?_ | refine chkV_den ?_ | refine chkP_den rfl ?_)
  refine ⟨[g r 12], rfl, ⟨k2.trig.one, trivial⟩, fun _ => k4, ?_⟩
  repeat (first | refine chkN_den ?_ | refine chkV_den ?_ | refine chkP_den rfl ?_)
  refine pure_den _ k2.trig.len ?_
  repeat (first | refine chkN_den ?_ | refine chkV_den ?_ | refine chkP_den rfl ?_)
  refine pure_den _ (gtr_eq _ _) ?_
  repeat (first | refine chkN_den ?_ | refine chkV_den ?_ | refine chkP_den rfl ?_)
  refine pure_den _ (pick_or _ _) (br_den (fun hc => ?_) (fun hc => ?_))
  ·have hc : (decide ((cs[i].tg.length : Int) > 5) || decide ((cs[i].tr.length : Int) > 3)) = true := hc
   refine ret_denO ⟨?_, rfl⟩
   congr 1
   exact hbad (by rw [cdLight, hc]; rfl) rfl
  ·have hc : (decide ((cs[i].tg.length : Int) > 5) || decide ((cs[i].tr.length : Int) > 3)) = false := hc
   have hc3 : cs[i].tr.length ≤ 3 := by
    rw [Bool.or_eq_false_iff, decide_eq_false_iff_not, decide_eq_false_iff_not] at hc; omega
   refine count_den cs[i].tr.length (fun j H2 O2 => O2 = [] ∧ Heap.le H' H2 ∧ (cs[i].tr.all fun n => !decide ((n : Int) > 5)) = ((cs[i].tr.drop j).all fun n => !decide ((n : Int) > 5))) ⟨rfl, Heap.le_refl _, rfl⟩ ?_
   rintro j H2 O2 hj - ⟨rfl, hle2, hor2⟩
   repeat (first | refine chkN_den ?_ | refine chkV_den ?_ | refine chkP_den rfl ?_)
   refine pure_den _ k1 ?_
   repeat (first | refine chkN_den ?_ | refine chkV_den ?_ | refine chkP_den rfl ?_)
   refine load_denR (reads_le k4 hle2) rfl ⟨k2.trig.one, trivial⟩ ?_
   repeat (first | refine chkN_den ?_ | refine chkV_den ?_ | refine chkP_den rfl ?_)
   refine pure_den _ k2.trig.len ?_
   repeat (first | refine chkN_den ?_ | refine chkV_den ?_ | refine chkP_den rfl ?_)
   refine pure_den _ (lss_eq _ _) (br_den (fun hd => ?_) (fun hd => ?_))
   ·have hjlt : j < cs[i].tr.length := by simpa using hd
    obtain ⟨a2, r2, m1, m2, m3⟩ := trig_idx [] (k2.trig.le hle2) hjlt
    obtain ⟨er, m4, m5⟩ := m2
    have el : evalPure .len [g r2 1] = some (iV cs[i].tr[j]) := by have := m4.len; rwa [m5] at this
    repeat (first | refine chkN_den ?_ | refine chkV_den ?_ | refine chkP_den rfl ?_)
    refine pure_den _ k1 ?_
    repeat (first | refine chkN_den ?_ | refine chkV_den ?_ | refine chkP_den rfl ?_)
    refine load_denR (reads_le k4 hle2) rfl ⟨k2.trig.one, trivial⟩ ?_
    repeat (first | refine chkN_den ?_ | refine chkV_den ?_ | refine chkP_den rfl ?_)
    refine pure_den _ m1 ?_
    repeat (first | refine chkN_den ?_ | refine chkV_den ?_ | refine chkP_den rfl ?_)
    refine load_denR m3 rfl ⟨m4.one, trivial⟩ ?_
    repeat (first | refine chkN_den ?_ | refine chkV_den ?_ | refine chkP_den rfl ?_)
    refine pure_den _ el ?_
    repeat (first | refine chkN_den ?_ | refine chkV_den ?_ | refine chkP_den rfl ?_)
    refine pure_den _ (gtr_eq _ _) (br_den (fun he => ?_) (fun he => ?_))
    ·have he : decide ((cs[i].tr[j] : Int) > 5) = true := he
     refine ret_denO ⟨?_, rfl⟩
     congr 1
     exact hbad (by rw [cdLight, hor2, List.drop_eq_getElem_cons hjlt, List.all_cons, he]; simp) rfl
    ·have he : decide ((cs[i].tr[j] : Int) > 5) = false := he
     repeat (first | refine chkN_den ?_ | refine chkV_den ?_ | refine chkP_den rfl ?_)
     refine pure_den _ (add_one (by omega)) (count_cont (by simp [Eqs, E]) hjlt ⟨rfl, hle2, ?_⟩)
     rw [hor2, List.drop_eq_getElem_cons hjlt, List.all_cons, he]; rfl
   ·have hjge : cs[i].tr.length ≤ j := by simpa using hd
    rw [List.drop_of_length_le hjge] at hor2
    repeat (first | refine chkN_den ?_ | refine chkV_den ?_ | refine chkP_den rfl ?_)
    refine pure_den _ (add_one (by omega)) (count_cont (by simp [Eqs, E]) hlt ⟨rfl, Heap.le_trans hle hle2, by omega, ?_⟩)
    rw [List.take_add_one, List.getElem?_eq_getElem hlt, List.all_append, hor]
    simp only [Option.toList_some, List.all_cons, List.all_nil, Bool.and_true, Bool.true_and]
    rw [cdLight, hc, hor2]; rfl
 ·have hb : (decide ((i : Int) < (cs.length : Int)) && decide ((i : Int) < 13)) = false := hb
  rw [Bool.and_eq_false_iff, decide_eq_false_iff_not, decide_eq_false_iff_not] at hb
  repeat (first | refine chkN_den ?_ | refine chkV_den ?_ | refine chkP_den rfl ?_)
  refine pure_den _ h.len ?_
  repeat (first | refine chkN_den ?_ | refine chkV_den ?_ | refine chkP_den rfl ?_)
  refine pure_den _ (leq_eq _ _) (ret_denO ⟨?_, rfl⟩)
  congr 1
  rw [lightB]
  rcases hb with hb | hb
  ·have e1 : cs.take i = cs := List.take_of_length_le (by omega)
   have e2 : cs.take 13 = cs := List.take_of_length_le (by omega)
   rw [e1] at hor
   rw [e2, hor, Bool.true_and]
  ·obtain rfl : i = 13 := by omega
   rw [hor, Bool.true_and]
theorem lists_true {H : Heap} {cv : Value} {cs : List Cd} (hk : CardsS H cv cs) {v : BV12} {b : Bd} (h : BdS H v b) (p k : Int) (t : Tg) :
  Triple PP F_zeitnotlaw16_TargetLists [cv, .agg (boardC v b).toArray, iV p, iV k, .agg t.row.toArray] H [] fun r _ O' => r = .bool true ∧ O' = [] := by
 refine run_zeitnotlaw16_TargetLists (vs := cv :: (boardC v b ++ (iV p :: iV k :: t.row))) (by kernel_rfl) ⟨hk.one, ones_app (boardC_ones (h.r [])) ⟨rfl, rfl, tg_ones t⟩⟩ ?_
 simp only [T_zeitnotlaw16_TargetLists]
 refine newbox_den fun r0 => newbox_den fun r1 => ?_
 repeat (first | refine chkN_den ?_ | refine chkV_den ?_ | refine chkP_den rfl ?_)
 refine call_retO (c_light hk) rfl ⟨rfl, trivial⟩ fun H1 l1 => pure_den _ (not_eq' _) (br_den (fun hb => ?_) (fun hb => ?_))
 ·repeat (first | refine chkN_den ?_ | refine chkV_den ?_ | refine chkP_den rfl ?_)
  exact call_retO (c_knownT _ []) rfl ⟨rfl, trivial⟩ fun _ _ => ret_denO ⟨rfl, rfl⟩
 have hli : lightB cs = true := notF hb
 replace h := h.le l1
 replace hk := hk.le l1
 repeat (first | refine chkN_den ?_ | refine chkV_den ?_ | refine chkP_den rfl ?_)
 refine call_retO (c_small (h.r [])) rfl ⟨rfl, trivial⟩ fun H2 l2 => pure_den _ (not_eq' _) (br_den (fun hc => ?_) (fun hc => ?_))
 ·repeat (first | refine chkN_den ?_ | refine chkV_den ?_ | refine chkP_den rfl ?_)
  exact call_retO (c_knownT _ []) rfl ⟨rfl, trivial⟩ fun _ _ => ret_denO ⟨rfl, rfl⟩
 have hsm : smallBd b = true := notF hc
 have hB := small_B hsm
 have hfit := small_fit hsm
 have hst : b.stack.length ≤ 1000000 := hB.2.2.2.1.1
 replace h := h.le l2
 replace hk := hk.le l2
 repeat (first | refine chkN_den ?_ | refine chkV_den ?_ | refine chkP_den rfl ?_)
 refine call_new (Triple.frozen (r_Copy h hB)) ?_
 rintro _ H3 _ ⟨⟨u, rfl, hwas⟩, rfl⟩ l3
 refine ⟨boardC u b, rfl, boardC_ones (hwas.r []), newbox_den fun r2 => ?_⟩
 replace h := h.le l3
 replace hk := hk.le l3
 repeat (first | refine chkN_den ?_ | refine chkV_den ?_ | refine chkP_den rfl ?_)
 refine call_new (c_TList hk hli h hst p k) ?_
 rintro x H4 _ ⟨hx, rfl⟩ l4
 refine ⟨[x], rfl, ⟨hx.one, trivial⟩, ?_⟩
 replace h := h.le l4
 replace hk := hk.le l4
 replace hwas := hwas.le l4
 repeat (first | refine chkN_den ?_ | refine chkV_den ?_ | refine chkP_den rfl ?_)
 refine call_new (r_TList hk hli h hB hfit hst p k) ?_
 rintro y H5 _ ⟨hy, rfl⟩ l5
 refine ⟨[y], rfl, ⟨hy.one, trivial⟩, ?_⟩
 replace h := h.le l5
 replace hk := hk.le l5
 replace hwas := hwas.le l5
 repeat (first | refine chkN_den ?_ | refine chkV_den ?_ | refine chkP_den rfl ?_)
 refine call_new0 (r_TSame (O := []) (hx.le l5) hy) rfl ⟨rfl, trivial⟩ fun H6 l6 => pure_den _ (not_eq' _) (br_den (fun hd => by simp at hd) (fun _ => ?_))
 replace h := h.le l6
 replace hk := hk.le l6
 replace hwas := hwas.le l6
 replace hy := hy.le l6
 repeat (first | refine chkN_den ?_ | refine chkV_den ?_ | refine chkP_den rfl ?_)
 refine call_new0 (c_Legal hk hli h hst p k t) rfl ⟨rfl, trivial⟩ fun H7 l7 => ?_
 replace h := h.le l7
 replace hk := hk.le l7
 replace hwas := hwas.le l7
 replace hy := hy.le l7
 repeat (first | refine chkN_den ?_ | refine chkV_den ?_ | refine chkP_den rfl ?_)
 refine call_new0 (r_Legal hk hli h hB hfit hst p k t) rfl ⟨rfl, trivial⟩ fun H8 l8 => ?_
 replace h := h.le l8
 replace hk := hk.le l8
 replace hwas := hwas.le l8
 replace hy := hy.le l8
 repeat (first | refine chkN_den ?_ | refine chkV_den ?_ | refine chkP_den rfl ?_)
 refine pure_den _ (bneq_eq _ _) (br_den (fun hd => by simp at hd) (fun _ => ?_))
 generalize hl : ListT cs b p k = l at hy
 have hlen : evalPure .len [y] = some (iV l.length) := by have := hy.len; rwa [tRows_len] at this
 have hlB := hy.lenB
 rw [tRows_len] at hlB
 refine count_den l.length (fun i H' O' => O' = [] ∧ Heap.le H8 H') ⟨rfl, Heap.le_refl _⟩ ?_
 rintro i H' O' hi - ⟨rfl, hle⟩
 replace h := h.le hle
 replace hk := hk.le hle
 replace hwas := hwas.le hle
 replace hy := hy.le hle
 repeat (first | refine chkN_den ?_ | refine chkV_den ?_ | refine chkP_den rfl ?_)
 refine pure_den _ hlen ?_
 repeat (first | refine chkN_den ?_ | refine chkV_den ?_ | refine chkP_den rfl ?_)
 refine pure_den _ (lss_eq _ _) (br_den (fun hb => ?_) (fun hb => ?_))
 ·have hlt : i < l.length := by simpa using hb
  obtain ⟨a, h1, h2, h3, h4⟩ := hy.idx (k := .i64) (tRows_get hlt)
  repeat (first | refine chkN_den ?_ | refine chkV_den ?_ | refine chkP_den rfl ?_)
  refine pure_den _ h1 (load_den h2 h3 h4 ?_)
  repeat (first | refine chkN_den ?_ | refine chkV_den ?_ | refine chkP_den rfl ?_)
  refine call_new0 (c_Legal hk hli h hst p k l[i]) rfl ⟨rfl, trivial⟩ fun H9 l9 => ?_
  have hleg : legalT cs b p k l[i] = true := by
   rw [legalT, hl, List.any_eq_true]
   exact ⟨l[i], List.getElem_mem hlt, by simp⟩
  rw [hleg]
  refine pure_den _ (not_eq' _) (br_den (fun hd => by cases hd) (fun _ => ?_))
  repeat (first | refine chkN_den ?_ | refine chkV_den ?_ | refine chkP_den rfl ?_)
  exact pure_den _ (add_one (by omega)) (count_cont (by simp [Eqs, E]) hlt ⟨rfl, Heap.le_trans hle l9⟩)
 ·repeat (first | refine chkN_den ?_ | refine chkV_den ?_ | refine chkP_den rfl ?_)
  refine call_retO (r_Same (h.r []) (hwas.r [])) rfl ⟨rfl, trivial⟩ fun H9 l9 => br_den (fun _ => ?_) (fun hx => by simp at hx)
  repeat (first | refine chkN_den ?_ | refine chkV_den ?_ | refine chkP_den rfl ?_)
  exact call_retO (c_knownT _ []) rfl ⟨rfl, trivial⟩ fun _ _ => ret_denO ⟨rfl, rfl⟩
end Go.Proofs.YtbaegnnmedjkmaaGreat
