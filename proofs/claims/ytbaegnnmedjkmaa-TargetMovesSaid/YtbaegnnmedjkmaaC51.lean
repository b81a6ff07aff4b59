/- Legal targets; light cards; lists that are equal. -/
import Derived.Test.YtbaegnnmedjkmaaC48
import Derived.Test.YtbaegnnmedjkmaaKT
namespace Go.Proofs.Ytbaegnnmedjkmaa
open Go Go.Sx
set_option maxRecDepth 100000
set_option maxHeartbeats 1000000
theorem tgEql (o p : Tg) : rawE PP (.eqv .eql Ty_api_Target false) [.agg o.row.toArray, .agg p.row.toArray] = some (.bool (o == p)) := by
 have e : rawE PP (.eqv .eql Ty_api_Target false) [.agg o.row.toArray, .agg p.row.toArray] = (chain [o.id == p.id, o.player == p.player]).map fun b => .bool b := by kernel_rfl
 rw [e, chain_all]
 simp only [Option.map_some, Option.some.injEq, Value.bool.injEq]
 cases o; cases p
 rw [Bool.eq_iff_iff]
 simp
theorem tRows_get {l : List Tg} {i : Nat} (h : i < l.length) : (tRows l)[i]? = some l[i].row := by simp [tRows, h]
theorem tg_ones (t : Tg) : Ones t.row := ⟨rfl, rfl, trivial⟩
theorem c_TIndex {H : Heap} {O : Own} {v : Value} {l : List Tg} (h : Sl H 2 v (tRows l)) (t : Tg) : RetO PP F_slices_Index_api_Target_api_Target [v, .agg t.row.toArray] H O (iV (idxP (fun y => t == y) l 0)) := by
 refine run_slices_Index_api_Target_api_Target (vs := v :: t.row) (by kernel_rfl) ⟨h.one, tg_ones t⟩ ?_
 simp only [T_slices_Index_api_Target_api_Target]
 have hlen : evalPure .len [v] = some (iV l.length) := by have := h.len; rwa [tRows_len] at this
 have hlB := h.lenB
 rw [tRows_len] at hlB
 refine newbox_den fun r0 => ?_
 repeat (first | refine chkN_den ?_ | refine chkV_den ?_)
 refine pure_den _ hlen ?_
 refine count_den l.length (fun i H' O' => O' = O ∧ Heap.le H H' ∧ idxP (fun y => t == y) l 0 = idxP (fun y => t == y) (l.drop i) i) ⟨rfl, Heap.le_refl H, by simp⟩ ?_
 rintro i H' O' hi - ⟨rfl, hle, hor⟩
 repeat (first | refine chkN_den ?_ | refine chkV_den ?_)
 refine pure_den _ (lss_eq _ _) (br_den (fun hb => ?_) (fun hb => ?_))
 ·have hlt : i < l.length := by simpa using hb
  obtain ⟨a, h1, h2, h3, h4⟩ := (h.le hle).idx (k := .i64) (tRows_get hlt)
  repeat (first | refine chkN_den ?_ | refine chkV_den ?_)
  refine pure_den _ h1 (load_den h2 h3 h4 ?_)
  repeat (first | refine chkN_den ?_ | refine chkV_den ?_)
  refine raw_denG (tgEql t l[i]) (br_den (fun hc => ?_) (fun hc => ?_))
  ·refine ret_denO ⟨?_, rfl⟩
   rw [hor, List.drop_eq_getElem_cons hlt, idxP, if_pos hc]; rfl
  ·refine pure_den _ (add_one (by omega)) (count_cont (by simp [Eqs, E]) hlt ⟨rfl, hle, ?_⟩)
   rw [hor, List.drop_eq_getElem_cons hlt, idxP, if_neg (by rw [hc]; simp)]; rfl
 ·have hge : l.length ≤ i := by simpa using hb
  refine ret_denO ⟨?_, rfl⟩
  rw [hor, List.drop_of_length_le hge]; rfl
theorem c_TContains {H : Heap} {O : Own} {v : Value} {l : List Tg} (h : Sl H 2 v (tRows l)) (t : Tg) : RetO PP F_slices_Contains_api_Target_api_Target [v, .agg t.row.toArray] H O (.bool (l.any fun y => t == y)) := by
 refine run_slices_Contains_api_Target_api_Target (vs := v :: t.row) (by kernel_rfl) ⟨h.one, tg_ones t⟩ ?_
 simp only [T_slices_Contains_api_Target_api_Target]
 refine newbox_den fun r0 => ?_
 repeat (first | refine chkN_den ?_ | refine chkV_den ?_)
 refine call_retO (c_TIndex h t) rfl ⟨rfl, trivial⟩ fun H1 _ => ?_
 repeat (first | refine chkN_den ?_ | refine chkV_den ?_)
 refine pure_den _ (geq_eq _ _) (ret_denO ⟨?_, rfl⟩)
 rw [← idxP_ge _ l 0 (by omega)]
def legalT (cs : List Cd) (b : Bd) (p k : Int) (t : Tg) : Bool := (ListT cs b p k).any fun y => t == y
theorem c_Legal {H : Heap} {cv : Value} {cs : List Cd} (hk : CardsS H cv cs) (hli : lightB cs = true) {v : BV12} {b : Bd} (h : BdS H v b) (hst : b.stack.length ≤ 1000000) (p k : Int) (t : Tg) :
  RetO PP F_target_Legal [cv, .agg (boardC v b).toArray, iV p, iV k, .agg t.row.toArray] H [] (.bool (legalT cs b p k t)) := by
 refine run_target_Legal (vs := cv :: (boardC v b ++ (iV p :: iV k :: t.row))) (by kernel_rfl) ⟨hk.one, ones_app (boardC_ones (h.r [])) ⟨rfl, rfl, tg_ones t⟩⟩ ?_
 simp only [T_target_Legal]
 refine newbox_den fun r0 => newbox_den fun r1 => ?_
 repeat (first | refine chkN_den ?_ | refine chkV_den ?_)
 refine call_new (c_TList hk hli h hst p k) ?_
 rintro x H1 _ ⟨hx, rfl⟩ l1
 refine ⟨[x], rfl, ⟨hx.one, trivial⟩, ?_⟩
 repeat (first | refine chkN_den ?_ | refine chkV_den ?_)
 refine call_retO (c_TContains hx t) rfl ⟨rfl, trivial⟩ fun H2 _ => ?_
 repeat (first | refine chkN_den ?_ | refine chkV_den ?_)
 exact ret_denO ⟨rfl, rfl⟩
end Go.Proofs.Ytbaegnnmedjkmaa
namespace Go.Proofs.Ytbaegnnmedjkmaa
open Go Go.Sx
set_option maxRecDepth 100000
set_option maxHeartbeats 1000000
theorem card_idx {H : Heap} (O : Own) {v : Value} {cs : List Cd} (h : CardsS H v cs) {i : Nat} (hi : i < cs.length) :
  ∃ a r, evalPure (.idx 14) [v, iV i] = some (.pointer (some a)) ∧ CdR H r cs[i] ∧ Reads H O (ptrAdd (.pointer (some a)) 11) 1 [g r 11] ∧ Reads H O (ptrAdd (.pointer (some a)) 12) 1 [g r 12] := by
 obtain ⟨rows, h1, h2, h3⟩ := h
 have hlt : i < rows.length := by omega
 obtain ⟨a, k1, k2, k3, k4, k5⟩ := (h1.rsl O).idx .i64 i rows[i] (by simp [hlt])
 refine ⟨a, rows[i], k1, h3 i _ _ (List.getElem?_eq_getElem hlt) (List.getElem?_eq_getElem hi), ?_, ?_⟩
 ·have e : ((rows[i]).drop 11).take 1 = [g rows[i] 11] := by
   rw [g, List.getD_eq_getElem?_getD, List.getElem?_eq_getElem (by omega), List.drop_eq_getElem_cons (by omega)]; rfl
  rw [← e]; exact k3 11 1 (by omega)
 ·have e : ((rows[i]).drop 12).take 1 = [g rows[i] 12] := by
   rw [g, List.getD_eq_getElem?_getD, List.getElem?_eq_getElem (by omega), List.drop_eq_getElem_cons (by omega)]; rfl
  rw [← e]; exact k3 12 1 (by omega)
theorem trig_idx {H : Heap} (O : Own) {v : Value} {tr : List Nat} (h : TrigsS H v tr) {i : Nat} (hi : i < tr.length) :
  ∃ a r, evalPure (.idx 2) [v, iV i] = some (.pointer (some a)) ∧ TrigR H r tr[i] ∧ Reads H O (ptrAdd (.pointer (some a)) 1) 1 [g r 1] := by
 obtain ⟨rows, h1, h2, h3⟩ := h
 have hlt : i < rows.length := by omega
 obtain ⟨a, k1, k2, k3, k4, k5⟩ := (h1.rsl O).idx .i64 i rows[i] (by simp [hlt])
 refine ⟨a, rows[i], k1, h3 i _ _ (List.getElem?_eq_getElem hlt) (List.getElem?_eq_getElem hi), ?_⟩
 have e : ((rows[i]).drop 1).take 1 = [g rows[i] 1] := by
  rw [g, List.getD_eq_getElem?_getD, List.getElem?_eq_getElem (by omega), List.drop_eq_getElem_cons (by omega)]; rfl
 rw [← e]; exact k3 1 1 (by omega)
theorem c_light {H : Heap} {v : Value} {cs : List Cd} (h : CardsS H v cs) : RetO PP F_zeitnotlaw16_light [v] H [] (.bool (lightB cs)) := by
 refine run_zeitnotlaw16_light (vs := [v]) (by kernel_rfl) ⟨h.one, trivial⟩ ?_
 simp only [T_zeitnotlaw16_light]
 have hB : cs.length < 2 ^ 63 := by
  obtain ⟨rows, h1, h2, _⟩ := h
  have := h1.lenB; omega
 refine count_den cs.length (fun i H' O' => O' = [] ∧ Heap.le H H' ∧ i ≤ 13 ∧ ((cs.take i).all cdLight) = true) ⟨rfl, Heap.le_refl H, by omega, rfl⟩ ?_
 rintro i H' O' hi - ⟨rfl, hle, hi13, hor⟩
 replace h := h.le hle
 repeat (first | refine chkN_den ?_ | refine chkV_den ?_ | refine chkP_den rfl ?_)
 refine pure_den _ h.len ?_
 repeat (first | refine chkN_den ?_ | refine chkV_den ?_ | refine chkP_den rfl ?_)
 refine pure_den _ (lss_eq _ _) ?_
 repeat (first | refine chkN_den ?_ | refine chkV_den ?_ | refine chkP_den rfl ?_)
 refine pure_den _ (lss_eq _ _) ?_
 repeat (first | refine chkN_den ?_ | refine chkV_den ?_ | refine chkP_den rfl ?_)
 refine pure_den _ (pick_and _ _) (br_den (fun hb => ?_) (fun hb => ?_))
 ·have hb : (decide ((i : Int) < (cs.length : Int)) && decide ((i : Int) < 13)) = true := hb
  rw [Bool.and_eq_true, decide_eq_true_eq, decide_eq_true_eq] at hb
  have hlt : i < cs.length := by omega
  have hl13 : i < 13 := by omega
  obtain ⟨a, r, k1, k2, k3, k4⟩ := card_idx [] h hlt
  have hst : lightB cs = false ∨ cdLight cs[i] = true := by
   cases hc : cdLight cs[i]
   ·refine .inl ?_
    rw [lightB, Bool.and_eq_false_iff]
    refine .inl ?_
    rw [List.all_eq_false]
    exact ⟨cs[i], List.mem_take_iff_getElem.2 ⟨i, by omega, rfl⟩, by rw [hc]; simp⟩
   ·exact .inr rfl
  have hbad : ∀ {x : Bool}, cdLight cs[i] = false → x = false → (x = lightB cs) := fun h1 h2 => by
   rcases hst with e | e
   ·rw [h2, e]
   ·rw [h1] at e; cases e
  repeat (first | refine chkN_den ?_ | refine chkV_den ?_ | refine chkP_den rfl ?_)
  refine pure_den _ k1 ?_
  repeat (first | refine chkN_den ?_ | refine chkV_den ?_ | refine chkP_den rfl ?_)
  refine load_denR k3 rfl ⟨k2.eff.one, trivial⟩ ?_
  repeat (first | refine chkN_den ?_ | refine chkV_den ?_ | refine chkP_den rfl ?_)
  refine pure_den _ k2.eff.len ?_
  repeat (first | refine chkN_den ?_ | refine chkV_den ?_ | refine chkP_den rfl ?_)
  refine pure_den _ (gtr_eq _ _) ?_
  repeat (first | refine chkN_den ?_ | refine chkV_den ?_ | refine chkP_den rfl ?_)
  refine ⟨.pointer (some a), fun _ => k1, .inr rfl, ?_⟩
  repeat (first | refine chkN_den ?_ | refine chkV_den ?_ | refine chkP_den rfl ?_)
  refine ⟨[g r 12], rfl, ⟨k2.trig.one, trivial⟩, fun _ => k4, ?_⟩
  repeat (first | refine chkN_den ?_ | refine chkV_den ?_ | refine chkP_den rfl ?_)
  refine pure_den _ k2.trig.len ?_
  repeat (first | refine chkN_den ?_ | refine chkV_den ?_ | refine chkP_den rfl ?_)
  refine pure_den _ (gtr_eq _ _) ?_
  repeat (first | refine chkN_den ?_ | refine chkV_den ?_ | refine chkP_den rfl ?_)
  refine pure_den _ (pick_or _ _) (br_den (fun hc => ?_) (fun hc => ?_))
  ·have hc : (decide ((cs[i].tg.length : Int) > 5) || decide ((cs[i].tr.length : Int) > 3)) = true := hc
   refine ret_denO ⟨?_, rfl⟩
   congr 1
   exact hbad (by rw [cdLight, hc]; rfl) rfl
  ·have hc : (decide ((cs[i].tg.length : Int) > 5) || decide ((cs[i].tr.length : Int) > 3)) = false := hc
   have hc3 : cs[i].tr.length ≤ 3 := by
    rw [Bool.or_eq_false_iff, decide_eq_false_iff_not, decide_eq_false_iff_not] at hc; omega
   refine count_den cs[i].tr.length (fun j H2 O2 => O2 = [] ∧ Heap.le H' H2 ∧ (cs[i].tr.all fun n => !decide ((n : Int) > 5)) = ((cs[i].tr.drop j).all fun n => !decide ((n : Int) > 5))) ⟨rfl, Heap.le_refl _, rfl⟩ ?_
   rintro j H2 O2 hj - ⟨rfl, hle2, hor2⟩
   repeat (first | refine chkN_den ?_ | refine chkV_den ?_ | refine chkP_den rfl ?_)
   refine pure_den _ k1 ?_
   repeat (first | refine chkN_den ?_ | refine chkV_den ?_ | refine chkP_den rfl ?_)
   refine load_denR (reads_le k4 hle2) rfl ⟨k2.trig.one, trivial⟩ ?_
   repeat (first | refine chkN_den ?_ | refine chkV_den ?_ | refine chkP_den rfl ?_)
   refine pure_den _ k2.trig.len ?_
   repeat (first | refine chkN_den ?_ | refine chkV_den ?_ | refine chkP_den rfl ?_)
   refine pure_den _ (lss_eq _ _) (br_den (fun hd => ?_) (fun hd => ?_))
   ·have hjlt : j < cs[i].tr.length := by simpa using hd
    obtain ⟨a2, r2, m1, m2, m3⟩ := trig_idx [] (k2.trig.le hle2) hjlt
    obtain ⟨er, m4, m5⟩ := m2
    have el : evalPure .len [g r2 1] = some (iV cs[i].tr[j]) := by have := m4.len; rwa [m5] at this
    repeat (first | refine chkN_den ?_ | refine chkV_den ?_ | refine chkP_den rfl ?_)
    refine pure_den _ k1 ?_
    repeat (first | refine chkN_den ?_ | refine chkV_den ?_ | refine chkP_den rfl ?_)
    refine load_denR (reads_le k4 hle2) rfl ⟨k2.trig.one, trivial⟩ ?_
    repeat (first | refine chkN_den ?_ | refine chkV_den ?_ | refine chkP_den rfl ?_)
    refine pure_den _ m1 ?_
    repeat (first | refine chkN_den ?_ | refine chkV_den ?_ | refine chkP_den rfl ?_)
    refine load_denR m3 rfl ⟨m4.one, trivial⟩ ?_
    repeat (first | refine chkN_den ?_ | refine chkV_den ?_ | refine chkP_den rfl ?_)
    refine pure_den _ el ?_
    repeat (first | refine chkN_den ?_ | refine chkV_den ?_ | refine chkP_den rfl ?_)
    refine pure_den _ (gtr_eq _ _) (br_den (fun he => ?_) (fun he => ?_))
    ·have he : decide ((cs[i].tr[j] : Int) > 5) = true := he
     refine ret_denO ⟨?_, rfl⟩
     congr 1
     exact hbad (by rw [cdLight, hor2, List.drop_eq_getElem_cons hjlt, List.all_cons, he]; simp) rfl
    ·have he : decide ((cs[i].tr[j] : Int) > 5) = false := he
     repeat (first | refine chkN_den ?_ | refine chkV_den ?_ | refine chkP_den rfl ?_)
     refine pure_den _ (add_one (by omega)) (count_cont (by simp [Eqs, E]) hjlt ⟨rfl, hle2, ?_⟩)
     rw [hor2, List.drop_eq_getElem_cons hjlt, List.all_cons, he]; rfl
   ·have hjge : cs[i].tr.length ≤ j := by simpa using hd
    rw [List.drop_of_length_le hjge] at hor2
    repeat (first | refine chkN_den ?_ | refine chkV_den ?_ | refine chkP_den rfl ?_)
    refine pure_den _ (add_one (by omega)) (count_cont (by simp [Eqs, E]) hlt ⟨rfl, Heap.le_trans hle hle2, by omega, ?_⟩)
    rw [List.take_add_one, List.getElem?_eq_getElem hlt, List.all_append, hor]
    simp only [Option.toList_some, List.all_cons, List.all_nil, Bool.and_true, Bool.true_and]
    rw [cdLight, hc, hor2]; rfl
 ·have hb : (decide ((i : Int) < (cs.length : Int)) && decide ((i : Int) < 13)) = false := hb
  rw [Bool.and_eq_false_iff, decide_eq_false_iff_not, decide_eq_false_iff_not] at hb
  repeat (first | refine chkN_den ?_ | refine chkV_den ?_ | refine chkP_den rfl ?_)
  refine pure_den _ h.len ?_
  repeat (first | refine chkN_den ?_ | refine chkV_den ?_ | refine chkP_den rfl ?_)
  refine pure_den _ (leq_eq _ _) (ret_denO ⟨?_, rfl⟩)
  congr 1
  rw [lightB]
  rcases hb with hb | hb
  ·have e1 : cs.take i = cs := List.take_of_length_le (by omega)
   have e2 : cs.take 13 = cs := List.take_of_length_le (by omega)
   rw [e1] at hor
   rw [e2, hor, Bool.true_and]
  ·obtain rfl : i = 13 := by omega
   rw [hor, Bool.true_and]
end Go.Proofs.Ytbaegnnmedjkmaa
namespace Go.Proofs.Ytbaegnnmedjkmaa
open Go Go.Sx
set_option maxRecDepth 100000
set_option maxHeartbeats 1000000
end Go.Proofs.Ytbaegnnmedjkmaa
namespace Go.Proofs.Ytbaegnnmedjkmaa
open Go Go.Sx
set_option maxRecDepth 100000
set_option maxHeartbeats 1000000
theorem both_mem {cs : List Cd} {b : Bd} {p x : Int} : x ∈ bothT cs b p ↔ x ∈ ownT cs b p ∨ x ∈ ownT cs b (1 - p) := by
 rw [bothT, (sortI_perm _).mem_iff, List.mem_append]
theorem both_sorted {cs : List Cd} {b : Bd} (h : validBd b = true) (p : Int) : (bothT cs b p).Pairwise (· < ·) := sortI_sorted (both_nodup h p)
theorem both_nd {cs : List Cd} {b : Bd} (h : validBd b = true) (p : Int) : (bothT cs b p).Nodup := (both_sorted h p).imp fun h => by omega
theorem both_swap {cs : List Cd} {b : Bd} (h : validBd b = true) (p : Int) : bothT cs b (1 - p) = bothT cs b p := by
 refine strict_ext (both_sorted h _) (both_sorted h _) fun x => ?_
 rw [both_mem, both_mem, show 1 - (1 - p) = p by omega]
 exact or_comm
theorem any_tgs {l : List Int} {x : Int} : ((tgs l).any fun y => (⟨x, 0⟩ : Tg) == y) = true ↔ x ∈ l := by
 simp [tgs]
theorem tg_read {H : Heap} {x : Value} {l : List Tg} (O : Own) (h : Sl H 2 x (tRows l)) {i : Nat} (hi : i < l.length) : ∃ a, evalPure (.idx 2) [x, iV i] = some (.pointer (some a)) ∧ Reads H O (.pointer (some a)) 2 l[i].row ∧ Reads H O (.pointer (some a)) 1 [iV l[i].id] := by
 obtain ⟨a, k1, k2, k3, k4, k5⟩ := (h.rsl O).idx .i64 i l[i].row (tRows_get hi)
 have k6 := k3 0 1 (by omega)
 rw [ptr0] at k6
 exact ⟨a, k1, k2, k6⟩
end Go.Proofs.Ytbaegnnmedjkmaa
namespace Go.Proofs.Ytbaegnnmedjkmaa
open Go Go.Sx
set_option maxRecDepth 100000
set_option maxHeartbeats 1000000
theorem perm_pick : ∀ {l : List (Int × Int)} {a p : Int}, (l.map (·.1)).Nodup → (a, p) ∈ l → l.Perm ((a, p) :: l.filter fun q => q.1 != a)
 | [], _, _, _, h => by simp at h
 | q :: l, a, p, hn, h => by
  rw [List.map_cons, List.nodup_cons] at hn
  rcases List.mem_cons.1 h with rfl | h
  ·have e : l.filter (fun q => q.1 != a) = l := by
    rw [List.filter_eq_self]
    intro x hx
    simp only [bne_iff_ne, ne_eq]
    rintro rfl
    exact hn.1 (List.mem_map.2 ⟨x, hx, rfl⟩)
   rw [List.filter_cons, if_neg (by simp), e]
  ·have hne : q.1 ≠ a := fun e => hn.1 (List.mem_map.2 ⟨(a, p), h, e.symm⟩)
   rw [List.filter_cons, if_pos (by simpa using hne)]
   exact ((perm_pick hn.2 h).cons q).trans (List.Perm.swap _ _ _)
theorem pairs_out (s : St) (id p : Int) : pairsS (outS s id) p = (pairsS s p).filter fun q => q.1 != id := by
 simp only [pairsS, outS, without, List.filter_map, List.filter_append, List.map_append, Function.comp_def]
theorem cards_out (l : List It) (id : Int) : cardsOn (l.filter fun x => !isOn id x) = (cardsOn l).filter fun x => x.id != id := by
 rw [cardsOn, cardsOn, List.filter_filter, List.filter_filter]
 refine List.filter_congr fun x _ => ?_
 simp only [isOn]
 cases decide (x.trig < 0)
 ·simp
 ·simp [bne]
theorem owned_out (l : List It) (id : Int) : owned (l.filter fun x => !isOn id x) = (owned l).filter fun q => q.1 != id := by
 rw [owned, owned, cards_out, List.filter_map]; rfl
theorem carded_out (l : List It) (id : Int) : carded (l.filter fun x => !isOn id x) = (carded l).filter fun q => q.1 != id := by
 rw [carded, carded, cards_out, List.filter_map]; rfl
theorem pairsB_out (b : Bd) (id : Int) : pairsB (outB b id) = (pairsB b).filter fun q => q.1 != id := by
 have e0 : (outB b id).s0 = outS b.s0 id := rfl
 have e1 : (outB b id).s1 = outS b.s1 id := rfl
 have e2 : (outB b id).stack = b.stack.filter fun x => !isOn id x := rfl
 rw [pairsB, pairsB, e0, e1, e2, pairs_out, pairs_out, owned_out, List.filter_append, List.filter_append]
theorem pairs_put (s : St) {z : Int} (hz : z = 0 ∨ z = 1 ∨ z = 2 ∨ z = 3) (id p : Int) : (pairsS (putZ s z id) p).Perm ((id, p) :: pairsS s p) := by
 have key : ∀ {a b c d : List Int}, (a ++ ([id] ++ (b ++ (c ++ d)))).Perm (id :: (a ++ (b ++ (c ++ d)))) := fun {a b c d} => List.perm_middle
 rcases hz with rfl | rfl | rfl | rfl
 ·have e : (putZ s 0 id) = { s with lib := s.lib ++ [id] } := rfl
  rw [e, pairsS, pairsS, ← List.map_cons (f := fun i => (i, p))]
  refine List.Perm.map _ ?_
  show (s.lib ++ [id] ++ (s.hand ++ (s.field ++ s.grave))).Perm _
  rw [List.append_assoc]; exact List.perm_middle
 ·have e : (putZ s 1 id) = { s with hand := s.hand ++ [id] } := rfl
  rw [e, pairsS, pairsS, ← List.map_cons (f := fun i => (i, p))]
  refine List.Perm.map _ ?_
  show (s.lib ++ (s.hand ++ [id] ++ (s.field ++ s.grave))).Perm _
  rw [List.append_assoc, ← List.append_assoc s.lib]
  refine List.perm_middle.trans ?_
  rw [List.append_assoc]
  exact List.Perm.refl _
 ·have e : (putZ s 2 id) = { s with field := s.field ++ [id] } := rfl
  rw [e, pairsS, pairsS, ← List.map_cons (f := fun i => (i, p))]
  refine List.Perm.map _ ?_
  show (s.lib ++ (s.hand ++ (s.field ++ [id] ++ s.grave))).Perm _
  rw [List.append_assoc, ← List.append_assoc s.hand, ← List.append_assoc s.lib]
  refine List.perm_middle.trans ?_
  rw [List.append_assoc, List.append_assoc]
  exact List.Perm.refl _
 ·have e : (putZ s 3 id) = { s with grave := s.grave ++ [id] } := rfl
  rw [e, pairsS, pairsS, ← List.map_cons (f := fun i => (i, p))]
  refine List.Perm.map _ ?_
  show (s.lib ++ (s.hand ++ (s.field ++ (s.grave ++ [id])))).Perm _
  rw [← List.append_assoc, ← List.append_assoc, ← List.append_assoc]
  refine List.perm_append_comm.trans ?_
  show (id :: _).Perm _
  rw [List.append_assoc, List.append_assoc]
  exact List.Perm.refl _
theorem pairsB_put (b : Bd) {p : Int} (hp : p = 0 ∨ p = 1) {z : Int} (hz : z = 0 ∨ z = 1 ∨ z = 2 ∨ z = 3) (id : Int) : (pairsB (putB b p z id)).Perm ((id, p) :: pairsB b) := by
 rcases hp with rfl | rfl
 ·exact (pairs_put b.s0 hz id 0).append_right _
 ·refine List.Perm.trans ((((pairs_put b.s1 hz id 1).append_right _).append_left _)) ?_
  exact List.perm_middle
theorem look_filter {l : List (Int × Int)} {id x v : Int} (h : lookI (l.filter fun q => q.1 != id) x = some v) : lookI l x = some v := by
 induction l with
 | nil => exact h
 | cons q l ih =>
  by_cases hq : q.1 = id
  ·rw [List.filter_cons, if_neg (by simp [hq])] at h
   have h2 := ih h
   have hx : x ≠ id := by
    rintro rfl
    have : lookI (l.filter fun q => q.1 != x) x = none := by
     rw [lookI_none]
     intro hm
     obtain ⟨y, hy, e⟩ := List.mem_map.1 hm
     have := (List.mem_filter.1 hy).2
     simp [e] at this
    rw [this] at h; cases h
   have hne : (x == q.1) = false := by rw [hq]; simpa using hx
   simp only [lookI, List.find?_cons, hne] at h2 ⊢
   exact h2
  ·rw [List.filter_cons, if_pos (by simpa using hq)] at h
   simp only [lookI, List.find?_cons] at h ih ⊢
   cases hxq : (x == q.1)
   ·rw [hxq] at h
    exact ih h
   ·rw [hxq] at h
    exact h
theorem placed_moved {b c : Bd} (h : placedB validO b = true) (hp : (pairsB b).Perm (pairsB c)) (ho : c.objs = b.objs) (hc : ∀ x v, lookI (carded c.stack) x = some v → lookI (carded b.stack) x = some v) : placedB validO c = true := by
 obtain ⟨p1, p2, p3⟩ := placed_objs h
 have hn := placed_nodup h
 rw [← ids_pairs] at hn
 simp only [placedB, Bool.and_eq_true, decide_eq_true_eq, objsGo_eq, ho]
 refine ⟨(hp.map _).nodup_iff.1 hn, ⟨p1, ?_⟩, by rw [← hp.length_eq]; exact p3⟩
 rw [List.all_eq_true] at p2 ⊢
 intro o hm
 have h1 := p2 o hm
 simp only [ok1, Bool.and_eq_true] at h1 ⊢
 rw [← lookI_perm hn hp]
 refine ⟨h1.1, h1.2.1, h1.2.2.1, ?_⟩
 have h2 := h1.2.2.2
 cases e : lookI (carded c.stack) o.id with
 | none => rfl
 | some v => rw [hc _ _ e] at h2; exact h2
theorem blk_sub {att other att' other' : List Int} {id : Int} (ha : ∀ y ∈ att, y ≠ id → y ∈ att') (ho : ∀ y ∈ other, y ≠ id → y ∈ other') :
  ∀ {bl : List Bl} {ua ub ua' ub' : List Int}, (∀ y ∈ ua', y ∈ ua) → (∀ y ∈ ub', y ∈ ub) → blkGo att other ua ub bl = true → blkGo att' other' ua' ub' (bl.filter fun x => !inFight id x) = true
 | [], _, _, _, _, _, _, _ => rfl
 | x :: bl, ua, ub, ua', ub', h1, h2, h => by
  simp only [blkGo, Bool.and_eq_true, Bool.not_eq_true', List.contains_iff_mem, ← Bool.not_eq_true] at h
  obtain ⟨⟨⟨q1, q2⟩, q3, q4⟩, q5⟩ := h
  by_cases hx : inFight id x = true
  ·rw [List.filter_cons, if_neg (by simp [hx])]
   exact blk_sub ha ho (fun y hy => List.mem_cons_of_mem _ (h1 y hy)) (fun y hy => List.mem_cons_of_mem _ (h2 y hy)) q5
  ·rw [List.filter_cons, if_pos (by simpa using hx)]
   simp only [inFight, Bool.or_eq_true, beq_iff_eq, not_or] at hx
   simp only [blkGo, Bool.and_eq_true, Bool.not_eq_true', List.contains_iff_mem, ← Bool.not_eq_true]
   refine ⟨⟨⟨fun hy => q1 (h1 _ hy), ha _ q2 hx.2⟩, fun hy => q3 (h2 _ hy), ho _ q4 hx.1⟩, ?_⟩
   refine blk_sub ha ho (fun y hy => ?_) (fun y hy => ?_) q5
   ·rcases List.mem_cons.1 hy with rfl | hy
    ·exact List.mem_cons_self
    ·exact List.mem_cons_of_mem _ (h1 y hy)
   ·rcases List.mem_cons.1 hy with rfl | hy
    ·exact List.mem_cons_self
    ·exact List.mem_cons_of_mem _ (h2 y hy)
theorem mem_without {l : List Int} {id y : Int} : y ∈ without l id ↔ y ∈ l ∧ y ≠ id := by rw [without, List.mem_filter, bne_iff_ne]
theorem fights_move {own other own' other' att : List Int} {bl : List Bl} {id : Int} (ha : ∀ y ∈ own, y ≠ id → y ∈ own') (ho : ∀ y ∈ other, y ≠ id → y ∈ other') (h : fightsB own other att bl = true) :
  fightsB own' other' (without att id) (bl.filter fun x => !inFight id x) = true := by
 simp only [fightsB, Bool.and_eq_true, decide_eq_true_eq, List.all_eq_true, List.contains_iff_mem] at h ⊢
 refine ⟨h.1.filter _, fun x hx => ?_, blk_sub (fun y hy hne => mem_without.2 ⟨hy, hne⟩) ho (fun _ h => h) (fun _ h => h) h.2.2⟩
 obtain ⟨h1, h2⟩ := mem_without.1 hx
 exact ha x (h.2.1 x h1) h2
/-- Where the others are after a move. -/
theorem move_field {b : Bd} {k : Nat} {o : Ob} {z : Int} (ho : o.owner = 0 ∨ o.owner = 1) (hz : z = 0 ∨ z = 1 ∨ z = 2 ∨ z = 3) {q : Int} (hq : q = 0 ∨ q = 1) (y : Int) :
  y ∈ (seatOf (moveB b k o z) q).field ↔ (y ∈ (seatOf b q).field ∧ y ≠ o.id) ∨ (y = o.id ∧ z = 2 ∧ q = o.owner) := by
 rw [moveB]
 generalize o.id = id
 rcases ho with h | h <;> rw [h] <;> rcases hq with rfl | rfl <;> rcases hz with rfl | rfl | rfl | rfl <;> simp [putB, withSeat, seatOf, putZ, setOb, outB, outS, mem_without]
theorem move_objs {b : Bd} {k : Nat} {o : Ob} {z : Int} : (moveB b k o z).objs = b.objs.set k o := by
 rw [moveB, putB, withSeat]; split <;> rfl
theorem move_stack {b : Bd} {k : Nat} {o : Ob} {z : Int} : (moveB b k o z).stack = b.stack.filter fun x => !isOn o.id x := by
 rw [moveB, putB, withSeat]; split <;> rfl
theorem move_seats {b : Bd} {k : Nat} {o : Ob} {z : Int} : seatOkB (moveB b k o z).s0 = seatOkB b.s0 ∧ seatOkB (moveB b k o z).s1 = seatOkB b.s1 := by
 have hz : ∀ (s : St) (id : Int), seatOkB (putZ s z id) = seatOkB s := fun s id => by
  rw [putZ]
  split
  ·rfl
  split
  ·rfl
  split
  ·rfl
  split
  ·rfl
  ·rfl
 rw [moveB, putB, withSeat]
 split
 ·rename_i h
  refine ⟨?_, rfl⟩
  show seatOkB (putZ (seatOf (setOb (outB b o.id) k o) o.owner) z o.id) = _
  rw [hz, seatOf, if_pos h]; rfl
 ·rename_i h
  refine ⟨rfl, ?_⟩
  show seatOkB (putZ (seatOf (setOb (outB b o.id) k o) o.owner) z o.id) = _
  rw [hz, seatOf, if_neg h]; rfl
theorem move_rest {b : Bd} {k : Nat} {o : Ob} {z : Int} : (moveB b k o z).att = without b.att o.id ∧ (moveB b k o z).blocks = b.blocks.filter (fun x => !inFight o.id x) ∧ (moveB b k o z).active = b.active ∧ (moveB b k o z).turn = b.turn ∧ (moveB b k o z).phase = b.phase ∧ (moveB b k o z).holder = b.holder ∧ (moveB b k o z).passes = b.passes ∧ (moveB b k o z).queue = b.queue := by
 rw [moveB, putB, withSeat]; split <;> exact ⟨rfl, rfl, rfl, rfl, rfl, rfl, rfl, rfl⟩
theorem move_valid {b : Bd} (h : validBd b = true) {k : Nat} {o : Ob} (hk : b.objs[k]? = some o) {z : Int} (hz : z = 0 ∨ z = 1 ∨ z = 2 ∨ z = 3) : validBd (moveB b k (resetO o z) z) = true := by
 have hpl := (valid_parts h).1
 obtain ⟨hvo, hmem, _, hown⟩ := obj_known hpl hk
 generalize hob : resetO o z = o'
 have i1 : o'.id = o.id := by rw [← hob]; rfl
 have i2 : o'.owner = o.owner := by rw [← hob]; rfl
 have i3 : o'.card = o.card := by rw [← hob]; rfl
 have hvo' : validO o' = true := by rw [← hob]; exact validO_reset z hvo
 have hown' : o'.owner = 0 ∨ o'.owner = 1 := by rw [i2]; exact hown
 have hset := placed_set hpl hk i1 i2 i3 hvo'
 obtain ⟨r1, r2, r3, r4, r5, r6, r7, r8⟩ := move_rest (b := b) (k := k) (o := o') (z := z)
 obtain ⟨s0, s1⟩ := move_seats (b := b) (k := k) (o := o') (z := z)
 have hplm : placedB validO (moveB b k o' z) = true := by
  refine placed_moved hset ?_ move_objs fun x v hx => ?_
  ·have hn := placed_nodup hpl
   rw [← ids_pairs] at hn
   have e : pairsB (setOb (outB b o'.id) k o') = (pairsB b).filter fun q => q.1 != o'.id := by rw [show pairsB (setOb (outB b o'.id) k o') = pairsB (outB b o'.id) from rfl, pairsB_out]
   have p1 := perm_pick hn hmem
   have p2 := pairsB_put (setOb (outB b o'.id) k o') hown' hz o'.id
   rw [e, i1, i2] at p2
   rw [moveB, i1, i2]
   exact p1.trans p2.symm
  ·rw [move_stack, carded_out] at hx
   exact look_filter hx
 have hf : fightsBd (moveB b k o' z) = true := by
  have h0 := (valid_parts h).2.1
  have f0 : ∀ y ∈ b.s0.field, y ≠ o'.id → y ∈ (moveB b k o' z).s0.field := fun y hy hne => (move_field (b := b) (k := k) hown' hz (q := 0) (.inl rfl) y).2 (.inl ⟨hy, hne⟩)
  have f1 : ∀ y ∈ b.s1.field, y ≠ o'.id → y ∈ (moveB b k o' z).s1.field := fun y hy hne => (move_field (b := b) (k := k) hown' hz (q := 1) (.inr rfl) y).2 (.inl ⟨hy, hne⟩)
  rw [fightsBd] at h0 ⊢
  rw [r1, r2, r3]
  split
  ·rename_i ha
   rw [if_pos ha] at h0
   exact fights_move f0 f1 h0
  ·rename_i ha
   rw [if_neg ha] at h0
   exact fights_move f1 f0 h0
 have hlen : (moveB b k o' z).objs.length = b.objs.length := by rw [move_objs, List.length_set]
 have hsl : (moveB b k o' z).stack.length ≤ b.stack.length := by rw [move_stack]; exact List.length_filter_le _ _
 have hany : ((moveB b k o' z).stack.any fun x => !fineB x false) = false := by
  rw [List.any_eq_false]
  intro x hx
  rw [move_stack] at hx
  have h4 := (valid_parts h).2.2.2
  rw [List.all_eq_true] at h4
  rw [h4 x (List.mem_filter.1 hx).1]; simp
 simp only [validBd, midBad, Bool.and_eq_true, Bool.not_eq_true', Bool.or_eq_false_iff, decide_eq_false_iff_not] at h ⊢
 obtain ⟨a1, a2, a3, a4, ⟨⟨⟨a5, a6⟩, a7⟩, a8⟩, a9, a10, a11, a12, a13⟩ := h
 rw [r3, r4, r5, r6, r7, r8, hlen, s0, s1]
 exact ⟨a1, a2, a3, a4, ⟨⟨⟨a5, a6⟩, by omega⟩, a8⟩, a9, a10, hany, a12, hplm, hf⟩
/-- Which ids are those of creatures. -/
theorem mem_creat {ks : List Int} {b : Bd} (h : validBd b = true) {q : Int} (hq : q = 0 ∨ q = 1) {x : Int} : x ∈ creatP ks b q ↔ ∃ o ∈ b.objs, o.id = x ∧ o.owner = q ∧ creatB ks o = true ∧ x ∈ (seatOf b q).field := by
 have hw : withinB q 0 1 = true := by simp only [withinB, decide_eq_true_eq]; omega
 rw [creatP, if_pos (by rw [hw, h]; rfl), List.mem_map]
 constructor
 ·rintro ⟨o, ho, rfl⟩
  obtain ⟨m, c⟩ := List.mem_filter.1 ho
  simp only [isCr, Bool.and_eq_true, beq_iff_eq, List.contains_iff_mem] at c
  exact ⟨o, m, rfl, c.1, c.2.1, c.2.2⟩
 ·rintro ⟨o, m, rfl, c1, c2, c3⟩
  refine ⟨o, List.mem_filter.2 ⟨m, ?_⟩, rfl⟩
  simp only [isCr, Bool.and_eq_true, beq_iff_eq, List.contains_iff_mem]
  exact ⟨c1, c2, c3⟩
theorem nodup_len : ∀ {l m : List Int}, l.Nodup → (∀ x ∈ l, x ∈ m) → l.length ≤ m.length
 | [], _, _, _ => Nat.zero_le _
 | a :: l, m, h, hs => by
  rw [List.nodup_cons] at h
  have ha := hs a List.mem_cons_self
  have ih := nodup_len (m := m.erase a) h.2 fun x hx => (List.mem_erase_of_ne (fun e => by rw [e] at hx; exact h.1 hx)).2 (hs x (List.mem_cons_of_mem _ hx))
  rw [List.length_erase_of_mem ha] at ih
  have := List.length_pos_of_mem ha
  rw [List.length_cons]; omega
section
variable {cs : List Cd} {b : Bd} (h : validBd b = true) {k : Nat} {o : Ob} (hk : b.objs[k]? = some o) {z : Int} (hz : z = 0 ∨ z = 1 ∨ z = 2 ∨ z = 3)
include h hk hz
theorem moved_mem {q : Int} (hq : q = 0 ∨ q = 1) {x : Int} : x ∈ ownT cs (moveB b k (resetO o z) z) q ↔ (x ∈ ownT cs b q ∧ x ≠ o.id) ∨ (x = o.id ∧ z = 2 ∧ q = o.owner ∧ creatB (kindsOf cs) o = true) := by
 obtain ⟨hvo, hmem, _, hown⟩ := obj_known (valid_parts h).1 hk
 have hids := (ordP_spec (placed_objs (valid_parts h).1).1).2
 rw [ownT, ownT, mem_creat (move_valid h hk hz) hq, mem_creat h hq]
 have hmf := fun y => move_field (b := b) (k := k) (o := resetO o z) (z := z) hown hz hq y
 have hid : (resetO o z).id = o.id := rfl
 have how : (resetO o z).owner = o.owner := rfl
 rw [hid, how] at hmf
 simp only [hmf, move_objs]
 have hkl := (List.getElem?_eq_some_iff.1 hk).1
 constructor
 ·rintro ⟨o2, m, rfl, c1, c2, c3⟩
  rcases List.mem_or_eq_of_mem_set m with m | rfl
  ·rcases c3 with ⟨c3, c4⟩ | ⟨c3, c4, c5⟩
   ·exact .inl ⟨⟨o2, m, rfl, c1, c2, c3⟩, c4⟩
   ·
    obtain ⟨j, hj⟩ := List.mem_iff_getElem?.1 m
    have e1 := (obj_known (valid_parts h).1 hj).2.2.1
    have e2 := (obj_known (valid_parts h).1 hk).2.2.1
    rw [c3, e2] at e1
    have : k = j := by omega
    subst this
    rw [hk] at hj
    obtain rfl := Option.some.inj hj
    exact .inr ⟨rfl, c4, c5, c2⟩
  ·rcases c3 with ⟨_, c4⟩ | ⟨_, c4, c5⟩
   ·exact absurd rfl c4
   ·exact .inr ⟨rfl, c4, c5, c2⟩
 ·rintro (⟨⟨o2, m, rfl, c1, c2, c3⟩, c4⟩ | ⟨rfl, c4, c5, c6⟩)
  ·refine ⟨o2, ?_, rfl, c1, c2, .inl ⟨c3, c4⟩⟩
   obtain ⟨j, hj⟩ := List.mem_iff_getElem?.1 m
   refine List.mem_of_getElem? (i := j) ?_
   rw [List.getElem?_set_ne (fun e => c4 (by subst e; rw [hk] at hj; rw [Option.some.inj hj]))]
   exact hj
  ·exact ⟨resetO o z, List.mem_of_getElem? (i := k) (by rw [List.getElem?_set_self hkl]), rfl, c5.symm, c6, .inr ⟨rfl, c4, c5⟩⟩
theorem moved_both {x : Int} : x ∈ bothT cs (moveB b k (resetO o z) z) 0 ↔ (x ∈ bothT cs b 0 ∧ x ≠ o.id) ∨ (x = o.id ∧ z = 2 ∧ creatB (kindsOf cs) o = true) := by
 obtain ⟨_, _, _, hown⟩ := obj_known (valid_parts h).1 hk
 rw [both_mem, both_mem, moved_mem h hk hz (.inl rfl), moved_mem h hk hz (q := 1 - 0) (.inr rfl)]
 constructor
 ·rintro ((⟨a, c⟩ | ⟨a, c, _, d⟩) | (⟨a, c⟩ | ⟨a, c, _, d⟩))
  ·exact .inl ⟨.inl a, c⟩
  ·exact .inr ⟨a, c, d⟩
  ·exact .inl ⟨.inr a, c⟩
  ·exact .inr ⟨a, c, d⟩
 ·rintro (⟨a | a, c⟩ | ⟨a, c, d⟩)
  ·exact .inl (.inl ⟨a, c⟩)
  ·exact .inr (.inl ⟨a, c⟩)
  ·rcases hown with e | e
   ·exact .inl (.inr ⟨a, c, e.symm, d⟩)
   ·exact .inr (.inr ⟨a, c, by rw [e]; rfl, d⟩)
theorem moved_len : (bothT cs (moveB b k (resetO o z) z) 0).length ≤ (bothT cs b 0).length + 1 := by
 have := nodup_len (m := o.id :: bothT cs b 0) (both_nd (cs := cs) (move_valid h hk hz) 0) fun x hx => by
  rcases (moved_both h hk hz).1 hx with ⟨a, _⟩ | ⟨a, _⟩
  ·exact List.mem_cons_of_mem _ a
  ·rw [a]; exact List.mem_cons_self
 simpa using this
theorem moved_legal : legalT cs (moveB b k (resetO o z) z) 0 1 ⟨o.id, 0⟩ = ((z == 2) && creatB (kindsOf cs) o) := by
 rw [legalT, ListT, if_pos (by rw [move_valid h hk hz]; rfl), show listT cs (moveB b k (resetO o z) z) 0 1 = tgs (bothT cs (moveB b k (resetO o z) z) 0) from rfl, Bool.eq_iff_iff, any_tgs, moved_both h hk hz]
 simp
theorem moved_others {x : Int} (hx : x ∈ bothT cs b 0) (hne : x ≠ o.id) : legalT cs (moveB b k (resetO o z) z) 1 1 ⟨x, 0⟩ = true := by
 have hs := both_swap (cs := cs) (move_valid h hk hz) 0
 rw [legalT, ListT, if_pos (by rw [move_valid h hk hz]; rfl), show listT cs (moveB b k (resetO o z) z) 1 1 = tgs (bothT cs (moveB b k (resetO o z) z) (1 - 0)) from rfl, hs, any_tgs, moved_both h hk hz]
 exact .inl ⟨hx, hne⟩
theorem moved_spell : legalT cs (moveB b k (resetO o z) z) 0 6 ⟨o.id, 0⟩ = false := by
 rw [legalT, ListT, if_pos (by rw [move_valid h hk hz]; rfl), show listT cs (moveB b k (resetO o z) z) 0 6 = tgs (spellsT cs (moveB b k (resetO o z) z)) from rfl, ← Bool.not_eq_true, any_tgs, spellsT, List.mem_map]
 rintro ⟨x, hx, e⟩
 obtain ⟨m, c⟩ := List.mem_filter.1 hx
 rw [List.mem_reverse, move_stack] at m
 have hn := (List.mem_filter.1 m).2
 simp only [spellP, Bool.and_eq_true] at c
 have hid : (resetO o z).id = o.id := rfl
 have h2 := of_decide_eq_true c.1.2
 simp [isOn, hid, e, h2] at hn
end
end Go.Proofs.Ytbaegnnmedjkmaa
namespace Go.Proofs.Ytbaegnnmedjkmaa
open Go Go.Sx
set_option maxRecDepth 100000
set_option maxHeartbeats 1000000
theorem conv_u8 {n : Int} (h : 0 ≤ n ∧ n ≤ 255) : evalPure (.conv .i64) [.int .u8 n] = some (iV n) := by
 simp only [evalPure]
 rw [wrap_id (by omega) (by omega)]
theorem rem_len {n : Int} {m : Nat} (h : 0 ≤ n) (hm : 0 < m) : evalPure (.bin .rem .int) [iV n, iV (m : Int)] = some (iV ((n.toNat % m : Nat) : Int)) := by
 simp only [evalPure, evalBin, evalInt]
 have h2 : (m : Int) ≠ 0 := by omega
 have h3 : n.tmod (m : Int) = ((n.toNat % m : Nat) : Int) := by
  rw [Int.tmod_eq_emod_of_nonneg h, Int.natCast_emod, Int.toNat_of_nonneg h]
 simp [h2, h3]
 omega
theorem moves16_true {H : Heap} {cv : Value} {cs : List Cd} (hk : CardsS H cv cs) {v : BV12} {b : Bd} (h : BdS H v b) {n : Int} (hn : 0 ≤ n ∧ n ≤ 255) (z : Int) :
  Triple PP F_zeitnotlaw16_TargetMoves [cv, .agg (boardC v b).toArray, .int .u8 n, iV z] H [] fun r _ O' => r = .bool true ∧ O' = [] := by
 refine run_zeitnotlaw16_TargetMoves (vs := cv :: (boardC v b ++ [.int .u8 n, iV z])) (by kernel_rfl) ⟨hk.one, ones_app (boardC_ones (h.r [])) ⟨rfl, rfl, trivial⟩⟩ ?_
 simp only [T_zeitnotlaw16_TargetMoves]
 refine newbox_den fun r0 => ?_
 repeat (first | refine chkN_den ?_ | refine chkV_den ?_ | refine chkP_den rfl ?_)
 refine call_retO (c_light hk) rfl ⟨rfl, trivial⟩ fun H1 l1 => pure_den _ (not_eq' _) (br_den (fun hb => ?_) (fun hb => ?_))
 ·repeat (first | refine chkN_den ?_ | refine chkV_den ?_ | refine chkP_den rfl ?_)
  exact call_retO (c_knownT _ []) rfl ⟨rfl, trivial⟩ fun _ _ => ret_denO ⟨rfl, rfl⟩
 have hli : lightB cs = true := notF hb
 replace h := h.le l1
 replace hk := hk.le l1
 repeat (first | refine chkN_den ?_ | refine chkV_den ?_ | refine chkP_den rfl ?_)
 refine call_retO (c_small (h.r [])) rfl ⟨rfl, trivial⟩ fun H2 l2 => pure_den _ (not_eq' _) (br_den (fun hc => ?_) (fun hc => ?_))
 ·repeat (first | refine chkN_den ?_ | refine chkV_den ?_ | refine chkP_den rfl ?_)
  exact call_retO (c_knownT _ []) rfl ⟨rfl, trivial⟩ fun _ _ => ret_denO ⟨rfl, rfl⟩
 have hsm : smallBd b = true := notF hc
 have hB := small_B hsm
 have hfit := small_fit hsm
 have hst : b.stack.length ≤ 1000000 := hB.2.2.2.1.1
 replace h := h.le l2
 replace hk := hk.le l2
 have olen : evalPure .len [v.o] = some (iV b.objs.length) := by have := h.objs.len; rwa [List.length_map] at this
 repeat (first | refine chkN_den ?_ | refine chkV_den ?_ | refine chkP_den rfl ?_)
 refine call_retO (r_Valid (h.r []) hfit) rfl ⟨rfl, trivial⟩ fun H3 l3 => ?_
 replace h := h.le l3
 replace hk := hk.le l3
 rw [valid_eq]
 repeat (first | refine chkN_den ?_ | refine chkV_den ?_ | refine chkP_den rfl ?_)
 refine pure_den _ (not_eq' _) ?_
 repeat (first | refine chkN_den ?_ | refine chkV_den ?_ | refine chkP_den rfl ?_)
 refine pure_den _ olen ?_
 repeat (first | refine chkN_den ?_ | refine chkV_den ?_ | refine newbox_den fun _ => ?_ | refine pure_den _ (lss_eq _ _) ?_ | refine pure_den _ (gtr_eq _ _) ?_ | refine pure_den _ (leq_eq _ _) ?_ | refine pure_den _ (geq_eq _ _) ?_ | refine pure_den _ (eql_eq _ _) ?_ | refine pure_den _ (neq_eq _ _) ?_ | refine pure_den _ (pick_and _ _) ?_ | refine pure_den _ (pick_or _ _) ?_ | refine pure_den _ (not_eq' _) ?_ | refine pure_den _ (beql_eq _ _) ?_ | refine pure_den _ (bneq_eq _ _) ?_)
 refine br_den (fun hc => ?_) (fun hc => ?_)
 ·repeat (first | refine chkN_den ?_ | refine chkV_den ?_ | refine chkP_den rfl ?_)
  exact call_retO (c_knownT _ []) rfl ⟨rfl, trivial⟩ fun _ _ => ret_denO ⟨rfl, rfl⟩
 have hc : (((!validBd b || ((b.objs.length : Int) == 0)) || decide (z < 0)) || decide (z > 3)) = false := hc
 simp only [Bool.or_eq_false_iff, decide_eq_false_iff_not, beq_eq_false_iff_ne] at hc
 obtain ⟨⟨⟨hv, hpos⟩, z0⟩, z3⟩ := hc
 have h0v : validBd b = true := notF hv
 have hz4 : z = 0 ∨ z = 1 ∨ z = 2 ∨ z = 3 := by omega
 have hlen : 0 < b.objs.length := by omega
 have hmod : n.toNat % b.objs.length < b.objs.length := Nat.mod_lt _ hlen
 generalize hkd : n.toNat % b.objs.length = k at hmod
 have e0 : b.objs[k]? = some b.objs[k] := List.getElem?_eq_getElem hmod
 generalize hod : b.objs[k] = o at e0
 obtain ⟨_, _, hidx, hown⟩ := obj_known (valid_parts h0v).1 e0
 have eL : ∀ k, ListT cs b 0 k = listT cs b 0 k := fun k => by rw [ListT, if_pos (by rw [h0v]; rfl)]
 have hvm := move_valid h0v e0 hz4
 have n3 : (bothT cs b 0).length ≤ 2000000 := by
  have n1 : (ownT cs b 0).length ≤ 1000000 := creatP_len h0v 0
  have n2 : (ownT cs b (1 - 0)).length ≤ 1000000 := creatP_len h0v (1 - 0)
  rw [bothT, sortI_len, List.length_append]; omega
 have eM : ∀ j, ListT cs (moveB b k (resetO o z) z) 0 j = listT cs (moveB b k (resetO o z) z) 0 j := fun j => by rw [ListT, if_pos (by rw [hvm]; rfl)]
 have hst' : (moveB b k (resetO o z) z).stack.length ≤ 1000000 := by rw [move_stack]; exact Nat.le_trans (List.length_filter_le _ _) hst
 obtain ⟨a, i1, i2, i3, i4⟩ := h.objs.idx (k := .i64) (i := k) (r := Ob.row o) (by rw [List.getElem?_map, e0]; rfl)
 repeat (first | refine chkN_den ?_ | refine chkV_den ?_ | refine chkP_den rfl ?_)
 refine pure_den _ (conv_u8 hn) ?_
 repeat (first | refine chkN_den ?_ | refine chkV_den ?_ | refine chkP_den rfl ?_)
 refine pure_den _ olen ?_
 repeat (first | refine chkN_den ?_ | refine chkV_den ?_ | refine chkP_den rfl ?_)
 refine pure_den _ (rem_len hn.1 hlen) ?_
 rw [hkd]
 repeat (first | refine chkN_den ?_ | refine chkV_den ?_ | refine chkP_den rfl ?_)
 refine pure_den _ i1 (load_den i2 i3 i4 (newbox_den fun r1 => ?_))
 have hmv := r_Move h hB e0 hidx hown z
 have emr : moveR b k (resetO o z) z = moveB b k (resetO o z) z := by
  show putB (setOb (outR b o.id) k _) o.owner z o.id = putB (setOb (outB b o.id) k _) o.owner z o.id
  rw [outR_eq h0v]
 rw [emr] at hmv
 repeat (first | refine chkN_den ?_ | refine chkV_den ?_ | refine chkP_den rfl ?_)
 refine call_new hmv ?_
 rintro _ H4 _ ⟨⟨wm, rfl, hM⟩, rfl⟩ l4
 refine ⟨boardC wm _, rfl, boardC_ones (hM.r []), newbox_den fun r2 => ?_⟩
 replace h := h.le l4
 replace hk := hk.le l4
 repeat (first | refine chkN_den ?_ | refine chkV_den ?_ | refine chkP_den rfl ?_)
 refine newbox_den fun r3 => ?_
 repeat (first | refine chkN_den ?_ | refine chkV_den ?_ | refine chkP_den rfl ?_)
 refine call_new0 (c_Legal hk hli hM hst' 0 1 ⟨o.id, 0⟩) rfl ⟨rfl, trivial⟩ fun H5 l5 => ?_
 rw [moved_legal h0v e0 hz4]
 replace h := h.le l5
 replace hk := hk.le l5
 replace hM := hM.le l5
 repeat (first | refine chkN_den ?_ | refine chkV_den ?_ | refine chkP_den rfl ?_)
 refine pure_den _ (eql_eq _ _) (br_den (fun h2 => ?_) (fun h2 => ?_))
 ·have h2 : (z == 2) = true := h2
  rw [h2, Bool.true_and]
  repeat (first | refine chkN_den ?_ | refine chkV_den ?_ | refine chkP_den rfl ?_)
  refine call_retO (r_Creature hk.kinds o) rfl ⟨rfl, trivial⟩ fun H6 l6 => ?_
  replace h := h.le l6
  replace hk := hk.le l6
  replace hM := hM.le l6
  repeat (first | refine chkN_den ?_ | refine chkV_den ?_ | refine chkP_den rfl ?_)
  refine pure_den _ (bneq_eq _ _) (br_den (fun hd => by simp at hd) (fun _ => ?_))
  repeat (first | refine chkN_den ?_ | refine chkV_den ?_ | refine chkP_den rfl ?_)
  refine call_new0 (c_Legal hk hli hM hst' 0 6 ⟨o.id, 0⟩) rfl ⟨rfl, trivial⟩ fun H7 l7 => ?_
  rw [moved_spell h0v e0 hz4]
  refine br_den (fun hd => by cases hd) (fun _ => ?_)
  replace h := h.le l7
  replace hk := hk.le l7
  replace hM := hM.le l7
  repeat (first | refine chkN_den ?_ | refine chkV_den ?_ | refine chkP_den rfl ?_)
  refine call_new (c_TList hk hli h hst 0 1) ?_
  rintro x H8 _ ⟨hx, rfl⟩ l8
  refine ⟨[x], rfl, ⟨hx.one, trivial⟩, ?_⟩
  rw [eL, show listT cs b 0 1 = tgs (bothT cs b 0) from rfl] at hx
  replace hk := hk.le l8
  replace hM := hM.le l8
  have xlen : evalPure .len [x] = some (iV (bothT cs b 0).length) := by have := hx.len; rwa [tRows_len, tgs_len] at this
  repeat (first | refine chkN_den ?_ | refine chkV_den ?_ | refine chkP_den rfl ?_)
  refine count_den (bothT cs b 0).length (fun i H' O' => O' = [] ∧ Heap.le H8 H') ⟨rfl, Heap.le_refl _⟩ ?_
  rintro i H9 O9 hi - ⟨rfl, hle⟩
  replace hk := hk.le hle
  replace hM := hM.le hle
  repeat (first | refine chkN_den ?_ | refine chkV_den ?_ | refine chkP_den rfl ?_)
  refine pure_den _ xlen ?_
  repeat (first | refine chkN_den ?_ | refine chkV_den ?_ | refine chkP_den rfl ?_)
  refine pure_den _ (lss_eq _ _) (br_den (fun hb => ?_) (fun hb => ?_))
  ·have hlt : i < (bothT cs b 0).length := by simpa using hb
   have hlt' : i < (tgs (bothT cs b 0)).length := by rw [tgs_len]; exact hlt
   have eAi : (tgs (bothT cs b 0))[i] = ⟨(bothT cs b 0)[i], 0⟩ := by simp [tgs]
   obtain ⟨a, h1, h2, _⟩ := tg_read [] (hx.le hle) hlt'
   rw [eAi] at h2
   repeat (first | refine chkN_den ?_ | refine chkV_den ?_ | refine chkP_den rfl ?_)
   refine pure_den _ h1 (load_denR h2 rfl (tg_ones _) ?_)
   repeat (first | refine chkN_den ?_ | refine chkV_den ?_ | refine chkP_den rfl ?_)
   refine raw_denG (tgEq ⟨(bothT cs b 0)[i], 0⟩ ⟨o.id, 0⟩) (br_den (fun hc => ?_) (fun hc => ?_))
   ·have hne : (bothT cs b 0)[i] ≠ o.id := fun e => by rw [e] at hc; simp at hc
    repeat (first | refine chkN_den ?_ | refine chkV_den ?_ | refine chkP_den rfl ?_)
    refine pure_den _ h1 (load_denR h2 rfl (tg_ones _) ?_)
    repeat (first | refine chkN_den ?_ | refine chkV_den ?_ | refine chkP_den rfl ?_)
    refine call_new0 (c_Legal hk hli hM hst' 1 1 ⟨(bothT cs b 0)[i], 0⟩) rfl ⟨rfl, trivial⟩ fun H10 l10 => ?_
    rw [moved_others h0v e0 hz4 (List.getElem_mem hlt) hne]
    repeat (first | refine chkN_den ?_ | refine chkV_den ?_ | refine chkP_den rfl ?_)
    refine pure_den _ (not_eq' _) (br_den (fun hd => by cases hd) (fun _ => ?_))
    repeat (first | refine chkN_den ?_ | refine chkV_den ?_ | refine chkP_den rfl ?_)
    exact pure_den _ (add_one (by omega)) (count_cont (by simp [Eqs, E]) hlt ⟨rfl, Heap.le_trans hle l10⟩)
   ·repeat (first | refine chkN_den ?_ | refine chkV_den ?_ | refine chkP_den rfl ?_)
    exact pure_den _ (add_one (by omega)) (count_cont (by simp [Eqs, E]) hlt ⟨rfl, hle⟩)
  ·repeat (first | refine chkN_den ?_ | refine chkV_den ?_ | refine chkP_den rfl ?_)
   refine call_new (c_TList hk hli hM hst' 0 1) ?_
   rintro y H10 _ ⟨hy, rfl⟩ l10
   refine ⟨[y], rfl, ⟨hy.one, trivial⟩, ?_⟩
   rw [eM, show listT cs (moveB b k (resetO o z) z) 0 1 = tgs (bothT cs (moveB b k (resetO o z) z) 0) from rfl] at hy
   have ylen : evalPure .len [y] = some (iV (bothT cs (moveB b k (resetO o z) z) 0).length) := by have := hy.len; rwa [tRows_len, tgs_len] at this
   have hml := moved_len (cs := cs) h0v e0 hz4
   repeat (first | refine chkN_den ?_ | refine chkV_den ?_ | refine chkP_den rfl ?_)
   refine pure_den _ ylen ?_
   repeat (first | refine chkN_den ?_ | refine chkV_den ?_ | refine chkP_den rfl ?_)
   refine pure_den _ xlen ?_
   repeat (first | refine chkN_den ?_ | refine chkV_den ?_ | refine chkP_den rfl ?_)
   refine pure_den _ (add_one (by omega)) ?_
   repeat (first | refine chkN_den ?_ | refine chkV_den ?_ | refine chkP_den rfl ?_)
   refine pure_den _ (leq_eq _ _) (br_den (fun _ => ?_) (fun hd => ?_))
   ·repeat (first | refine chkN_den ?_ | refine chkV_den ?_ | refine chkP_den rfl ?_)
    exact call_retO (c_knownT _ []) rfl ⟨rfl, trivial⟩ fun _ _ => ret_denO ⟨rfl, rfl⟩
   ·exfalso
    have := of_decide_eq_false hd
    omega
 ·have h2 : (z == 2) = false := h2
  rw [h2, Bool.false_and]
  repeat (first | refine chkN_den ?_ | refine chkV_den ?_ | refine chkP_den rfl ?_)
  refine pure_den _ (bneq_eq _ _) (br_den (fun hd => by simp at hd) (fun _ => ?_))
  repeat (first | refine chkN_den ?_ | refine chkV_den ?_ | refine chkP_den rfl ?_)
  refine call_new0 (c_Legal hk hli hM hst' 0 6 ⟨o.id, 0⟩) rfl ⟨rfl, trivial⟩ fun H7 l7 => ?_
  rw [moved_spell h0v e0 hz4]
  refine br_den (fun hd => by cases hd) (fun _ => ?_)
  replace h := h.le l7
  replace hk := hk.le l7
  replace hM := hM.le l7
  repeat (first | refine chkN_den ?_ | refine chkV_den ?_ | refine chkP_den rfl ?_)
  refine call_new (c_TList hk hli h hst 0 1) ?_
  rintro x H8 _ ⟨hx, rfl⟩ l8
  refine ⟨[x], rfl, ⟨hx.one, trivial⟩, ?_⟩
  rw [eL, show listT cs b 0 1 = tgs (bothT cs b 0) from rfl] at hx
  replace hk := hk.le l8
  replace hM := hM.le l8
  have xlen : evalPure .len [x] = some (iV (bothT cs b 0).length) := by have := hx.len; rwa [tRows_len, tgs_len] at this
  repeat (first | refine chkN_den ?_ | refine chkV_den ?_ | refine chkP_den rfl ?_)
  refine count_den (bothT cs b 0).length (fun i H' O' => O' = [] ∧ Heap.le H8 H') ⟨rfl, Heap.le_refl _⟩ ?_
  rintro i H9 O9 hi - ⟨rfl, hle⟩
  replace hk := hk.le hle
  replace hM := hM.le hle
  repeat (first | refine chkN_den ?_ | refine chkV_den ?_ | refine chkP_den rfl ?_)
  refine pure_den _ xlen ?_
  repeat (first | refine chkN_den ?_ | refine chkV_den ?_ | refine chkP_den rfl ?_)
  refine pure_den _ (lss_eq _ _) (br_den (fun hb => ?_) (fun hb => ?_))
  ·have hlt : i < (bothT cs b 0).length := by simpa using hb
   have hlt' : i < (tgs (bothT cs b 0)).length := by rw [tgs_len]; exact hlt
   have eAi : (tgs (bothT cs b 0))[i] = ⟨(bothT cs b 0)[i], 0⟩ := by simp [tgs]
   obtain ⟨a, h1, h2, _⟩ := tg_read [] (hx.le hle) hlt'
   rw [eAi] at h2
   repeat (first | refine chkN_den ?_ | refine chkV_den ?_ | refine chkP_den rfl ?_)
   refine pure_den _ h1 (load_denR h2 rfl (tg_ones _) ?_)
   repeat (first | refine chkN_den ?_ | refine chkV_den ?_ | refine chkP_den rfl ?_)
   refine raw_denG (tgEq ⟨(bothT cs b 0)[i], 0⟩ ⟨o.id, 0⟩) (br_den (fun hc => ?_) (fun hc => ?_))
   ·have hne : (bothT cs b 0)[i] ≠ o.id := fun e => by rw [e] at hc; simp at hc
    repeat (first | refine chkN_den ?_ | refine chkV_den ?_ | refine chkP_den rfl ?_)
    refine pure_den _ h1 (load_denR h2 rfl (tg_ones _) ?_)
    repeat (first | refine chkN_den ?_ | refine chkV_den ?_ | refine chkP_den rfl ?_)
    refine call_new0 (c_Legal hk hli hM hst' 1 1 ⟨(bothT cs b 0)[i], 0⟩) rfl ⟨rfl, trivial⟩ fun H10 l10 => ?_
    rw [moved_others h0v e0 hz4 (List.getElem_mem hlt) hne]
    repeat (first | refine chkN_den ?_ | refine chkV_den ?_ | refine chkP_den rfl ?_)
    refine pure_den _ (not_eq' _) (br_den (fun hd => by cases hd) (fun _ => ?_))
    repeat (first | refine chkN_den ?_ | refine chkV_den ?_ | refine chkP_den rfl ?_)
    exact pure_den _ (add_one (by omega)) (count_cont (by simp [Eqs, E]) hlt ⟨rfl, Heap.le_trans hle l10⟩)
   ·repeat (first | refine chkN_den ?_ | refine chkV_den ?_ | refine chkP_den rfl ?_)
    exact pure_den _ (add_one (by omega)) (count_cont (by simp [Eqs, E]) hlt ⟨rfl, hle⟩)
  ·repeat (first | refine chkN_den ?_ | refine chkV_den ?_ | refine chkP_den rfl ?_)
   refine call_new (c_TList hk hli hM hst' 0 1) ?_
   rintro y H10 _ ⟨hy, rfl⟩ l10
   refine ⟨[y], rfl, ⟨hy.one, trivial⟩, ?_⟩
   rw [eM, show listT cs (moveB b k (resetO o z) z) 0 1 = tgs (bothT cs (moveB b k (resetO o z) z) 0) from rfl] at hy
   have ylen : evalPure .len [y] = some (iV (bothT cs (moveB b k (resetO o z) z) 0).length) := by have := hy.len; rwa [tRows_len, tgs_len] at this
   have hml := moved_len (cs := cs) h0v e0 hz4
   repeat (first | refine chkN_den ?_ | refine chkV_den ?_ | refine chkP_den rfl ?_)
   refine pure_den _ ylen ?_
   repeat (first | refine chkN_den ?_ | refine chkV_den ?_ | refine chkP_den rfl ?_)
   refine pure_den _ xlen ?_
   repeat (first | refine chkN_den ?_ | refine chkV_den ?_ | refine chkP_den rfl ?_)
   refine pure_den _ (add_one (by omega)) ?_
   repeat (first | refine chkN_den ?_ | refine chkV_den ?_ | refine chkP_den rfl ?_)
   refine pure_den _ (leq_eq _ _) (br_den (fun _ => ?_) (fun hd => ?_))
   ·repeat (first | refine chkN_den ?_ | refine chkV_den ?_ | refine chkP_den rfl ?_)
    exact call_retO (c_knownT _ []) rfl ⟨rfl, trivial⟩ fun _ _ => ret_denO ⟨rfl, rfl⟩
   ·exfalso
    have := of_decide_eq_false hd
    omega
end Go.Proofs.Ytbaegnnmedjkmaa
