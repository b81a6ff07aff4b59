/- Legal targets; light cards; lists that are equal. -/
import Derived.Test.YtbaegnnmedjkmaaC48
import Derived.Test.YtbaegnnmedjkmaaKT
namespace Go.Proofs.Ytbaegnnmedjkmaa
open Go Go.Sx
set_option maxRecDepth 100000
set_option maxHeartbeats 1000000
theorem tgEql (o p : Tg) : rawE PP (.eqv .eql Ty_api_Target false) [.agg o.row.toArray, .agg p.row.toArray] = some (.bool (o == p)) := by
 have e : rawE PP (.eqv .eql Ty_api_Target false) [.agg o.row.toArray, .agg p.row.toArray] = (chain [o.id == p.id, o.player == p.player]).map fun b => .bool b := by kernel_rfl
 rw [e, chain_all]
 simp only [Option.map_some, Option.some.injEq, Value.bool.injEq]
 cases o; cases p
 rw [Bool.eq_iff_iff]
 simp
theorem tRows_get {l : List Tg} {i : Nat} (h : i < l.length) : (tRows l)[i]? = some l[i].row := by simp [tRows, h]
theorem tg_ones (t : Tg) : Ones t.row := ⟨rfl, rfl, trivial⟩
theorem c_TIndex {H : Heap} {O : Own} {v : Value} {l : List Tg} (h : Sl H 2 v (tRows l)) (t : Tg) : RetO PP F_slices_Index_api_Target_api_Target [v, .agg t.row.toArray] H O (iV (idxP (fun y => t == y) l 0)) := by
 refine run_slices_Index_api_Target_api_Target (vs := v :: t.row) (by kernel_rfl) ⟨h.one, tg_ones t⟩ ?_
 simp only [T_slices_Index_api_Target_api_Target]
 have hlen : evalPure .len [v] = some (iV l.length) := by have := h.len; rwa [tRows_len] at this
 have hlB := h.lenB
 rw [tRows_len] at hlB
 refine newbox_den fun r0 => ?_
 repeat (first | refine chkN_den ?_ | refine chkV_den ?_)
 refine pure_den _ hlen ?_
 refine count_den l.length (fun i H' O' => O' = O ∧ Heap.le H H' ∧ idxP (fun y => t == y) l 0 = idxP (fun y => t == y) (l.drop i) i) ⟨rfl, Heap.le_refl H, by simp⟩ ?_
 rintro i H' O' hi - ⟨rfl, hle, hor⟩
 repeat (first | refine chkN_den ?_ | refine chkV_den ?_)
 refine pure_den _ (lss_eq _ _) (br_den (fun hb => ?_) (fun hb => ?_))
 ·have hlt : i < l.length := by simpa using hb
  obtain ⟨a, h1, h2, h3, h4⟩ := (h.le hle).idx (k := .i64) (tRows_get hlt)
  repeat (first | refine chkN_den ?_ | refine chkV_den ?_)
  refine pure_den _ h1 (load_den h2 h3 h4 ?_)
  repeat (first | refine chkN_den ?_ | refine chkV_den ?_)
  refine raw_denG (tgEql t l[i]) (br_den (fun hc => ?_) (fun hc => ?_))
  ·refine ret_denO ⟨?_, rfl⟩
   rw [hor, List.drop_eq_getElem_cons hlt, idxP, if_pos hc]; rfl
  ·refine pure_den _ (add_one (by omega)) (count_cont (by simp [Eqs, E]) hlt ⟨rfl, hle, ?_⟩)
   rw [hor, List.drop_eq_getElem_cons hlt, idxP, if_neg (by rw [hc]; simp)]; rfl
 ·have hge : l.length ≤ i := by simpa using hb
  refine ret_denO ⟨?_, rfl⟩
  rw [hor, List.drop_of_length_le hge]; rfl
theorem c_TContains {H : Heap} {O : Own} {v : Value} {l : List Tg} (h : Sl H 2 v (tRows l)) (t : Tg) : RetO PP F_slices_Contains_api_Target_api_Target [v, .agg t.row.toArray] H O (.bool (l.any fun y => t == y)) := by
 refine run_slices_Contains_api_Target_api_Target (vs := v :: t.row) (by kernel_rfl) ⟨h.one, tg_ones t⟩ ?_
 simp only [T_slices_Contains_api_Target_api_Target]
 refine newbox_den fun r0 => ?_
 repeat (first | refine chkN_den ?_ | refine chkV_den ?_)
 refine call_retO (c_TIndex h t) rfl ⟨rfl, trivial⟩ fun H1 _ => ?_
 repeat (first | refine chkN_den ?_ | refine chkV_den ?_)
 refine pure_den _ (geq_eq _ _) (ret_denO ⟨?_, rfl⟩)
 rw [← idxP_ge _ l 0 (by omega)]
def legalT (cs : List Cd) (b : Bd) (p k : Int) (t : Tg) : Bool := (ListT cs b p k).any fun y => t == y
theorem c_Legal {H : Heap} {cv : Value} {cs : List Cd} (hk : CardsS H cv cs) (hli : lightB cs = true) {v : BV12} {b : Bd} (h : BdS H v b) (hst : b.stack.length ≤ 1000000) (p k : Int) (t : Tg) :
  RetO PP F_target_Legal [cv, .agg (boardC v b).toArray, iV p, iV k, .agg t.row.toArray] H [] (.bool (legalT cs b p k t)) := by
 refine run_target_Legal (vs := cv :: (boardC v b ++ (iV p :: iV k :: t.row))) (by kernel_rfl) ⟨hk.one, ones_app (boardC_ones (h.r [])) ⟨rfl, rfl, tg_ones t⟩⟩ ?_
 simp only [T_target_Legal]
 refine newbox_den fun r0 => newbox_den fun r1 => ?_
 repeat (first | refine chkN_den ?_ | refine chkV_den ?_)
 refine call_new (c_TList hk hli h hst p k) ?_
 rintro x H1 _ ⟨hx, rfl⟩ l1
 refine ⟨[x], rfl, ⟨hx.one, trivial⟩, ?_⟩
 repeat (first | refine chkN_den ?_ | refine chkV_den ?_)
 refine call_retO (c_TContains hx t) rfl ⟨rfl, trivial⟩ fun H2 _ => ?_
 repeat (first | refine chkN_den ?_ | refine chkV_den ?_)
 exact ret_denO ⟨rfl, rfl⟩
theorem r_TSame {H : Heap} {O : Own} {v w : Value} {l m : List Tg} (h : Sl H 2 v (tRows l)) (h' : Sl H 2 w (tRows m)) : RetO PP F_zeitnotref16_Same [v, w] H O (.bool (l == m)) := by
 refine run_zeitnotref16_Same (vs := [v, w]) (by kernel_rfl) ⟨h.one, h'.one, trivial⟩ ?_
 simp only [T_zeitnotref16_Same]
 have hlen : evalPure .len [v] = some (iV l.length) := by have := h.len; rwa [tRows_len] at this
 have hlen' : evalPure .len [w] = some (iV m.length) := by have := h'.len; rwa [tRows_len] at this
 have hlB := h.lenB
 rw [tRows_len] at hlB
 refine pure_den _ hlen ?_
 repeat (first | refine chkN_den ?_ | refine chkV_den ?_)
 refine pure_den _ hlen' ?_
 repeat (first | refine chkN_den ?_ | refine chkV_den ?_)
 refine pure_den _ (neq_eq _ _) (br_den (fun hb => ret_denO ⟨?_, rfl⟩) (fun hb => ?_))
 ·have hb : ((l.length : Int) != (m.length : Int)) = true := hb
  congr 1
  rw [eq_comm, beq_eq_false_iff_ne]
  rintro rfl
  simp at hb
 have hlm : l.length = m.length := by
  have hb : ((l.length : Int) != (m.length : Int)) = false := hb
  simp at hb; omega
 refine count_den l.length (fun i H' O' => O' = O ∧ Heap.le H H' ∧ (l == m) = (l.drop i == m.drop i)) ⟨rfl, Heap.le_refl H, by simp⟩ ?_
 rintro i H' O' hi - ⟨rfl, hle, hor⟩
 repeat (first | refine chkN_den ?_ | refine chkV_den ?_)
 refine pure_den _ hlen ?_
 repeat (first | refine chkN_den ?_ | refine chkV_den ?_)
 refine pure_den _ (lss_eq _ _) (br_den (fun hb => ?_) (fun hb => ?_))
 ·have hlt : i < l.length := by simpa using hb
  have hlt' : i < m.length := by omega
  obtain ⟨a, h1, h2, h3, h4⟩ := (h.le hle).idx (k := .i64) (tRows_get hlt)
  obtain ⟨a', j1, j2, j3, j4⟩ := (h'.le hle).idx (k := .i64) (tRows_get hlt')
  have hst : (l.drop i == m.drop i) = ((l[i] == m[i]) && (l.drop (i + 1) == m.drop (i + 1))) := by rw [List.drop_eq_getElem_cons hlt, List.drop_eq_getElem_cons hlt']; rfl
  repeat (first | refine chkN_den ?_ | refine chkV_den ?_)
  refine pure_den _ h1 (load_den h2 h3 h4 ?_)
  repeat (first | refine chkN_den ?_ | refine chkV_den ?_)
  refine pure_den _ j1 (load_den j2 j3 j4 ?_)
  repeat (first | refine chkN_den ?_ | refine chkV_den ?_)
  refine raw_denG (tgEq l[i] m[i]) (br_den (fun hc => ?_) (fun hc => ?_))
  ·refine ret_denO ⟨?_, rfl⟩
   have hc : (l[i] == m[i]) = false := notT hc
   rw [hor, hst, hc]; rfl
  ·have hc : (l[i] == m[i]) = true := notF hc
   refine pure_den _ (add_one (by omega)) (count_cont (by simp [Eqs, E]) hlt ⟨rfl, hle, ?_⟩)
   rw [hor, hst, hc]; rfl
 ·have hge : l.length ≤ i := by simpa using hb
  refine ret_denO ⟨?_, rfl⟩
  rw [hor, List.drop_of_length_le hge, List.drop_of_length_le (by omega)]; rfl
end Go.Proofs.Ytbaegnnmedjkmaa
namespace Go.Proofs.Ytbaegnnmedjkmaa
open Go Go.Sx
set_option maxRecDepth 100000
set_option maxHeartbeats 1000000
theorem card_idx {H : Heap} (O : Own) {v : Value} {cs : List Cd} (h : CardsS H v cs) {i : Nat} (hi : i < cs.length) :
  ∃ a r, evalPure (.idx 14) [v, iV i] = some (.pointer (some a)) ∧ CdR H r cs[i] ∧ Reads H O (ptrAdd (.pointer (some a)) 11) 1 [g r 11] ∧ Reads H O (ptrAdd (.pointer (some a)) 12) 1 [g r 12] := by
 obtain ⟨rows, h1, h2, h3⟩ := h
 have hlt : i < rows.length := by omega
 obtain ⟨a, k1, k2, k3, k4, k5⟩ := (h1.rsl O).idx .i64 i rows[i] (by simp [hlt])
 refine ⟨a, rows[i], k1, h3 i _ _ (List.getElem?_eq_getElem hlt) (List.getElem?_eq_getElem hi), ?_, ?_⟩
 ·have e : ((rows[i]).drop 11).take 1 = [g rows[i] 11] := by
   rw [g, List.getD_eq_getElem?_getD, List.getElem?_eq_getElem (by omega), List.drop_eq_getElem_cons (by omega)]; rfl
  rw [← e]; exact k3 11 1 (by omega)
 ·have e : ((rows[i]).drop 12).take 1 = [g rows[i] 12] := by
   rw [g, List.getD_eq_getElem?_getD, List.getElem?_eq_getElem (by omega), List.drop_eq_getElem_cons (by omega)]; rfl
  rw [← e]; exact k3 12 1 (by omega)
theorem trig_idx {H : Heap} (O : Own) {v : Value} {tr : List Nat} (h : TrigsS H v tr) {i : Nat} (hi : i < tr.length) :
  ∃ a r, evalPure (.idx 2) [v, iV i] = some (.pointer (some a)) ∧ TrigR H r tr[i] ∧ Reads H O (ptrAdd (.pointer (some a)) 1) 1 [g r 1] := by
 obtain ⟨rows, h1, h2, h3⟩ := h
 have hlt : i < rows.length := by omega
 obtain ⟨a, k1, k2, k3, k4, k5⟩ := (h1.rsl O).idx .i64 i rows[i] (by simp [hlt])
 refine ⟨a, rows[i], k1, h3 i _ _ (List.getElem?_eq_getElem hlt) (List.getElem?_eq_getElem hi), ?_⟩
 have e : ((rows[i]).drop 1).take 1 = [g rows[i] 1] := by
  rw [g, List.getD_eq_getElem?_getD, List.getElem?_eq_getElem (by omega), List.drop_eq_getElem_cons (by omega)]; rfl
 rw [← e]; exact k3 1 1 (by omega)
theorem c_light {H : Heap} {v : Value} {cs : List Cd} (h : CardsS H v cs) : RetO PP F_zeitnotlaw16_light [v] H [] (.bool (lightB cs)) := by
 refine run_zeitnotlaw16_light (vs := [v]) (by kernel_rfl) ⟨h.one, trivial⟩ ?_
 simp only [T_zeitnotlaw16_light]
 have hB : cs.length < 2 ^ 63 := by
  obtain ⟨rows, h1, h2, _⟩ := h
  have := h1.lenB; omega
 refine count_den cs.length (fun i H' O' => O' = [] ∧ Heap.le H H' ∧ i ≤ 13 ∧ ((cs.take i).all cdLight) = true) ⟨rfl, Heap.le_refl H, by omega, rfl⟩ ?_
 rintro i H' O' hi - ⟨rfl, hle, hi13, hor⟩
 replace h := h.le hle
 repeat (first | refine chkN_den ?_ | refine chkV_den ?_ | refine chkP_den rfl ?_)
 refine pure_den _ h.len ?_
 repeat (first | refine chkN_den ?_ | refine chkV_den ?_ | refine chkP_den rfl ?_)
 refine pure_den _ (lss_eq _ _) ?_
 repeat (first | refine chkN_den ?_ | refine chkV_den ?_ | refine chkP_den rfl ?_)
 refine pure_den _ (lss_eq _ _) ?_
 repeat (first | refine chkN_den ?_ | refine chkV_den ?_ | refine chkP_den rfl ?_)
 refine pure_den _ (pick_and _ _) (br_den (fun hb => ?_) (fun hb => ?_))
 ·have hb : (decide ((i : Int) < (cs.length : Int)) && decide ((i : Int) < 13)) = true := hb
  rw [Bool.and_eq_true, decide_eq_true_eq, decide_eq_true_eq] at hb
  have hlt : i < cs.length := by omega
  have hl13 : i < 13 := by omega
  obtain ⟨a, r, k1, k2, k3, k4⟩ := card_idx [] h hlt
  have hst : lightB cs = false ∨ cdLight cs[i] = true := by
   cases hc : cdLight cs[i]
   ·refine .inl ?_
    rw [lightB, Bool.and_eq_false_iff]
    refine .inl ?_
    rw [List.all_eq_false]
    exact ⟨cs[i], List.mem_take_iff_getElem.2 ⟨i, by omega, rfl⟩, by rw [hc]; simp⟩
   ·exact .inr rfl
  have hbad : ∀ {x : Bool}, cdLight cs[i] = false → x = false → (x = lightB cs) := fun h1 h2 => by
   rcases hst with e | e
   ·rw [h2, e]
   ·rw [h1] at e; cases e
  repeat (first | refine chkN_den ?_ | refine chkV_den ?_ | refine chkP_den rfl ?_)
  refine pure_den _ k1 ?_
  repeat (first | refine chkN_den ?_ | refine chkV_den ?_ | refine chkP_den rfl ?_)
  refine load_denR k3 rfl ⟨k2.eff.one, trivial⟩ ?_
  repeat (first | refine chkN_den ?_ | refine chkV_den ?_ | refine chkP_den rfl ?_)
  refine pure_den _ k2.eff.len ?_
  repeat (first | refine chkN_den ?_ | refine chkV_den ?_ | refine chkP_den rfl ?_)
  refine pure_den _ (gtr_eq _ _) ?_
  repeat (first | refine chkN_den ?_ | refine chkV_den ?_ | refine chkP_den rfl ?_)
  refine ⟨.pointer (some a), fun _ => k1, .inr rfl, ?_⟩
  repeat (first | refine chkN_den ?_ | refine chkV_den ?_ | refine chkP_den rfl ?_)
  refine ⟨[g r 12], rfl, ⟨k2.trig.one, trivial⟩, fun _ => k4, ?_⟩
  repeat (first | refine chkN_den ?_ | refine chkV_den ?_ | refine chkP_den rfl ?_)
  refine pure_den _ k2.trig.len ?_
  repeat (first | refine chkN_den ?_ | refine chkV_den ?_ | refine chkP_den rfl ?_)
  refine pure_den _ (gtr_eq _ _) ?_
  repeat (first | refine chkN_den ?_ | refine chkV_den ?_ | refine chkP_den rfl ?_)
  refine pure_den _ (pick_or _ _) (br_den (fun hc => ?_) (fun hc => ?_))
  ·have hc : (decide ((cs[i].tg.length : Int) > 5) || decide ((cs[i].tr.length : Int) > 3)) = true := hc
   refine ret_denO ⟨?_, rfl⟩
   congr 1
   exact hbad (by rw [cdLight, hc]; rfl) rfl
  ·have hc : (decide ((cs[i].tg.length : Int) > 5) || decide ((cs[i].tr.length : Int) > 3)) = false := hc
   have hc3 : cs[i].tr.length ≤ 3 := by
    rw [Bool.or_eq_false_iff, decide_eq_false_iff_not, decide_eq_false_iff_not] at hc; omega
   refine count_den cs[i].tr.length (fun j H2 O2 => O2 = [] ∧ Heap.le H' H2 ∧ (cs[i].tr.all fun n => !decide ((n : Int) > 5)) = ((cs[i].tr.drop j).all fun n => !decide ((n : Int) > 5))) ⟨rfl, Heap.le_refl _, rfl⟩ ?_
   rintro j H2 O2 hj - ⟨rfl, hle2, hor2⟩
   repeat (first | refine chkN_den ?_ | refine chkV_den ?_ | refine chkP_den rfl ?_)
   refine pure_den _ k1 ?_
   repeat (first | refine chkN_den ?_ | refine chkV_den ?_ | refine chkP_den rfl ?_)
   refine load_denR (reads_le k4 hle2) rfl ⟨k2.trig.one, trivial⟩ ?_
   repeat (first | refine chkN_den ?_ | refine chkV_den ?_ | refine chkP_den rfl ?_)
   refine pure_den _ k2.trig.len ?_
   repeat (first | refine chkN_den ?_ | refine chkV_den ?_ | refine chkP_den rfl ?_)
   refine pure_den _ (lss_eq _ _) (br_den (fun hd => ?_) (fun hd => ?_))
   ·have hjlt : j < cs[i].tr.length := by simpa using hd
    obtain ⟨a2, r2, m1, m2, m3⟩ := trig_idx [] (k2.trig.le hle2) hjlt
    obtain ⟨er, m4, m5⟩ := m2
    have el : evalPure .len [g r2 1] = some (iV cs[i].tr[j]) := by have := m4.len; rwa [m5] at this
    repeat (first | refine chkN_den ?_ | refine chkV_den ?_ | refine chkP_den rfl ?_)
    refine pure_den _ k1 ?_
    repeat (first | refine chkN_den ?_ | refine chkV_den ?_ | refine chkP_den rfl ?_)
    refine load_denR (reads_le k4 hle2) rfl ⟨k2.trig.one, trivial⟩ ?_
    repeat (first | refine chkN_den ?_ | refine chkV_den ?_ | refine chkP_den rfl ?_)
    refine pure_den _ m1 ?_
    repeat (first | refine chkN_den ?_ | refine chkV_den ?_ | refine chkP_den rfl ?_)
    refine load_denR m3 rfl ⟨m4.one, trivial⟩ ?_
    repeat (first | refine chkN_den ?_ | refine chkV_den ?_ | refine chkP_den rfl ?_)
    refine pure_den _ el ?_
    repeat (first | refine chkN_den ?_ | refine chkV_den ?_ | refine chkP_den rfl ?_)
    refine pure_den _ (gtr_eq _ _) (br_den (fun he => ?_) (fun he => ?_))
    ·have he : decide ((cs[i].tr[j] : Int) > 5) = true := he
     refine ret_denO ⟨?_, rfl⟩
     congr 1
     exact hbad (by rw [cdLight, hor2, List.drop_eq_getElem_cons hjlt, List.all_cons, he]; simp) rfl
    ·have he : decide ((cs[i].tr[j] : Int) > 5) = false := he
     repeat (first | refine chkN_den ?_ | refine chkV_den ?_ | refine chkP_den rfl ?_)
     refine pure_den _ (add_one (by omega)) (count_cont (by simp [Eqs, E]) hjlt ⟨rfl, hle2, ?_⟩)
     rw [hor2, List.drop_eq_getElem_cons hjlt, List.all_cons, he]; rfl
   ·have hjge : cs[i].tr.length ≤ j := by simpa using hd
    rw [List.drop_of_length_le hjge] at hor2
    repeat (first | refine chkN_den ?_ | refine chkV_den ?_ | refine chkP_den rfl ?_)
    refine pure_den _ (add_one (by omega)) (count_cont (by simp [Eqs, E]) hlt ⟨rfl, Heap.le_trans hle hle2, by omega, ?_⟩)
    rw [List.take_add_one, List.getElem?_eq_getElem hlt, List.all_append, hor]
    simp only [Option.toList_some, List.all_cons, List.all_nil, Bool.and_true, Bool.true_and]
    rw [cdLight, hc, hor2]; rfl
 ·have hb : (decide ((i : Int) < (cs.length : Int)) && decide ((i : Int) < 13)) = false := hb
  rw [Bool.and_eq_false_iff, decide_eq_false_iff_not, decide_eq_false_iff_not] at hb
  repeat (first | refine chkN_den ?_ | refine chkV_den ?_ | refine chkP_den rfl ?_)
  refine pure_den _ h.len ?_
  repeat (first | refine chkN_den ?_ | refine chkV_den ?_ | refine chkP_den rfl ?_)
  refine pure_den _ (leq_eq _ _) (ret_denO ⟨?_, rfl⟩)
  congr 1
  rw [lightB]
  rcases hb with hb | hb
  ·have e1 : cs.take i = cs := List.take_of_length_le (by omega)
   have e2 : cs.take 13 = cs := List.take_of_length_le (by omega)
   rw [e1] at hor
   rw [e2, hor, Bool.true_and]
  ·obtain rfl : i = 13 := by omega
   rw [hor, Bool.true_and]
end Go.Proofs.Ytbaegnnmedjkmaa
namespace Go.Proofs.Ytbaegnnmedjkmaa
open Go Go.Sx
set_option maxRecDepth 100000
set_option maxHeartbeats 1000000
/-- A call that is handed blocks that it freezes, and nothing that is owned. -/
theorem call_newF {P : Program} {f : FuncId} {args : List Value} {H : Heap} {O : Own} {frz : List BV} {r : Value} {shp : Shp} {vs : List Value} {K : List Value → List (List Value) → Heap → Own → Prop}
  (h : ∀ Hf, Heap.le H Hf → (∀ b ∈ frz, Hf b.r = some b.obj.2) → RetO P f args Hf [] r) (ho : shp.open r = some vs) (h1 : Ones vs) (hk : ∀ H', Heap.le H H' → K vs [] H' O) :
  CallD (fun H1 O1 R => Triple P f args H1 O1 R) false frz [] shp K H O := by
 intro hc
 have hf := insAll_get hc
 refine ⟨H.insAll frz, [], O, _, Ghost.refl _ _, h _ (Heap.le_insAll frz H) hf, ?_⟩
 rintro v H' O' ⟨rfl, rfl⟩ hle
 exact ⟨vs, [], [], ho, h1, trivial, rfl, hk _ (Heap.le_trans (Heap.le_insAll frz H) hle)⟩
theorem c_Needs {H : Heap} {v : Value} {tg : List Int} (h : EffsS H v tg) (hb : tg.length ≤ 1000000) : Triple PP F_target_Needs [v] H [] fun r _ O' => OSl Ty_api_TargetKind 1 r (ints (needsOf tg)) O' := by
 refine run_target_Needs (vs := [v]) (by kernel_rfl) ⟨h.one, trivial⟩ ?_
 simp only [T_target_Needs]
 refine pure_den _ h.len ?_
 refine countY_den tg.length (fun i x H' O' => Heap.le H H' ∧ OSl Ty_api_TargetKind 1 x (ints (needsOf (tg.take i))) O') ⟨Heap.le_refl _, OSl.nil _ _⟩ ?_
 rintro i x H' O' hi - ⟨hle, hx⟩
 repeat (first | refine chkN_den ?_ | refine chkV_den ?_ | refine chkP_den rfl ?_)
 refine pure_den _ (lss_eq _ _) (br_den (fun hb => ?_) (fun hb => ?_))
 ·have hlt : i < tg.length := by simpa using hb
  obtain ⟨a, r, k1, k2, k3, k4, k5, _⟩ := eff_idx (O := O') (h.le hle) hlt
  have hft := filter_take (p := fun t : Int => t != 0) hlt
  repeat (first | refine chkN_den ?_ | refine chkV_den ?_ | refine chkP_den rfl ?_)
  refine pure_den _ k1 (load_denR (reads_frozen k2) k3 k4 (newbox_den fun r0 => ?_))
  repeat (first | refine chkN_den ?_ | refine chkV_den ?_ | refine chkP_den rfl ?_)
  rw [k5]
  refine pure_den _ (neq_eq _ _) ?_
  refine br_den (fun hc => ?_) (fun hc => ?_)
  ·have hc : (tg[i] != 0) = true := hc
   have hlen : (needsOf (tg.take i)).length ≤ 1000000 := by rw [needsOf]; exact Nat.le_trans (List.length_filter_le _ _) (by rw [List.length_take]; omega)
   repeat (first | refine chkN_den ?_ | refine chkV_den ?_ | refine chkP_den rfl ?_)
   refine newbox_den fun r2 => ?_
   repeat (first | refine chkN_den ?_ | refine chkV_den ?_ | refine chkP_den rfl ?_)
   refine call_append (rows := ints (needsOf (tg.take i))) (news := [[iV tg[i]]]) (O1 := O') (O2 := []) (e := Ty_api_TargetKind) (size := 1) (bytes := 8) (by kernel_rfl) (by simp) hx (fun Hf _ hf => Sl.block1 (hf _ List.mem_cons_self) rfl ⟨rfl, trivial⟩) (by rw [ints, List.length_map, List.length_singleton]; omega) (by rw [ints, List.length_map, List.length_singleton]; omega) ?_
   intro v' A' H6 l6 hA'
   refine pure_den _ (add_one (by omega)) (countY_cont (by simp [Eqs]) hlt ⟨Heap.le_trans hle l6, ?_⟩)
   rw [List.append_nil, needsOf, hft, if_pos hc, ints, List.map_append]; exact hA'
  ·have hc : (tg[i] != 0) = false := hc
   refine pure_den _ (add_one (by omega)) (countY_cont (by simp [Eqs]) hlt ⟨hle, ?_⟩)
   rw [needsOf, hft, if_neg (by rw [hc]; simp), List.append_nil]; exact hx
 ·have hge : tg.length ≤ i := by simpa using hb
  rw [List.take_of_length_le hge] at hx
  exact ret_denO hx
theorem c_IndexFunc_k {H : Heap} {O : Own} {v fv : Value} {l : List Int} {p : Int → Bool} (h : Sl H 1 v (ints l)) {f : FuncId} {caps : Array Value} (hf : fv = .func (.func f) #[] caps) (hok : OkFn PP f)
  (hp : ∀ H', Heap.le H H' → ∀ k, RetO PP f ([iV k] ++ caps.toList) H' O (.bool (p k))) : RetO PP F_slices_IndexFunc_api_TargetKind_api_TargetKind [v, fv] H O (iV (idxP p l 0)) := by
 subst hf
 have hlen : evalPure .len [v] = some (iV l.length) := by have := h.len; rwa [ints, List.length_map] at this
 have hlB := h.lenB
 rw [ints, List.length_map] at hlB
 refine run_slices_IndexFunc_api_TargetKind_api_TargetKind (vs := [v, .func (.func f) #[] caps]) (by kernel_rfl) ⟨h.one, rfl, trivial⟩ ?_
 simp only [T_slices_IndexFunc_api_TargetKind_api_TargetKind]
 refine pure_den _ hlen ?_
 refine count_den l.length (fun i H' O' => O' = O ∧ Heap.le H H' ∧ idxP p l 0 = idxP p (l.drop i) i) ⟨rfl, Heap.le_refl H, by simp⟩ ?_
 rintro i H' O' hi - ⟨rfl, hle, hor⟩
 repeat (first | refine chkN_den ?_ | refine chkV_den ?_ | refine chkP_den rfl ?_)
 refine pure_den _ (lss_eq _ _) (br_den (fun hb => ?_) (fun hb => ?_))
 ·have hlt : i < l.length := by simpa using hb
  obtain ⟨a, h1, h2, h3, h4⟩ := (h.le hle).idx (k := .i64) (i := i) (r := [iV l[i]]) (by simp [ints, hlt])
  repeat (first | refine chkN_den ?_ | refine chkV_den ?_ | refine chkP_den rfl ?_)
  refine pure_den _ h1 (load_den h2 h3 h4 ?_)
  repeat (first | refine chkN_den ?_ | refine chkV_den ?_ | refine chkP_den rfl ?_)
  refine callv_den rfl hok (hp H' hle l[i]) rfl ⟨rfl, trivial⟩ fun H2 hle2 => br_den (fun hb => ?_) (fun hb => ?_)
  ·refine ret_denO ⟨?_, rfl⟩
   rw [hor, List.drop_eq_getElem_cons hlt, idxP, if_pos hb]; rfl
  ·refine pure_den _ (add_one (by omega)) (count_cont (by simp [Eqs, E]) hlt ⟨rfl, Heap.le_trans hle hle2, ?_⟩)
   rw [hor, List.drop_eq_getElem_cons hlt, idxP, if_neg (by rw [hb]; simp)]; rfl
 ·have hge : l.length ≤ i := by simpa using hb
  refine ret_denO ⟨?_, rfl⟩
  rw [hor, List.drop_of_length_le hge]; rfl
theorem c_ContainsFunc_k {H : Heap} {O : Own} {v fv : Value} {l : List Int} {p : Int → Bool} (h : Sl H 1 v (ints l)) {f : FuncId} {caps : Array Value} (hf : fv = .func (.func f) #[] caps) (hok : OkFn PP f)
  (hp : ∀ H', Heap.le H H' → ∀ k, RetO PP f ([iV k] ++ caps.toList) H' O (.bool (p k))) : RetO PP F_slices_ContainsFunc_api_TargetKind_api_TargetKind [v, fv] H O (.bool (l.any p)) := by
 have hone : fv.oneCell' = true := by subst hf; rfl
 refine run_slices_ContainsFunc_api_TargetKind_api_TargetKind (vs := [v, fv]) (by kernel_rfl) ⟨h.one, hone, trivial⟩ ?_
 simp only [T_slices_ContainsFunc_api_TargetKind_api_TargetKind]
 refine call_retO (c_IndexFunc_k h hf hok hp) rfl ⟨rfl, trivial⟩ fun H1 _ => pure_den _ (geq_eq _ _) (ret_denO ⟨?_, rfl⟩)
 rw [← idxP_ge p l 0 (by omega)]
theorem c_Can_1 {H : Heap} {cv : Value} {cs : List Cd} (hk : CardsS H cv cs) (hli : lightB cs = true) {v : BV12} {b : Bd} (h : BdS H v b) (hst : b.stack.length ≤ 1000000) (hv : validBd b = true) {p : Int} (hp : p = 0 ∨ p = 1) (k : Int)
  {r0 r1 r2 : Nat} {T0 T1 T2 : TypeId} {O : Own} (b0 : (r0, Obj.cells [cv].toArray T0 (0, 0)) ∈ O) (b1 : (r1, Obj.cells (boardC v b).toArray T1 (0, 0)) ∈ O) (b2 : (r2, Obj.cells [iV p].toArray T2 (0, 0)) ∈ O) :
  RetO PP F_target_Can_1 [iV k, .pointer (some ⟨r0, 0, none⟩), .pointer (some ⟨r1, 0, none⟩), .pointer (some ⟨r2, 0, none⟩)] H O (.bool (((listT cs b p k).length : Int) == 0)) := by
 refine run_target_Can_1 (vs := [iV k, .pointer (some ⟨r0, 0, none⟩), .pointer (some ⟨r1, 0, none⟩), .pointer (some ⟨r2, 0, none⟩)]) (by kernel_rfl) ⟨rfl, rfl, rfl, rfl, trivial⟩ ?_
 simp only [T_target_Can_1]
 have q0 : Reads H O (.pointer (some ⟨r0, 0, none⟩)) 1 [cv] := .inr ⟨⟨r0, 0, none⟩, _, _, rfl, rfl, b0, rfl, rfl⟩
 have q1 : Reads H O (.pointer (some ⟨r1, 0, none⟩)) 38 (boardC v b) := .inr ⟨⟨r1, 0, none⟩, _, _, rfl, rfl, b1, rfl, rfl⟩
 have q2 : Reads H O (.pointer (some ⟨r2, 0, none⟩)) 1 [iV p] := .inr ⟨⟨r2, 0, none⟩, _, _, rfl, rfl, b2, rfl, rfl⟩
 refine load_denR q0 rfl ⟨hk.one, trivial⟩ ?_
 repeat (first | refine chkN_den ?_ | refine chkV_den ?_ | refine chkP_den rfl ?_)
 refine load_denR q1 rfl (boardC_ones (h.r [])) ?_
 repeat (first | refine chkN_den ?_ | refine chkV_den ?_ | refine chkP_den rfl ?_)
 refine load_denR q2 rfl ⟨rfl, trivial⟩ ?_
 repeat (first | refine chkN_den ?_ | refine chkV_den ?_ | refine chkP_den rfl ?_)
 refine call_new (c_tlist hk hli h hst hv hp k) fun x H1 O1 hx l1 => ⟨[x], rfl, ⟨hx.one, trivial⟩, ?_⟩
 have xlen : evalPure .len [x] = some (iV (listT cs b p k).length) := by have := hx.len; rwa [tRows_len] at this
 repeat (first | refine chkN_den ?_ | refine chkV_den ?_ | refine chkP_den rfl ?_)
 refine pure_den _ xlen ?_
 repeat (first | refine chkN_den ?_ | refine chkV_den ?_ | refine chkP_den rfl ?_)
 exact pure_den _ (eql_eq _ _) (ret_to (X := O1) (Ox := O) (List.Perm.refl _) ⟨rfl, rfl⟩)
/-- Whether there are legal targets for all that effects need. -/
def canT (cs : List Cd) (b : Bd) (p : Int) (tg : List Int) : Bool := (withinB p 0 1 && validBd b) && !((needsOf tg).any fun k => ((listT cs b p k).length : Int) == 0)
theorem c_Can {H : Heap} {cv : Value} {cs : List Cd} (hk : CardsS H cv cs) (hli : lightB cs = true) {v : BV12} {b : Bd} (h : BdS H v b) (hst : b.stack.length ≤ 1000000) (p : Int) {ev : Value} {tg : List Int} (he : EffsS H ev tg) (heb : tg.length ≤ 1000000) :
  RetO PP F_target_Can [cv, .agg (boardC v b).toArray, iV p, ev] H [] (.bool (canT cs b p tg)) := by
 refine run_target_Can (vs := cv :: (boardC v b ++ [iV p, ev])) (by kernel_rfl) ⟨hk.one, ones_app (boardC_ones (h.r [])) ⟨rfl, he.one, trivial⟩⟩ ?_
 simp only [T_target_Can]
 refine newbox_den fun r0 => newbox_den fun r1 => newbox_den fun r2 => ?_
 repeat (first | refine chkN_den ?_ | refine chkV_den ?_ | refine newbox_den fun _ => ?_ | refine pure_den _ (lss_eq _ _) ?_ | refine pure_den _ (gtr_eq _ _) ?_ | refine pure_den _ (leq_eq _ _) ?_ | refine pure_den _ (geq_eq _ _) ?_ | refine pure_den _ (eql_eq _ _) ?_ | refine pure_den _ (neq_eq _ _) ?_ | refine pure_den _ (pick_and _ _) ?_ | refine pure_den _ (pick_or _ _) ?_ | refine pure_den _ (not_eq' _) ?_ | refine pure_den _ (beql_eq _ _) ?_ | refine pure_den _ (bneq_eq _ _) ?_)
 refine br_den (fun hb => ?_) (fun hb => ?_)
 ·have hb : (decide (p < 0) || decide (p > 1)) = true := hb
  rw [within01] at hb
  repeat (first | refine chkN_den ?_ | refine chkV_den ?_ | refine chkP_den rfl ?_)
  exact ret_denO ⟨by rw [canT, show withinB p 0 1 = false from notT hb]; rfl, rfl⟩
 have hb : (decide (p < 0) || decide (p > 1)) = false := hb
 rw [within01] at hb
 have hw : withinB p 0 1 = true := notF hb
 have hp : p = 0 ∨ p = 1 := by simp only [withinB, decide_eq_true_eq] at hw; omega
 repeat (first | refine chkN_den ?_ | refine chkV_den ?_ | refine chkP_den rfl ?_)
 refine call_retO (c_board_Valid (h.r [])) rfl ⟨rfl, trivial⟩ fun H2 l2 => pure_den _ (not_eq' _) (br_den (fun hc => ?_) (fun hc => ?_))
 ·repeat (first | refine chkN_den ?_ | refine chkV_den ?_ | refine chkP_den rfl ?_)
  exact ret_denO ⟨by rw [canT, show validBd b = false from notT hc, Bool.and_false]; rfl, rfl⟩
 have hv : validBd b = true := notF hc
 replace h := h.le l2
 replace hk := hk.le l2
 repeat (first | refine chkN_den ?_ | refine chkV_den ?_ | refine chkP_den rfl ?_)
 refine call_new (Triple.frozenS (c_Needs (he.le l2) heb)) ?_
 rintro x H3 _ ⟨hx, rfl⟩ l3
 refine ⟨[x], rfl, ⟨hx.one, trivial⟩, ?_⟩
 replace h := h.le l3
 replace hk := hk.le l3
 repeat (first | refine chkN_den ?_ | refine chkV_den ?_ | refine chkP_den rfl ?_)
 refine call_own2 (O1 := []) (O2 := []) (own := [⟨r0, 22, [cv]⟩, ⟨r1, 34, boardC v b⟩, ⟨r2, 3, [iV p]⟩]) (R := fun v _ O3 => v = .bool ((needsOf tg).any fun k => ((listT cs b p k).length : Int) == 0) ∧ O3 = []) (List.Perm.refl _) ?_ ⟨rfl, ⟨hk.one, trivial⟩, rfl, boardC_ones (h.r []), rfl, ⟨rfl, trivial⟩, trivial⟩ ?_
 ·refine Triple.mono (c_ContainsFunc_k hx rfl (okFn_of okL_ok (by kernel_rfl)) fun H' l' k => c_Can_1 (hk.le l') hli (h.le l') hst hv hp k (T0 := 22) (T1 := 34) (T2 := 3) List.mem_cons_self (List.mem_cons_of_mem _ List.mem_cons_self) (List.mem_cons_of_mem _ (List.mem_cons_of_mem _ List.mem_cons_self))) ?_
  rintro v H' O' _ ⟨rfl, rfl⟩
  exact ⟨[], rfl, rfl, rfl⟩
 rintro _ H4 _ ⟨rfl, rfl⟩ l4
 refine ⟨_, rfl, ⟨rfl, trivial⟩, ?_⟩
 repeat (first | refine chkN_den ?_ | refine chkV_den ?_ | refine chkP_den rfl ?_)
 exact pure_den _ (not_eq' _) (ret_denO ⟨by rw [canT, hw, hv]; rfl, rfl⟩)
end Go.Proofs.Ytbaegnnmedjkmaa
namespace Go.Proofs.Ytbaegnnmedjkmaa
open Go Go.Sx
set_option maxRecDepth 100000
set_option maxHeartbeats 1000000
theorem tgs_nodup {l : List Int} (h : l.Nodup) : (tgs l).Nodup := List.pairwise_map.2 (h.imp fun hne e => hne (by simpa using e))
theorem own_pos {cs : List Cd} {b : Bd} (h : validBd b = true) {p x : Int} (hx : x ∈ ownT cs b p) : 1 ≤ x := by
 rw [ownT, creatP] at hx
 split at hx
 ·obtain ⟨o, m, rfl⟩ := List.mem_map.1 hx
  obtain ⟨m, _⟩ := List.mem_filter.1 m
  obtain ⟨k, g⟩ := List.mem_iff_getElem?.1 m
  obtain ⟨v, _⟩ := obj_known (valid_parts h).1 g
  simp only [validO, withinB, Bool.and_eq_true, decide_eq_true_eq] at v
  omega
 ·simp at hx
theorem both_mem {cs : List Cd} {b : Bd} {p x : Int} : x ∈ bothT cs b p ↔ x ∈ ownT cs b p ∨ x ∈ ownT cs b (1 - p) := by
 rw [bothT, (sortI_perm _).mem_iff, List.mem_append]
theorem both_sorted {cs : List Cd} {b : Bd} (h : validBd b = true) (p : Int) : (bothT cs b p).Pairwise (· < ·) := sortI_sorted (both_nodup h p)
theorem both_nd {cs : List Cd} {b : Bd} (h : validBd b = true) (p : Int) : (bothT cs b p).Nodup := (both_sorted h p).imp fun h => by omega
theorem both_swap {cs : List Cd} {b : Bd} (h : validBd b = true) (p : Int) : bothT cs b (1 - p) = bothT cs b p := by
 refine strict_ext (both_sorted h _) (both_sorted h _) fun x => ?_
 rw [both_mem, both_mem, show 1 - (1 - p) = p by omega]
 exact or_comm
theorem spells_nodup {cs : List Cd} {b : Bd} (h : validBd b = true) : (spellsT cs b).Nodup := by
 have hn := placed_nodup (valid_parts h).1
 have h1 : ((cardsOn b.stack).map (fun x : It => x.id)).Nodup := (List.nodup_append.1 (List.nodup_append.1 hn).2.1).2.1
 have h2 : b.stack.filter (spellP cs) = (cardsOn b.stack).filter (spellP cs) := by
  rw [cardsOn, List.filter_filter]
  refine List.filter_congr fun x _ => ?_
  cases hs : spellP cs x
  ·rfl
  ·simp only [spellP, Bool.and_eq_true] at hs
   rw [hs.1.2]; rfl
 rw [spellsT, List.filter_reverse, List.map_reverse, h2]
 have h3 : (((cardsOn b.stack).filter (spellP cs)).map (fun x : It => x.id)).Nodup := h1.sublist (List.filter_sublist.map _)
 exact List.pairwise_reverse.2 (h3.imp fun h => Ne.symm h)
theorem listT_nodup {cs : List Cd} {b : Bd} (h : validBd b = true) (p k : Int) : (listT cs b p k).Nodup := by
 have hpl : (plT p).Nodup := by simp [plT]; omega
 rw [listT]
 split
 ·exact tgs_nodup (both_nd h p)
 split
 ·exact tgs_nodup (creatP_nodup h _)
 split
 ·exact tgs_nodup (creatP_nodup h _)
 split
 ·exact hpl
 split
 ·rw [List.nodup_append]
  refine ⟨hpl, tgs_nodup (both_nd h p), fun a ha c hc e => ?_⟩
  subst e
  obtain ⟨x, hx, rfl⟩ := List.mem_map.1 hc
  have hx1 : 1 ≤ x := by
   rcases both_mem.1 hx with hx | hx
   ·exact own_pos h hx
   ·exact own_pos h hx
  simp only [plT, List.mem_cons, Tg.mk.injEq, List.not_mem_nil, or_false] at ha
  omega
 split
 ·exact tgs_nodup (spells_nodup h)
 ·exact List.nodup_nil
theorem any_tgs {l : List Int} {x : Int} : ((tgs l).any fun y => (⟨x, 0⟩ : Tg) == y) = true ↔ x ∈ l := by
 simp [tgs]
theorem own_xor {cs : List Cd} {b : Bd} (h : validBd b = true) {p x : Int} (hx : x ∈ bothT cs b p) :
  (((tgs (ownT cs b p)).any fun y => (⟨x, 0⟩ : Tg) == y) == ((tgs (ownT cs b (1 - p))).any fun y => (⟨x, 0⟩ : Tg) == y)) = false := by
 rw [beq_eq_false_iff_ne]
 intro e
 rw [Bool.eq_iff_iff, any_tgs, any_tgs] at e
 rcases both_mem.1 hx with h1 | h1
 ·exact creatP_disj h (by omega) h1 (e.1 h1)
 ·exact creatP_disj h (by omega) (e.2 h1) h1
theorem can_one {cs : List Cd} {b : Bd} (h : validBd b = true) {p k : Int} (hp : p = 0 ∨ p = 1) (hk : k ≠ 0) : canT cs b p [k] = decide (((listT cs b p k).length : Int) > 0) := by
 have hw : withinB p 0 1 = true := by simp only [withinB, decide_eq_true_eq]; omega
 have e : needsOf [k] = [k] := by simp [needsOf, hk]
 rw [canT, hw, h, e, List.any_cons, List.any_nil, Bool.or_false, Bool.and_true, Bool.true_and]
 generalize (listT cs b p k).length = n
 by_cases h0 : n = 0
 ·subst h0; rfl
 ·rw [show ((n : Int) == 0) = false from by rw [beq_eq_false_iff_ne]; omega, decide_eq_true (by omega)]; rfl
theorem eff_block {H : Heap} {r : Nat} {k : Int} {T : TypeId} (h : H r = some (.cells [iV 0, iV k, iV 0, iV 0, iV 0].toArray T (0, 0))) : EffsS H (.slice (some ⟨r, 0, none⟩) 1 1) [k] :=
 ⟨[[iV 0, iV k, iV 0, iV 0, iV 0]], Sl.block1 h rfl ⟨rfl, rfl, rfl, rfl, rfl, trivial⟩, rfl, fun i r t h1 h2 => by
  cases i with
  | zero => simp at h1 h2; subst h1; subst h2; rfl
  | succ i => simp at h1⟩
theorem tg_read {H : Heap} {x : Value} {l : List Tg} (O : Own) (h : Sl H 2 x (tRows l)) {i : Nat} (hi : i < l.length) : ∃ a, evalPure (.idx 2) [x, iV i] = some (.pointer (some a)) ∧ Reads H O (.pointer (some a)) 2 l[i].row ∧ Reads H O (.pointer (some a)) 1 [iV l[i].id] := by
 obtain ⟨a, k1, k2, k3, k4, k5⟩ := (h.rsl O).idx .i64 i l[i].row (tRows_get hi)
 have k6 := k3 0 1 (by omega)
 rw [ptr0] at k6
 exact ⟨a, k1, k2, k6⟩
theorem holds_true {H : Heap} {cv : Value} {cs : List Cd} (hk : CardsS H cv cs) {v : BV12} {b : Bd} (h : BdS H v b) (p : Int) :
  Triple PP F_zeitnotlaw16_TargetHolds [cv, .agg (boardC v b).toArray, iV p] H [] fun r _ O' => r = .bool true ∧ O' = [] := by
 refine run_zeitnotlaw16_TargetHolds (vs := cv :: (boardC v b ++ [iV p])) (by kernel_rfl) ⟨hk.one, ones_app (boardC_ones (h.r [])) ⟨rfl, trivial⟩⟩ ?_
 simp only [T_zeitnotlaw16_TargetHolds]
 refine newbox_den fun r0 => ?_
 repeat (first | refine chkN_den ?_ | refine chkV_den ?_ | refine chkP_den rfl ?_)
 refine call_retO (c_light hk) rfl ⟨rfl, trivial⟩ fun H1 l1 => pure_den _ (not_eq' _) (br_den (fun hb => ?_) (fun hb => ?_))
 ·repeat (first | refine chkN_den ?_ | refine chkV_den ?_ | refine chkP_den rfl ?_)
  exact call_retO (c_knownT _ []) rfl ⟨rfl, trivial⟩ fun _ _ => ret_denO ⟨rfl, rfl⟩
 have hli : lightB cs = true := notF hb
 replace h := h.le l1
 replace hk := hk.le l1
 repeat (first | refine chkN_den ?_ | refine chkV_den ?_ | refine chkP_den rfl ?_)
 refine call_retO (c_small (h.r [])) rfl ⟨rfl, trivial⟩ fun H2 l2 => pure_den _ (not_eq' _) (br_den (fun hc => ?_) (fun hc => ?_))
 ·repeat (first | refine chkN_den ?_ | refine chkV_den ?_ | refine chkP_den rfl ?_)
  exact call_retO (c_knownT _ []) rfl ⟨rfl, trivial⟩ fun _ _ => ret_denO ⟨rfl, rfl⟩
 have hsm : smallBd b = true := notF hc
 have hB := small_B hsm
 have hfit := small_fit hsm
 have hst : b.stack.length ≤ 1000000 := hB.2.2.2.1.1
 replace h := h.le l2
 replace hk := hk.le l2
 repeat (first | refine chkN_den ?_ | refine chkV_den ?_ | refine chkP_den rfl ?_)
 refine call_retO (r_Valid (h.r []) hfit) rfl ⟨rfl, trivial⟩ fun H3 l3 => ?_
 replace h := h.le l3
 replace hk := hk.le l3
 rw [valid_eq]
 repeat (first | refine chkN_den ?_ | refine chkV_den ?_ | refine newbox_den fun _ => ?_ | refine pure_den _ (lss_eq _ _) ?_ | refine pure_den _ (gtr_eq _ _) ?_ | refine pure_den _ (leq_eq _ _) ?_ | refine pure_den _ (geq_eq _ _) ?_ | refine pure_den _ (eql_eq _ _) ?_ | refine pure_den _ (neq_eq _ _) ?_ | refine pure_den _ (pick_and _ _) ?_ | refine pure_den _ (pick_or _ _) ?_ | refine pure_den _ (not_eq' _) ?_ | refine pure_den _ (beql_eq _ _) ?_ | refine pure_den _ (bneq_eq _ _) ?_)
 refine br_den (fun hc => ?_) (fun hc => ?_)
 ·repeat (first | refine chkN_den ?_ | refine chkV_den ?_ | refine chkP_den rfl ?_)
  exact call_retO (c_knownT _ []) rfl ⟨rfl, trivial⟩ fun _ _ => ret_denO ⟨rfl, rfl⟩
 have hc : ((!validBd b || decide (p < 0)) || decide (p > 1)) = false := hc
 rw [Bool.or_assoc, within01, Bool.or_eq_false_iff] at hc
 have hv : validBd b = true := notF hc.1
 have hw : withinB p 0 1 = true := notF hc.2
 have hp : p = 0 ∨ p = 1 := by simp only [withinB, decide_eq_true_eq] at hw; omega
 have hp' : 1 - p = 0 ∨ 1 - p = 1 := by omega
 have hw' : withinB (1 - p) 0 1 = true := by simp only [withinB, decide_eq_true_eq]; omega
 have eL : ∀ k, ListT cs b p k = listT cs b p k := fun k => by rw [ListT, if_pos (by rw [hw, hv]; rfl)]
 have eL' : ∀ k, ListT cs b (1 - p) k = listT cs b (1 - p) k := fun k => by rw [ListT, if_pos (by rw [hw', hv]; rfl)]
 refine count_den 7 (fun i H' O' => O' = [] ∧ Heap.le H3 H') ⟨rfl, Heap.le_refl _⟩ ?_
 rintro k H4 O4 hk7 - ⟨rfl, hle⟩
 replace h := h.le hle
 replace hk := hk.le hle
 repeat (first | refine chkN_den ?_ | refine chkV_den ?_ | refine chkP_den rfl ?_)
 refine pure_den _ (leq_eq _ _) (br_den (fun hb => ?_) (fun hb => ?_))
 ·have hk6 : k < 7 := by have := of_decide_eq_true hb; omega
  repeat (first | refine chkN_den ?_ | refine chkV_den ?_ | refine chkP_den rfl ?_)
  refine call_new (c_TList hk hli h hst p k) ?_
  rintro x H5 _ ⟨hx, rfl⟩ l5
  refine ⟨[x], rfl, ⟨hx.one, trivial⟩, ?_⟩
  rw [eL] at hx
  have hnd := listT_nodup (cs := cs) hv p k
  generalize hl : listT cs b p k = l at hx hnd
  have xlen : evalPure .len [x] = some (iV l.length) := by have := hx.len; rwa [tRows_len] at this
  have hlB := hx.lenB
  rw [tRows_len] at hlB
  repeat (first | refine chkN_den ?_ | refine chkV_den ?_ | refine chkP_den rfl ?_)
  refine count_den l.length (fun i H' O' => O' = [] ∧ Heap.le H5 H') ⟨rfl, Heap.le_refl _⟩ ?_
  rintro i H6 O6 hi - ⟨rfl, hle6⟩
  repeat (first | refine chkN_den ?_ | refine chkV_den ?_ | refine chkP_den rfl ?_)
  refine pure_den _ xlen ?_
  repeat (first | refine chkN_den ?_ | refine chkV_den ?_ | refine chkP_den rfl ?_)
  refine pure_den _ (lss_eq _ _) (br_den (fun hb => ?_) (fun hb => ?_))
  ·have hlt : i < l.length := by simpa using hb
   repeat (first | refine chkN_den ?_ | refine chkV_den ?_ | refine chkP_den rfl ?_)
   refine count_den i (fun j H' O' => O' = [] ∧ Heap.le H6 H') ⟨rfl, Heap.le_refl _⟩ ?_
   rintro j H7 O7 hj - ⟨rfl, hle7⟩
   repeat (first | refine chkN_den ?_ | refine chkV_den ?_ | refine chkP_den rfl ?_)
   refine pure_den _ (lss_eq _ _) (br_den (fun hb => ?_) (fun hb => ?_))
   ·have hji : j < i := by simpa using hb
    obtain ⟨a, h1, h2, _⟩ := tg_read [] (hx.le (Heap.le_trans hle6 hle7)) hlt
    obtain ⟨a', j1, j2, _⟩ := tg_read [] (hx.le (Heap.le_trans hle6 hle7)) (show j < l.length by omega)
    repeat (first | refine chkN_den ?_ | refine chkV_den ?_ | refine chkP_den rfl ?_)
    refine pure_den _ h1 (load_denR h2 rfl (tg_ones _) ?_)
    repeat (first | refine chkN_den ?_ | refine chkV_den ?_ | refine chkP_den rfl ?_)
    refine pure_den _ j1 (load_denR j2 rfl (tg_ones _) ?_)
    repeat (first | refine chkN_den ?_ | refine chkV_den ?_ | refine chkP_den rfl ?_)
    refine raw_denG (tgEql l[i] l[j]) (br_den (fun hc => ?_) (fun hc => ?_))
    ·exfalso
     have hc : l[i] = l[j] := by simpa using hc
     exact List.pairwise_iff_getElem.1 hnd j i (by omega) hlt hji hc.symm
    ·repeat (first | refine chkN_den ?_ | refine chkV_den ?_ | refine chkP_den rfl ?_)
     exact pure_den _ (add_one (by omega)) (count_cont (by simp [Eqs, E]) hji ⟨rfl, hle7⟩)
   ·repeat (first | refine chkN_den ?_ | refine chkV_den ?_ | refine chkP_den rfl ?_)
    exact pure_den _ (add_one (by omega)) (count_cont (by simp [Eqs, E]) hlt ⟨rfl, Heap.le_trans hle6 hle7⟩)
  ·replace h := h.le (Heap.le_trans l5 hle6)
   replace hk := hk.le (Heap.le_trans l5 hle6)
   repeat (first | refine chkN_den ?_ | refine chkV_den ?_ | refine chkP_den rfl ?_)
   refine pure_den _ (neq_eq _ _) (br_den (fun hz => ?_) (fun hz => ?_))
   ·have hz : (k : Int) ≠ 0 := by simpa using hz
    repeat (first | refine chkN_den ?_ | refine chkV_den ?_ | refine chkP_den rfl ?_)
    refine newbox_den fun r1 => ?_
    repeat (first | refine chkN_den ?_ | refine chkV_den ?_ | refine chkP_den rfl ?_)
    refine call_newF (shp := .one) (r := .bool (canT cs b p [(k : Int)])) (vs := [.bool (canT cs b p [(k : Int)])]) (fun Hf lf hf => c_Can (hk.le lf) hli (h.le lf) hst p (eff_block (hf _ List.mem_cons_self)) (by simp)) rfl ⟨rfl, trivial⟩ fun H8 l8 => ?_
    rw [can_one hv hp hz, hl]
    repeat (first | refine chkN_den ?_ | refine chkV_den ?_ | refine chkP_den rfl ?_)
    refine pure_den _ xlen ?_
    repeat (first | refine chkN_den ?_ | refine chkV_den ?_ | refine chkP_den rfl ?_)
    refine pure_den _ (gtr_eq _ _) ?_
    repeat (first | refine chkN_den ?_ | refine chkV_den ?_ | refine chkP_den rfl ?_)
    refine pure_den _ (bneq_eq _ _) (br_den (fun hd => by simp at hd) (fun _ => ?_))
    repeat (first | refine chkN_den ?_ | refine chkV_den ?_ | refine chkP_den rfl ?_)
    exact pure_den _ (add_one (by omega)) (count_cont (by simp [Eqs, E]) hk6 ⟨rfl, Heap.le_trans hle (Heap.le_trans l5 (Heap.le_trans hle6 l8))⟩)
   ·repeat (first | refine chkN_den ?_ | refine chkV_den ?_ | refine chkP_den rfl ?_)
    exact pure_den _ (add_one (by omega)) (count_cont (by simp [Eqs, E]) hk6 ⟨rfl, Heap.le_trans hle (Heap.le_trans l5 hle6)⟩)
 ·repeat (first | refine chkN_den ?_ | refine chkV_den ?_ | refine chkP_den rfl ?_)
  refine call_new (c_TList hk hli h hst p 2) ?_
  rintro x H5 _ ⟨hx, rfl⟩ l5
  refine ⟨[x], rfl, ⟨hx.one, trivial⟩, ?_⟩
  rw [eL, show listT cs b p 2 = tgs (ownT cs b p) from rfl] at hx
  replace h := h.le l5
  replace hk := hk.le l5
  repeat (first | refine chkN_den ?_ | refine chkV_den ?_ | refine chkP_den rfl ?_)
  refine call_new (c_TList hk hli h hst p 3) ?_
  rintro y H6 _ ⟨hy, rfl⟩ l6
  refine ⟨[y], rfl, ⟨hy.one, trivial⟩, ?_⟩
  rw [eL, show listT cs b p 3 = tgs (ownT cs b (1 - p)) from rfl] at hy
  replace h := h.le l6
  replace hk := hk.le l6
  repeat (first | refine chkN_den ?_ | refine chkV_den ?_ | refine chkP_den rfl ?_)
  refine call_new (c_TList hk hli h hst p 1) ?_
  rintro z H7 _ ⟨hz, rfl⟩ l7
  refine ⟨[z], rfl, ⟨hz.one, trivial⟩, ?_⟩
  rw [eL, show listT cs b p 1 = tgs (bothT cs b p) from rfl] at hz
  replace h := h.le l7
  replace hk := hk.le l7
  replace hy := hy.le l7
  have n1 : (ownT cs b p).length ≤ 1000000 := creatP_len hv p
  have n2 : (ownT cs b (1 - p)).length ≤ 1000000 := creatP_len hv (1 - p)
  have n3 : (bothT cs b p).length = (ownT cs b p).length + (ownT cs b (1 - p)).length := by rw [bothT, sortI_len, List.length_append]
  have xlen : evalPure .len [x] = some (iV (ownT cs b p).length) := by have := hx.len; rwa [tRows_len, tgs_len] at this
  have ylen : evalPure .len [y] = some (iV (ownT cs b (1 - p)).length) := by have := hy.len; rwa [tRows_len, tgs_len] at this
  have zlen : evalPure .len [z] = some (iV (bothT cs b p).length) := by have := hz.len; rwa [tRows_len, tgs_len] at this
  repeat (first | refine chkN_den ?_ | refine chkV_den ?_ | refine chkP_den rfl ?_)
  refine pure_den _ xlen ?_
  repeat (first | refine chkN_den ?_ | refine chkV_den ?_ | refine chkP_den rfl ?_)
  refine pure_den _ ylen ?_
  repeat (first | refine chkN_den ?_ | refine chkV_den ?_ | refine chkP_den rfl ?_)
  refine pure_den (iV (((bothT cs b p).length : Nat) : Int)) ?_ ?_
  ·rw [n3]
   simp only [evalPure, evalBin, evalInt, if_true]
   rw [wrap_id (by omega) (by omega)]
   simp
  repeat (first | refine chkN_den ?_ | refine chkV_den ?_ | refine chkP_den rfl ?_)
  refine pure_den _ zlen ?_
  repeat (first | refine chkN_den ?_ | refine chkV_den ?_ | refine chkP_den rfl ?_)
  refine pure_den _ (neq_eq _ _) (br_den (fun hd => by simp at hd) (fun _ => ?_))
  repeat (first | refine chkN_den ?_ | refine chkV_den ?_ | refine chkP_den rfl ?_)
  refine pure_den (iV (1 - p)) (subI (by omega) (by omega)) ?_
  repeat (first | refine chkN_den ?_ | refine chkV_den ?_ | refine chkP_den rfl ?_)
  refine call_new (c_TList hk hli h hst (1 - p) 2) ?_
  rintro u H8 _ ⟨hu, rfl⟩ l8
  refine ⟨[u], rfl, ⟨hu.one, trivial⟩, ?_⟩
  rw [eL', show listT cs b (1 - p) 2 = tgs (ownT cs b (1 - p)) from rfl] at hu
  replace h := h.le l8
  replace hk := hk.le l8
  replace hz := hz.le l8
  repeat (first | refine chkN_den ?_ | refine chkV_den ?_ | refine chkP_den rfl ?_)
  refine call_new0 (r_TSame (O := []) (hy.le l8) hu) rfl ⟨rfl, trivial⟩ fun H9 l9 => ?_
  replace h := h.le l9
  replace hk := hk.le l9
  replace hz := hz.le l9
  repeat (first | refine chkN_den ?_ | refine chkV_den ?_ | refine chkP_den rfl ?_)
  refine pure_den _ (not_eq' _) (br_den (fun hd => by simp at hd) (fun _ => ?_))
  repeat (first | refine chkN_den ?_ | refine chkV_den ?_ | refine chkP_den rfl ?_)
  refine pure_den (iV (1 - p)) (subI (by omega) (by omega)) ?_
  repeat (first | refine chkN_den ?_ | refine chkV_den ?_ | refine chkP_den rfl ?_)
  refine call_new (c_TList hk hli h hst (1 - p) 1) ?_
  rintro w H10 _ ⟨hw1, rfl⟩ l10
  refine ⟨[w], rfl, ⟨hw1.one, trivial⟩, ?_⟩
  rw [eL', show listT cs b (1 - p) 1 = tgs (bothT cs b (1 - p)) from rfl, both_swap hv] at hw1
  replace h := h.le l10
  replace hk := hk.le l10
  replace hz := hz.le l10
  repeat (first | refine chkN_den ?_ | refine chkV_den ?_ | refine chkP_den rfl ?_)
  refine call_new0 (r_TSame (O := []) hz hw1) rfl ⟨rfl, trivial⟩ fun H11 l11 => ?_
  replace h := h.le l11
  replace hk := hk.le l11
  replace hz := hz.le l11
  repeat (first | refine chkN_den ?_ | refine chkV_den ?_ | refine chkP_den rfl ?_)
  refine pure_den _ (not_eq' _) (br_den (fun hd => by simp at hd) (fun _ => ?_))
  have hsrt := both_sorted (cs := cs) hv p
  have hmem : ∀ y ∈ bothT cs b p, y ∈ bothT cs b p := fun _ h => h
  generalize hA : bothT cs b p = A at hz hsrt zlen hmem n3
  repeat (first | refine chkN_den ?_ | refine chkV_den ?_ | refine chkP_den rfl ?_)
  refine count_den A.length (fun i H' O' => O' = [] ∧ Heap.le H11 H') ⟨rfl, Heap.le_refl _⟩ ?_
  rintro i H12 O12 hi - ⟨rfl, hle12⟩
  replace h := h.le hle12
  replace hk := hk.le hle12
  repeat (first | refine chkN_den ?_ | refine chkV_den ?_ | refine chkP_den rfl ?_)
  refine pure_den _ zlen ?_
  repeat (first | refine chkN_den ?_ | refine chkV_den ?_ | refine chkP_den rfl ?_)
  refine pure_den _ (lss_eq _ _) (br_den (fun hb => ?_) (fun hb => ?_))
  ·have hlt : i < A.length := by simpa using hb
   have hlt' : i < (tgs A).length := by rw [tgs_len]; exact hlt
   have eAi : (tgs A)[i] = ⟨A[i], 0⟩ := by simp [tgs]
   have hin : A[i] ∈ bothT cs b p := by rw [hA]; exact List.getElem_mem hlt
   obtain ⟨a, h1, h2, h3⟩ := tg_read [] (hz.le hle12) hlt'
   rw [eAi] at h2 h3
   repeat (first | refine chkN_den ?_ | refine chkV_den ?_ | refine chkP_den rfl ?_)
   refine pure_den _ h1 (load_denR h2 rfl (tg_ones _) ?_)
   repeat (first | refine chkN_den ?_ | refine chkV_den ?_ | refine chkP_den rfl ?_)
   refine call_new0 (c_Legal hk hli h hst p 2 ⟨A[i], 0⟩) rfl ⟨rfl, trivial⟩ fun H13 l13 => ?_
   replace h := h.le l13
   replace hk := hk.le l13
   repeat (first | refine chkN_den ?_ | refine chkV_den ?_ | refine chkP_den rfl ?_)
   refine pure_den _ h1 (load_denR (reads_le h2 l13) rfl (tg_ones _) ?_)
   repeat (first | refine chkN_den ?_ | refine chkV_den ?_ | refine chkP_den rfl ?_)
   refine call_new0 (c_Legal hk hli h hst p 3 ⟨A[i], 0⟩) rfl ⟨rfl, trivial⟩ fun H14 l14 => ?_
   replace h := h.le l14
   replace hk := hk.le l14
   repeat (first | refine chkN_den ?_ | refine chkV_den ?_ | refine chkP_den rfl ?_)
   refine pure_den _ (beql_eq _ _) (br_den (fun hd => ?_) (fun _ => ?_))
   ·exfalso
    have hd : (legalT cs b p 2 ⟨A[i], 0⟩ == legalT cs b p 3 ⟨A[i], 0⟩) = true := hd
    rw [legalT, legalT, eL, eL] at hd
    have := own_xor (cs := cs) hv hin
    rw [show listT cs b p 2 = tgs (ownT cs b p) from rfl, show listT cs b p 3 = tgs (ownT cs b (1 - p)) from rfl, this] at hd
    cases hd
   repeat (first | refine chkN_den ?_ | refine chkV_den ?_ | refine chkP_den rfl ?_)
   refine pure_den _ h1 (load_denR (reads_le h2 (Heap.le_trans l13 l14)) rfl (tg_ones _) ?_)
   repeat (first | refine chkN_den ?_ | refine chkV_den ?_ | refine chkP_den rfl ?_)
   refine call_new0 (c_Legal hk hli h hst p 5 ⟨A[i], 0⟩) rfl ⟨rfl, trivial⟩ fun H15 l15 => ?_
   have e5 : legalT cs b p 5 ⟨A[i], 0⟩ = true := by
    rw [legalT, eL, show listT cs b p 5 = plT p ++ tgs (bothT cs b p) from rfl, List.any_append, any_tgs.2 hin, Bool.or_true]
   rw [e5]
   have lz := Heap.le_trans hle12 (Heap.le_trans l13 (Heap.le_trans l14 l15))
   have h3' := reads_le h3 (Heap.le_trans l13 (Heap.le_trans l14 l15))
   repeat (first | refine chkN_den ?_ | refine chkV_den ?_ | refine chkP_den rfl ?_)
   refine pure_den _ (not_eq' _) ?_
   repeat (first | refine chkN_den ?_ | refine chkV_den ?_ | refine chkP_den rfl ?_)
   refine pure_den _ (gtr_eq _ _) ?_
   repeat (first | refine chkN_den ?_ | refine chkV_den ?_ | refine chkP_den rfl ?_)
   refine pure_den _ (subI (by omega) (by omega)) ?_
   repeat (first | refine chkN_den ?_ | refine chkV_den ?_ | refine chkP_den rfl ?_)
   rcases Nat.eq_zero_or_pos i with h0 | h0
   ·subst h0
    have hoff : ∀ {P : Prop} {gd : List (Value × Bool)}, On ((Value.bool (decide (((0 : Nat) : Int) > 0)), true) :: gd) → P := fun ho => by have := ho.1; cases this
    refine ⟨.pointer (some a), fun ho => hoff ho, .inr rfl, ?_⟩
    repeat (first | refine chkN_den ?_ | refine chkV_den ?_ | refine chkP_den rfl ?_)
    refine ⟨[iV 0], rfl, ⟨rfl, trivial⟩, fun ho => hoff ho, ?_⟩
    repeat (first | refine chkN_den ?_ | refine chkV_den ?_ | refine chkP_den rfl ?_)
    refine ⟨.pointer (some a), fun ho => hoff ho, .inr rfl, ?_⟩
    repeat (first | refine chkN_den ?_ | refine chkV_den ?_ | refine chkP_den rfl ?_)
    refine ⟨[iV 0], rfl, ⟨rfl, trivial⟩, fun ho => hoff ho, ?_⟩
    repeat (first | refine chkN_den ?_ | refine chkV_den ?_ | refine chkP_den rfl ?_)
    refine pure_den _ (geq_eq _ _) ?_
    repeat (first | refine chkN_den ?_ | refine chkV_den ?_ | refine chkP_den rfl ?_)
    refine pure_den _ (pick_and _ _) ?_
    repeat (first | refine chkN_den ?_ | refine chkV_den ?_ | refine chkP_den rfl ?_)
    refine pure_den _ (pick_or _ _) (br_den (fun hd => by cases hd) (fun _ => ?_))
    repeat (first | refine chkN_den ?_ | refine chkV_den ?_ | refine chkP_den rfl ?_)
    exact pure_den _ (add_one (by omega)) (count_cont (by simp [Eqs, E]) hlt ⟨rfl, lz⟩)
   ·obtain ⟨a', j1, _, j3⟩ := tg_read [] (hz.le lz) (show i - 1 < (tgs A).length by rw [tgs_len]; omega)
    have eAj : (tgs A)[i - 1]'(by rw [tgs_len]; omega) = ⟨A[i - 1]'(by omega), 0⟩ := by simp [tgs]
    rw [eAj] at j3
    have hcast : ((i - 1 : Nat) : Int) = (i : Int) - 1 := by omega
    rw [hcast] at j1
    have hlt2 : A[i - 1]'(by omega) < A[i] := List.pairwise_iff_getElem.1 hsrt (i - 1) i (by omega) hlt (by omega)
    refine ⟨.pointer (some a'), fun _ => j1, .inr rfl, ?_⟩
    repeat (first | refine chkN_den ?_ | refine chkV_den ?_ | refine chkP_den rfl ?_)
    refine ⟨[iV (A[i - 1]'(by omega))], rfl, ⟨rfl, trivial⟩, fun _ => j3, ?_⟩
    repeat (first | refine chkN_den ?_ | refine chkV_den ?_ | refine chkP_den rfl ?_)
    refine ⟨.pointer (some a), fun _ => h1, .inr rfl, ?_⟩
    repeat (first | refine chkN_den ?_ | refine chkV_den ?_ | refine chkP_den rfl ?_)
    refine ⟨[iV A[i]], rfl, ⟨rfl, trivial⟩, fun _ => h3', ?_⟩
    repeat (first | refine chkN_den ?_ | refine chkV_den ?_ | refine chkP_den rfl ?_)
    refine pure_den _ (geq_eq _ _) ?_
    repeat (first | refine chkN_den ?_ | refine chkV_den ?_ | refine chkP_den rfl ?_)
    refine pure_den _ (pick_and _ _) ?_
    repeat (first | refine chkN_den ?_ | refine chkV_den ?_ | refine chkP_den rfl ?_)
    refine pure_den _ (pick_or _ _) (br_den (fun hd => ?_) (fun _ => ?_))
    ·exfalso
     have hd : (!true || (decide ((i : Int) > 0) && decide (A[i - 1]'(by omega) ≥ A[i]))) = true := hd
     simp at hd
     omega
    repeat (first | refine chkN_den ?_ | refine chkV_den ?_ | refine chkP_den rfl ?_)
    exact pure_den _ (add_one (by omega)) (count_cont (by simp [Eqs, E]) hlt ⟨rfl, lz⟩)
  ·repeat (first | refine chkN_den ?_ | refine chkV_den ?_ | refine chkP_den rfl ?_)
   exact call_retO (c_knownT _ []) rfl ⟨rfl, trivial⟩ fun _ _ => ret_denO ⟨rfl, rfl⟩
end Go.Proofs.Ytbaegnnmedjkmaa
