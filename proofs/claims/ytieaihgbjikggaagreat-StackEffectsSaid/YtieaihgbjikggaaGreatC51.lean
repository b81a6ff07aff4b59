/- Legal targets; light cards; lists that are equal. -/
import Derived.Test.YtieaihgbjikggaaGreatC48
import Derived.Test.YtieaihgbjikggaaGreatKT
import Derived.Test.YtieaihgbjikggaaGreatKN2
namespace Go.Proofs.YtieaihgbjikggaaGreat
open Go Go.Sx
set_option maxRecDepth 100000
set_option maxHeartbeats 1000000
end Go.Proofs.YtieaihgbjikggaaGreat
namespace Go.Proofs.YtieaihgbjikggaaGreat
open Go Go.Sx
set_option maxRecDepth 100000
set_option maxHeartbeats 1000000
theorem card_idx {H : Heap} (O : Own) {v : Value} {cs : List Cd} (h : CardsS H v cs) {i : Nat} (hi : i < cs.length) :
  ∃ a r, evalPure (.idx 14) [v, iV i] = some (.pointer (some a)) ∧ CdR H r cs[i] ∧ Reads H O (ptrAdd (.pointer (some a)) 11) 1 [g r 11] ∧ Reads H O (ptrAdd (.pointer (some a)) 12) 1 [g r 12] := by
 obtain ⟨rows, h1, h2, h3⟩ := h
 have hlt : i < rows.length := by omega
 obtain ⟨a, k1, k2, k3, k4, k5⟩ := (h1.rsl O).idx .i64 i rows[i] (by simp [hlt])
 refine ⟨a, rows[i], k1, h3 i _ _ (List.getElem?_eq_getElem hlt) (List.getElem?_eq_getElem hi), ?_, ?_⟩
 ·have e : ((rows[i]).drop 11).take 1 = [g rows[i] 11] := by
   rw [g, List.getD_eq_getElem?_getD, List.getElem?_eq_getElem (by omega), List.drop_eq_getElem_cons (by omega)]; rfl
  rw [← e]; exact k3 11 1 (by omega)
 ·have e : ((rows[i]).drop 12).take 1 = [g rows[i] 12] := by
   rw [g, List.getD_eq_getElem?_getD, List.getElem?_eq_getElem (by omega), List.drop_eq_getElem_cons (by omega)]; rfl
  rw [← e]; exact k3 12 1 (by omega)
theorem trig_idx {H : Heap} (O : Own) {v : Value} {tr : List Nat} (h : TrigsS H v tr) {i : Nat} (hi : i < tr.length) :
  ∃ a r, evalPure (.idx 2) [v, iV i] = some (.pointer (some a)) ∧ TrigR H r tr[i] ∧ Reads H O (ptrAdd (.pointer (some a)) 1) 1 [g r 1] := by
 obtain ⟨rows, h1, h2, h3⟩ := h
 have hlt : i < rows.length := by omega
 obtain ⟨a, k1, k2, k3, k4, k5⟩ := (h1.rsl O).idx .i64 i rows[i] (by simp [hlt])
 refine ⟨a, rows[i], k1, h3 i _ _ (List.getElem?_eq_getElem hlt) (List.getElem?_eq_getElem hi), ?_⟩
 have e : ((rows[i]).drop 1).take 1 = [g rows[i] 1] := by
  rw [g, List.getD_eq_getElem?_getD, List.getElem?_eq_getElem (by omega), List.drop_eq_getElem_cons (by omega)]; rfl
 rw [← e]; exact k3 1 1 (by omega)
theorem c_light {H : Heap} {v : Value} {cs : List Cd} (h : CardsS H v cs) : RetO PP F_zeitnotlaw18_light [v] H [] (.bool (lightB cs)) := by
 refine run_zeitnotlaw18_light (vs := [v]) (by kernel_rfl) ⟨h.one, trivial⟩ ?_
 simp only [T_zeitnotlaw18_light]
 have hB : cs.length < 2 ^ 63 := by
  obtain ⟨rows, h1, h2, _⟩ := h
  have := h1.lenB; omega
 refine count_den cs.length (fun i H' O' => O' = [] ∧ Heap.le H H' ∧ i ≤ 13 ∧ ((cs.take i).all cdLight) = true) ⟨rfl, Heap.le_refl H, by omega, rfl⟩ ?_
 rintro i H' O' hi - ⟨rfl, hle, hi13, hor⟩
 replace h := h.le hle
 repeat (first | refine chkN_den ?_ | refine chkV_den ?_ | refine chkP_den rfl ?_)
 refine pure_den _ h.len ?_
 repeat (first | refine chkN_den ?_ | refine chkV_den ?_ | refine chkP_den rfl ?_)
 refine pure_den _ (lss_eq _ _) ?_
 repeat (first | refine chkN_den ?_ | refine chkV_den ?_ | refine chkP_den rfl ?_)
 refine pure_den _ (lss_eq _ _) ?_
 repeat (first | refine chkN_den ?_ | refine chkV_den ?_ | refine chkP_den rfl ?_)
 refine pure_den _ (pick_and _ _) (br_den (fun hb => ?_) (fun hb => ?_))
 ·have hb : (decide ((i : Int) < (cs.length : Int)) && decide ((i : Int) < 13)) = true := hb
  rw [Bool.and_eq_true, decide_eq_true_eq, decide_eq_true_eq] at hb
  have hlt : i < cs.length := by omega
  have hl13 : i < 13 := by omega
  obtain ⟨a, r, k1, k2, k3, k4⟩ := card_idx [] h hlt
  have hst : lightB cs = false ∨ cdLight cs[i] = true := by
   cases hc : cdLight cs[i]
   ·refine .inl ?_
    rw [lightB, Bool.and_eq_false_iff]
    refine .inl ?_
    rw [List.all_eq_false]
    exact ⟨cs[i], List.mem_take_iff_getElem.2 ⟨i, by omega, rfl⟩, by rw [hc]; simp⟩
   ·exact .inr rfl
  have hbad : ∀ {x : Bool}, cdLight cs[i] = false → x = false → (x = lightB cs) := fun h1 h2 => by
   rcases hst with e | e
   ·rw [h2, e]
   ·rw [h1] at e; cases e
  repeat (first | refine chkN_den ?_ | refine chkV_den ?_ | refine chkP_den rfl ?_)
  refine pure_den _ k1 ?_
  repeat (first | refine chkN_den ?_ | refine chkV_den ?_ | refine chkP_den rfl ?_)
  refine load_denR k3 rfl ⟨k2.eff.one, trivial⟩ ?_
  repeat (first | refine chkN_den ?_ | refine chkV_den ?_ | refine chkP_den rfl ?_)
  refine pure_den _ k2.eff.len ?_
  repeat (first | refine chkN_den ?_ | refine chkV_den ?_ | refine chkP_den rfl ?_)
  refine pure_den _ (gtr_eq _ _) ?_
  repeat (first | refine chkN_den ?_ | refine chkV_den ?_ | refine chkP_den rfl ?_)
  refine ⟨.pointer (some a), fun _ => k1, .inr rfl, ?_⟩
  repeat (first | refine chkN_den ?_ | refine chkV_den ?_ | refine chkP_den rfl ?_)
  refine ⟨[g r 12], rfl, ⟨k2.trig.one, trivial⟩, fun _ => k4, ?_⟩
  repeat (first | refine chkN_den ?_ | refine chkV_den ?_ | refine chkP_den rfl ?_)
  refine pure_den _ k2.trig.len ?_
  repeat (first | refine chkN_den ?_ | refine chkV_den ?_ | refine chkP_den rfl ?_)
  refine pure_den _ (gtr_eq _ _) ?_
  repeat (first | refine chkN_den ?_ | refine chkV_den ?_ | refine chkP_den rfl ?_)
  refine pure_den _ (pick_or _ _) (br_den (fun hc => ?_) (fun hc => ?_))
  ·have hc : (decide ((cs[i].tg.length : Int) > 5) || decide ((cs[i].tr.length : Int) > 3)) = true := hc
   refine ret_denO ⟨?_, rfl⟩
   congr 1
   exact hbad (by rw [cdLight, hc]; rfl) rfl
  ·have hc : (decide ((cs[i].tg.length : Int) > 5) || decide ((cs[i].tr.length : Int) > 3)) = false := hc
   have hc3 : cs[i].tr.length ≤ 3 := by
    rw [Bool.or_eq_false_iff, decide_eq_false_iff_not, decide_eq_false_iff_not] at hc; omega
   refine count_den cs[i].tr.length (fun j H2 O2 => O2 = [] ∧ Heap.le H' H2 ∧ (cs[i].tr.all fun n => !decide ((n : Int) > 5)) = ((cs[i].tr.drop j).all fun n => !decide ((n : Int) > 5))) ⟨rfl, Heap.le_refl _, rfl⟩ ?_
   rintro j H2 O2 hj - ⟨rfl, hle2, hor2⟩
   repeat (first | refine chkN_den ?_ | refine chkV_den ?_ | refine chkP_den rfl ?_)
   refine pure_den _ k1 ?_
   repeat (first | refine chkN_den ?_ | refine chkV_den ?_ | refine chkP_den rfl ?_)
   refine load_denR (reads_le k4 hle2) rfl ⟨k2.trig.one, trivial⟩ ?_
   repeat (first | refine chkN_den ?_ | refine chkV_den ?_ | refine chkP_den rfl ?_)
   refine pure_den _ k2.trig.len ?_
   repeat (first | refine chkN_den ?_ | refine chkV_den ?_ | refine chkP_den rfl ?_)
   refine pure_den _ (lss_eq _ _) (br_den (fun hd => ?_) (fun hd => ?_))
   ·have hjlt : j < cs[i].tr.length := by simpa using hd
    obtain ⟨a2, r2, m1, m2, m3⟩ := trig_idx [] (k2.trig.le hle2) hjlt
    obtain ⟨er, m4, m5⟩ := m2
    have el : evalPure .len [g r2 1] = some (iV cs[i].tr[j]) := by have := m4.len; rwa [m5] at this
    repeat (first | refine chkN_den ?_ | refine chkV_den ?_ | refine chkP_den rfl ?_)
    refine pure_den _ k1 ?_
    repeat (first | refine chkN_den ?_ | refine chkV_den ?_ | refine chkP_den rfl ?_)
    refine load_denR (reads_le k4 hle2) rfl ⟨k2.trig.one, trivial⟩ ?_
    repeat (first | refine chkN_den ?_ | refine chkV_den ?_ | refine chkP_den rfl ?_)
    refine pure_den _ m1 ?_
    repeat (first | refine chkN_den ?_ | refine chkV_den ?_ | refine chkP_den rfl ?_)
    refine load_denR m3 rfl ⟨m4.one, trivial⟩ ?_
    repeat (first | refine chkN_den ?_ | refine chkV_den ?_ | refine chkP_den rfl ?_)
    refine pure_den _ el ?_
    repeat (first | refine chkN_den ?_ | refine chkV_den ?_ | refine chkP_den rfl ?_)
    refine pure_den _ (gtr_eq _ _) (br_den (fun he => ?_) (fun he => ?_))
    ·have he : decide ((cs[i].tr[j] : Int) > 5) = true := he
     refine ret_denO ⟨?_, rfl⟩
     congr 1
     exact hbad (by rw [cdLight, hor2, List.drop_eq_getElem_cons hjlt, List.all_cons, he]; simp) rfl
    ·have he : decide ((cs[i].tr[j] : Int) > 5) = false := he
     repeat (first | refine chkN_den ?_ | refine chkV_den ?_ | refine chkP_den rfl ?_)
     refine pure_den _ (add_one (by omega)) (count_cont (by simp [Eqs, E]) hjlt ⟨rfl, hle2, ?_⟩)
     rw [hor2, List.drop_eq_getElem_cons hjlt, List.all_cons, he]; rfl
   ·have hjge : cs[i].tr.length ≤ j := by simpa using hd
    rw [List.drop_of_length_le hjge] at hor2
    repeat (first | refine chkN_den ?_ | refine chkV_den ?_ | refine chkP_den rfl ?_)
    refine pure_den _ (add_one (by omega)) (count_cont (by simp [Eqs, E]) hlt ⟨rfl, Heap.le_trans hle hle2, by omega, ?_⟩)
    rw [List.take_add_one, List.getElem?_eq_getElem hlt, List.all_append, hor]
    simp only [Option.toList_some, List.all_cons, List.all_nil, Bool.and_true, Bool.true_and]
    rw [cdLight, hc, hor2]; rfl
 ·have hb : (decide ((i : Int) < (cs.length : Int)) && decide ((i : Int) < 13)) = false := hb
  rw [Bool.and_eq_false_iff, decide_eq_false_iff_not, decide_eq_false_iff_not] at hb
  repeat (first | refine chkN_den ?_ | refine chkV_den ?_ | refine chkP_den rfl ?_)
  refine pure_den _ h.len ?_
  repeat (first | refine chkN_den ?_ | refine chkV_den ?_ | refine chkP_den rfl ?_)
  refine pure_den _ (leq_eq _ _) (ret_denO ⟨?_, rfl⟩)
  congr 1
  rw [lightB]
  rcases hb with hb | hb
  ·have e1 : cs.take i = cs := List.take_of_length_le (by omega)
   have e2 : cs.take 13 = cs := List.take_of_length_le (by omega)
   rw [e1] at hor
   rw [e2, hor, Bool.true_and]
  ·obtain rfl : i = 13 := by omega
   rw [hor, Bool.true_and]
end Go.Proofs.YtieaihgbjikggaaGreat
namespace Go.Proofs.YtieaihgbjikggaaGreat
open Go Go.Sx
set_option maxRecDepth 100000
set_option maxHeartbeats 1000000
theorem efEql (o p : Eff) : rawE PP (.eqv .eql Ty_api_Effect false) [.agg o.row.toArray, .agg p.row.toArray] = some (.bool (o == p)) := by
 have e : rawE PP (.eqv .eql Ty_api_Effect false) [.agg o.row.toArray, .agg p.row.toArray] = (chain [o.code == p.code, o.target == p.target, o.n == p.n, o.m == p.m, o.colour == p.colour]).map fun b => .bool b := by kernel_rfl
 rw [e, chain_all]
 simp only [Option.map_some, Option.some.injEq, Value.bool.injEq]
 cases o; cases p
 rw [Bool.eq_iff_iff]
 simp
theorem efNeq (o p : Eff) : rawE PP (.eqv .neq Ty_api_Effect false) [.agg o.row.toArray, .agg p.row.toArray] = some (.bool (!(o == p))) := by
 have e : rawE PP (.eqv .neq Ty_api_Effect false) [.agg o.row.toArray, .agg p.row.toArray] = (chain [o.code == p.code, o.target == p.target, o.n == p.n, o.m == p.m, o.colour == p.colour]).map fun b => .bool (!b) := by kernel_rfl
 rw [e, chain_all]
 simp only [Option.map_some, Option.some.injEq, Value.bool.injEq]
 congr 1
 cases o; cases p
 rw [Bool.eq_iff_iff]
 simp
theorem two_snd {r : List Value} (h : r.length = 2) : (r.drop 1).take 1 = [g r 1] := by
 match r, h with
 | [_, _], _ => rfl
theorem c_SEffects {H : Heap} {v : Value} {cs : List CdX} (h : CardsX H v cs) (hli : lightB (cs.map CdX.base) = true) (player id card trig : Int) {s : Value} (hs : s.oneCell' = true) :
  Triple PP F_stack_Effects [v, .agg #[iV player, iV id, iV card, iV trig, s]] H [] fun r _ O' => OSl Ty_api_Effect 5 r (efRows (effX cs card trig)) O' := by
 refine run_stack_Effects (vs := [v, iV player, iV id, iV card, iV trig, s]) (by kernel_rfl) ⟨h.one, rfl, rfl, rfl, rfl, hs, trivial⟩ ?_
 simp only [T_stack_Effects]
 refine newbox_den fun r0 => ?_
 repeat (first | refine chkN_den ?_ | refine chkV_den ?_)
 refine call_new (c_objCardX h hli (obOf card)) ?_
 rintro _ H1 O1 ⟨cells, A, B, rfl, k1, k2, k3, k4, k5, k6⟩ l1
 refine ⟨cells, by simp [Shp.open, k1], k2, newbox_den fun r1 => ?_⟩
 have k4 : OSl Ty_api_Effect 5 (g cells 11) (efRows (cdX cs card).effs) A := k4
 obtain ⟨rows, A', Ts, q1, q2, q3, q4, q5⟩ : OTrs (g cells 12) (cdX cs card).trs B := k5
 have hlen : evalPure .len [g cells 12] = some (iV (cdX cs card).trs.length) := by have := q2.len; rwa [q3] at this
 repeat (first | refine chkN_den ?_ | refine chkV_den ?_)
 refine pure_den _ (eql_eq _ _) (br_den (fun hb => ?_) (fun hb => ?_))
 ·have hb : trig = -1 := by simpa using hb
  repeat (first | refine chkN_den ?_ | refine chkV_den ?_)
  refine ret_sub (O' := A) (Y := B) (by simpa using k6) ?_
  rw [effX, if_pos hb]; exact k4
 have hb : trig ≠ -1 := by simpa using hb
 repeat (first | refine chkN_den ?_ | refine chkV_den ?_)
 refine pure_den _ (lss_eq _ _) ?_
 repeat (first | refine chkN_den ?_ | refine chkV_den ?_)
 refine pure_den _ hlen ?_
 repeat (first | refine chkN_den ?_ | refine chkV_den ?_ | refine newbox_den fun _ => ?_ | refine pure_den _ (lss_eq _ _) ?_ | refine pure_den _ (gtr_eq _ _) ?_ | refine pure_den _ (leq_eq _ _) ?_ | refine pure_den _ (geq_eq _ _) ?_ | refine pure_den _ (eql_eq _ _) ?_ | refine pure_den _ (neq_eq _ _) ?_ | refine pure_den _ (pick_and _ _) ?_ | refine pure_den _ (pick_or _ _) ?_ | refine pure_den _ (not_eq' _) ?_ | refine pure_den _ (beql_eq _ _) ?_ | refine pure_den _ (bneq_eq _ _) ?_)
 refine br_den (fun hc => ?_) (fun hc => ?_)
 ·have hc : (decide (trig < 0) || decide (trig ≥ ((cdX cs card).trs.length : Int))) = true := hc
  repeat (first | refine chkN_den ?_ | refine chkV_den ?_)
  refine ret_drop ?_
  rw [effX, if_neg hb, if_pos (by simpa using hc)]; exact OSl.nil _ _
 ·have hc : (decide (trig < 0) || decide (trig ≥ ((cdX cs card).trs.length : Int))) = false := hc
  have hn : ¬ (trig < 0 ∨ trig ≥ ((cdX cs card).trs.length : Int)) := by simpa [Bool.or_eq_false_iff] using hc
  have hlt : trig.toNat < (cdX cs card).trs.length := by omega
  have ecast : ((trig.toNat : Nat) : Int) = trig := by omega
  have hri : rows[trig.toNat]? = some (rows[trig.toNat]'(by omega)) := List.getElem?_eq_getElem (by omega)
  have hTi : trig.toNat < Ts.length := by omega
  have hT := q5 _ _ _ _ hri (List.getElem?_eq_getElem hlt) (List.getElem?_eq_getElem hTi)
  obtain ⟨w1, w2⟩ := q2.rows_ok hri
  obtain ⟨p1, _⟩ := flatten_pick hTi
  have hmem : ∀ p ∈ A', p ∈ O1 ++ [] := fun p hp => by
   rw [List.append_nil]
   exact k6.mem_iff.2 (List.mem_append_right _ (q1.mem_iff.2 (List.mem_append_left _ hp)))
  obtain ⟨a, i1, i2, i3, i4⟩ := q2.idx hmem H1 (k := .i64) hri
  have i5 := i4 1 1 (by omega)
  rw [two_snd w1] at i5
  rw [ecast] at i1
  repeat (first | refine chkN_den ?_ | refine chkV_den ?_ | refine chkP_den rfl ?_)
  refine pure_den _ i1 ?_
  repeat (first | refine chkN_den ?_ | refine chkV_den ?_ | refine chkP_den rfl ?_)
  refine load_denR i5 rfl ⟨hT.one, trivial⟩ ?_
  repeat (first | refine chkN_den ?_ | refine chkV_den ?_ | refine chkP_den rfl ?_)
  have hperm : (O1 ++ []).Perm (Ts[trig.toNat] ++ (A ++ (A' ++ List.flatten (Ts.eraseIdx trig.toNat)))) := by
   rw [List.append_nil]
   refine k6.trans ?_
   refine ((q1.trans (p1.append_left A')).append_left A).trans ?_
   refine ((List.perm_append_comm_assoc A' _ _).append_left A).trans ?_
   exact List.perm_append_comm_assoc A _ _
  refine ret_sub hperm ?_
  rw [effX, if_neg hb, if_neg hn, List.getD_eq_getElem?_getD, List.getElem?_eq_getElem hlt]
  exact hT
theorem r_SEffects {H : Heap} {v : Value} {cs : List CdX} (h : CardsX H v cs) (player id card trig : Int) {s : Value} (hs : s.oneCell' = true) :
  Triple PP F_zeitnotref18_Effects [v, .agg #[iV player, iV id, iV card, iV trig, s]] H [] fun r H' O' => Sl H' 5 r (efRows (effX cs card trig)) ∧ O' = [] := by
 refine run_zeitnotref18_Effects (vs := [v, iV player, iV id, iV card, iV trig, s]) (by kernel_rfl) ⟨h.one, rfl, rfl, rfl, rfl, hs, trivial⟩ ?_
 simp only [T_zeitnotref18_Effects]
 refine newbox_den fun r0 => ?_
 repeat (first | refine chkN_den ?_ | refine chkV_den ?_)
 refine call_new (r_CardX (O := []) h (obOf card)) ?_
 rintro _ H1 _ ⟨⟨cells, rfl, k1, k2, k3⟩, rfl⟩ l1
 refine ⟨cells, by simp [Shp.open, k1], k2, newbox_den fun r1 => ?_⟩
 have k4 : Sl H1 5 (g cells 11) (efRows (cdX cs card).effs) := k3.eff
 obtain ⟨rows, q2, q3, q5⟩ : TrsX H1 (g cells 12) (cdX cs card).trs := k3.trig
 have hlen : evalPure .len [g cells 12] = some (iV (cdX cs card).trs.length) := by have := q2.len; rwa [q3] at this
 repeat (first | refine chkN_den ?_ | refine chkV_den ?_)
 refine pure_den _ (eql_eq _ _) (br_den (fun hb => ?_) (fun hb => ?_))
 ·have hb : trig = -1 := by simpa using hb
  repeat (first | refine chkN_den ?_ | refine chkV_den ?_)
  refine ret_denO ⟨?_, rfl⟩
  rw [effX, if_pos hb]; exact k4
 have hb : trig ≠ -1 := by simpa using hb
 repeat (first | refine chkN_den ?_ | refine chkV_den ?_)
 refine pure_den _ (lss_eq _ _) ?_
 repeat (first | refine chkN_den ?_ | refine chkV_den ?_)
 refine pure_den _ hlen ?_
 repeat (first | refine chkN_den ?_ | refine chkV_den ?_ | refine newbox_den fun _ => ?_ | refine pure_den _ (lss_eq _ _) ?_ | refine pure_den _ (gtr_eq _ _) ?_ | refine pure_den _ (leq_eq _ _) ?_ | refine pure_den _ (geq_eq _ _) ?_ | refine pure_den _ (eql_eq _ _) ?_ | refine pure_den _ (neq_eq _ _) ?_ | refine pure_den _ (pick_and _ _) ?_ | refine pure_den _ (pick_or _ _) ?_ | refine pure_den _ (not_eq' _) ?_ | refine pure_den _ (beql_eq _ _) ?_ | refine pure_den _ (bneq_eq _ _) ?_)
 refine br_den (fun hc => ?_) (fun hc => ?_)
 ·have hc : (decide (trig < 0) || decide (trig ≥ ((cdX cs card).trs.length : Int))) = true := hc
  repeat (first | refine chkN_den ?_ | refine chkV_den ?_)
  refine ret_denO ⟨?_, rfl⟩
  rw [effX, if_neg hb, if_pos (by simpa using hc)]; exact Sl.nil _ _
 ·have hc : (decide (trig < 0) || decide (trig ≥ ((cdX cs card).trs.length : Int))) = false := hc
  have hn : ¬ (trig < 0 ∨ trig ≥ ((cdX cs card).trs.length : Int)) := by simpa [Bool.or_eq_false_iff] using hc
  have hlt : trig.toNat < (cdX cs card).trs.length := by omega
  have ecast : ((trig.toNat : Nat) : Int) = trig := by omega
  have hri : rows[trig.toNat]? = some (rows[trig.toNat]'(by omega)) := List.getElem?_eq_getElem (by omega)
  have hT := q5 _ _ _ hri (List.getElem?_eq_getElem hlt)
  obtain ⟨a, i1, i2, i3, w1, w2⟩ := (q2.rsl []).idx .i64 trig.toNat (rows[trig.toNat]'(by omega)) hri
  have i5 := i3 1 1 (by omega)
  rw [two_snd w1] at i5
  rw [ecast] at i1
  repeat (first | refine chkN_den ?_ | refine chkV_den ?_ | refine chkP_den rfl ?_)
  refine pure_den _ i1 ?_
  repeat (first | refine chkN_den ?_ | refine chkV_den ?_ | refine chkP_den rfl ?_)
  refine load_denR i5 rfl ⟨hT.one, trivial⟩ ?_
  repeat (first | refine chkN_den ?_ | refine chkV_den ?_ | refine chkP_den rfl ?_)
  refine ret_denO ⟨?_, rfl⟩
  rw [effX, if_neg hb, if_neg hn, List.getD_eq_getElem?_getD, List.getElem?_eq_getElem hlt]
  exact hT
theorem effects_true {H : Heap} {cv : Value} {cs : List CdX} (hk : CardsX H cv cs) (player id card trig : Int) {s : Value} {tg : List Tg} (hs : Sl H 2 s (tRows tg)) :
  Triple PP F_zeitnotlaw18_StackEffects [cv, .agg #[iV player, iV id, iV card, iV trig, s]] H [] fun r _ O' => r = .bool true ∧ O' = [] := by
 refine run_zeitnotlaw18_StackEffects (vs := [cv, iV player, iV id, iV card, iV trig, s]) (by kernel_rfl) ⟨hk.one, rfl, rfl, rfl, rfl, hs.one, trivial⟩ ?_
 simp only [T_zeitnotlaw18_StackEffects]
 have slen : evalPure .len [s] = some (iV tg.length) := by have := hs.len; rwa [tRows_len] at this
 refine newbox_den fun r0 => ?_
 repeat (first | refine chkN_den ?_ | refine chkV_den ?_ | refine chkP_den rfl ?_)
 refine call_retO (c_light hk.base) rfl ⟨rfl, trivial⟩ fun H1 l1 => ?_
 repeat (first | refine chkN_den ?_ | refine chkV_den ?_ | refine chkP_den rfl ?_)
 refine pure_den _ (not_eq' _) ?_
 repeat (first | refine chkN_den ?_ | refine chkV_den ?_ | refine chkP_den rfl ?_)
 refine pure_den _ slen ?_
 repeat (first | refine chkN_den ?_ | refine chkV_den ?_ | refine newbox_den fun _ => ?_ | refine pure_den _ (lss_eq _ _) ?_ | refine pure_den _ (gtr_eq _ _) ?_ | refine pure_den _ (leq_eq _ _) ?_ | refine pure_den _ (geq_eq _ _) ?_ | refine pure_den _ (eql_eq _ _) ?_ | refine pure_den _ (neq_eq _ _) ?_ | refine pure_den _ (pick_and _ _) ?_ | refine pure_den _ (pick_or _ _) ?_ | refine pure_den _ (not_eq' _) ?_ | refine pure_den _ (beql_eq _ _) ?_ | refine pure_den _ (bneq_eq _ _) ?_)
 refine br_den (fun hb => ?_) (fun hb => ?_)
 ·repeat (first | refine chkN_den ?_ | refine chkV_den ?_ | refine chkP_den rfl ?_)
  exact call_retO (c_knownT _ []) rfl ⟨rfl, trivial⟩ fun _ _ => ret_denO ⟨rfl, rfl⟩
 have hb : (!lightB (cs.map CdX.base) || decide ((tg.length : Int) > 6)) = false := hb
 rw [Bool.or_eq_false_iff] at hb
 have hli : lightB (cs.map CdX.base) = true := notF hb.1
 replace hk := hk.le l1
 repeat (first | refine chkN_den ?_ | refine chkV_den ?_ | refine chkP_den rfl ?_)
 refine call_new (c_SEffects hk hli player id card trig hs.one) fun x H2 O2 hx l2 => ⟨[x], rfl, ⟨hx.one, trivial⟩, ?_⟩
 repeat (first | refine chkN_den ?_ | refine chkV_den ?_ | refine chkP_den rfl ?_)
 refine call_new (r_SEffects (hk.le l2) player id card trig hs.one) ?_
 rintro y H3 _ ⟨hy, rfl⟩ l3
 refine ⟨[y], rfl, ⟨hy.one, trivial⟩, ?_⟩
 generalize effX cs card trig = l at hx hy
 have xlen : evalPure .len [x] = some (iV l.length) := by have := hx.len; rwa [efRows_len] at this
 have ylen : evalPure .len [y] = some (iV l.length) := by have := hy.len; rwa [efRows_len] at this
 have hlB := hy.lenB
 rw [efRows_len] at hlB
 repeat (first | refine chkN_den ?_ | refine chkV_den ?_ | refine chkP_den rfl ?_)
 refine pure_den _ xlen ?_
 repeat (first | refine chkN_den ?_ | refine chkV_den ?_ | refine chkP_den rfl ?_)
 refine pure_den _ ylen ?_
 repeat (first | refine chkN_den ?_ | refine chkV_den ?_ | refine chkP_den rfl ?_)
 refine pure_den _ (neq_eq _ _) (br_den (fun hd => by simp at hd) (fun _ => ?_))
 refine count_den l.length (fun i H' O' => Heap.le H3 H' ∧ ∃ rows A, O'.Perm (A ++ []) ∧ OSl Ty_api_Effect 5 x rows A ∧ rows.length = l.length ∧ ∀ j, i ≤ j → rows[j]? = (efRows l)[j]?) ⟨Heap.le_refl _, efRows l, O2, by simp, hx, efRows_len l, fun _ _ => rfl⟩ ?_
 rintro i H' O' hi - ⟨hle, rows, A, hp, hA, hrl, hrest⟩
 have xlen' : evalPure .len [x] = some (iV l.length) := by have := hA.len; rwa [hrl] at this
 repeat (first | refine chkN_den ?_ | refine chkV_den ?_ | refine chkP_den rfl ?_)
 refine pure_den _ xlen' ?_
 repeat (first | refine chkN_den ?_ | refine chkV_den ?_ | refine chkP_den rfl ?_)
 refine pure_den _ (lss_eq _ _) (br_den (fun hb => ?_) (fun hb => ?_))
 ·have hlt : i < l.length := by simpa using hb
  have hri : rows[i]? = some l[i].row := by rw [hrest i (Nat.le_refl _), efRows_get hlt]
  have hin : ∀ p ∈ A, p ∈ O' := fun p h => hp.mem_iff.2 (List.mem_append_left _ h)
  obtain ⟨a, i1, i2, i3, i4⟩ := hA.idx hin H' (k := .i64) hri
  obtain ⟨a', j1, j2, j3, j4⟩ := (hy.le hle).idx (k := .i64) (efRows_get hlt)
  repeat (first | refine chkN_den ?_ | refine chkV_den ?_ | refine chkP_den rfl ?_)
  refine pure_den _ i1 (load_denR i3 rfl (ef_ones _) ?_)
  repeat (first | refine chkN_den ?_ | refine chkV_den ?_ | refine chkP_den rfl ?_)
  refine pure_den _ j1 (load_den j2 j3 j4 ?_)
  repeat (first | refine chkN_den ?_ | refine chkV_den ?_ | refine chkP_den rfl ?_)
  refine raw_denG (efNeq l[i] l[i]) (br_den (fun hc => by simp at hc) (fun _ => ?_))
  have i5 := i4 2 1 (by omega)
  repeat (first | refine chkN_den ?_ | refine chkV_den ?_ | refine chkP_den rfl ?_)
  refine pure_den _ i1 ?_
  repeat (first | refine chkN_den ?_ | refine chkV_den ?_ | refine chkP_den rfl ?_)
  refine load_denR (vs := [iV l[i].n]) i5 rfl ⟨rfl, trivial⟩ ?_
  repeat (first | refine chkN_den ?_ | refine chkV_den ?_ | refine chkP_den rfl ?_)
  refine pure_den _ (inc_eq _) ?_
  repeat (first | refine chkN_den ?_ | refine chkV_den ?_ | refine chkP_den rfl ?_)
  obtain ⟨a2, m1, m2⟩ := hA.store hp (k := .i64) hri
  obtain ⟨A', hst, hA'⟩ := m2 2 [iV (IntKind.i64.wrap (l[i].n + 1))] (by simp [Eff.row]) ⟨rfl, trivial⟩
  refine pure_den _ m1 ?_
  repeat (first | refine chkN_den ?_ | refine chkV_den ?_ | refine chkP_den rfl ?_)
  refine ⟨_, hst, ?_⟩
  repeat (first | refine chkN_den ?_ | refine chkV_den ?_ | refine chkP_den rfl ?_)
  refine pure_den _ j1 (load_den j2 j3 j4 ?_)
  repeat (first | refine chkN_den ?_ | refine chkV_den ?_ | refine chkP_den rfl ?_)
  have hri2 : (rows.set i (splice l[i].row 2 [iV (IntKind.i64.wrap (l[i].n + 1))]))[i]? = some (Eff.row { l[i] with n := IntKind.i64.wrap (l[i].n + 1) }) := by
   rw [List.getElem?_set_self (by omega)]; rfl
  obtain ⟨a3, n1, n2, n3, n4⟩ := hA'.idx (O := A' ++ []) (fun p h => List.mem_append_left _ h) H' (k := .i64) hri2
  refine pure_den _ n1 (load_denR n3 rfl (ef_ones _) ?_)
  repeat (first | refine chkN_den ?_ | refine chkV_den ?_ | refine chkP_den rfl ?_)
  refine raw_denG (efEql l[i] { l[i] with n := IntKind.i64.wrap (l[i].n + 1) }) (br_den (fun hc => ?_) (fun _ => ?_))
  ·exfalso
   have hc : l[i] = { l[i] with n := IntKind.i64.wrap (l[i].n + 1) } := by simpa using hc
   exact wrap_succ _ (congrArg Eff.n hc).symm
  repeat (first | refine chkN_den ?_ | refine chkV_den ?_ | refine chkP_den rfl ?_)
  refine pure_den _ (add_one (by omega)) (count_cont (by simp [Eqs, E]) hlt ⟨hle, _, A', List.Perm.refl _, hA', by simp [hrl], fun j hj => ?_⟩)
  rw [List.getElem?_set_ne (by omega)]
  exact hrest j (by omega)
 ·repeat (first | refine chkN_den ?_ | refine chkV_den ?_ | refine chkP_den rfl ?_)
  exact call_retO (c_knownT _ _) rfl ⟨rfl, trivial⟩ fun _ _ => ret_drop ⟨rfl, rfl⟩
end Go.Proofs.YtieaihgbjikggaaGreat
