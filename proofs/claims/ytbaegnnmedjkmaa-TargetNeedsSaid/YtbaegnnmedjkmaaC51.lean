/- Legal targets; light cards; lists that are equal. -/
import Derived.Test.YtbaegnnmedjkmaaC48
import Derived.Test.YtbaegnnmedjkmaaKT
namespace Go.Proofs.Ytbaegnnmedjkmaa
open Go Go.Sx
set_option maxRecDepth 100000
set_option maxHeartbeats 1000000
end Go.Proofs.Ytbaegnnmedjkmaa
namespace Go.Proofs.Ytbaegnnmedjkmaa
open Go Go.Sx
set_option maxRecDepth 100000
set_option maxHeartbeats 1000000
theorem card_idx {H : Heap} (O : Own) {v : Value} {cs : List Cd} (h : CardsS H v cs) {i : Nat} (hi : i < cs.length) :
  ∃ a r, evalPure (.idx 14) [v, iV i] = some (.pointer (some a)) ∧ CdR H r cs[i] ∧ Reads H O (ptrAdd (.pointer (some a)) 11) 1 [g r 11] ∧ Reads H O (ptrAdd (.pointer (some a)) 12) 1 [g r 12] := by
 obtain ⟨rows, h1, h2, h3⟩ := h
 have hlt : i < rows.length := by omega
 obtain ⟨a, k1, k2, k3, k4, k5⟩ := (h1.rsl O).idx .i64 i rows[i] (by simp [hlt])
 refine ⟨a, rows[i], k1, h3 i _ _ (List.getElem?_eq_getElem hlt) (List.getElem?_eq_getElem hi), ?_, ?_⟩
 ·have e : ((rows[i]).drop 11).take 1 = [g rows[i] 11] := by
   rw [g, List.getD_eq_getElem?_getD, List.getElem?_eq_getElem (by omega), List.drop_eq_getElem_cons (by omega)]; rfl
  rw [← e]; exact k3 11 1 (by omega)
 ·have e : ((rows[i]).drop 12).take 1 = [g rows[i] 12] := by
   rw [g, List.getD_eq_getElem?_getD, List.getElem?_eq_getElem (by omega), List.drop_eq_getElem_cons (by omega)]; rfl
  rw [← e]; exact k3 12 1 (by omega)
theorem trig_idx {H : Heap} (O : Own) {v : Value} {tr : List Nat} (h : TrigsS H v tr) {i : Nat} (hi : i < tr.length) :
  ∃ a r, evalPure (.idx 2) [v, iV i] = some (.pointer (some a)) ∧ TrigR H r tr[i] ∧ Reads H O (ptrAdd (.pointer (some a)) 1) 1 [g r 1] := by
 obtain ⟨rows, h1, h2, h3⟩ := h
 have hlt : i < rows.length := by omega
 obtain ⟨a, k1, k2, k3, k4, k5⟩ := (h1.rsl O).idx .i64 i rows[i] (by simp [hlt])
 refine ⟨a, rows[i], k1, h3 i _ _ (List.getElem?_eq_getElem hlt) (List.getElem?_eq_getElem hi), ?_⟩
 have e : ((rows[i]).drop 1).take 1 = [g rows[i] 1] := by
  rw [g, List.getD_eq_getElem?_getD, List.getElem?_eq_getElem (by omega), List.drop_eq_getElem_cons (by omega)]; rfl
 rw [← e]; exact k3 1 1 (by omega)
theorem c_light {H : Heap} {v : Value} {cs : List Cd} (h : CardsS H v cs) : RetO PP F_zeitnotlaw16_light [v] H [] (.bool (lightB cs)) := by
 refine run_zeitnotlaw16_light (vs := [v]) (by kernel_rfl) ⟨h.one, trivial⟩ ?_
 simp only [T_zeitnotlaw16_light]
 have hB : cs.length < 2 ^ 63 := by
  obtain ⟨rows, h1, h2, _⟩ := h
  have := h1.lenB; omega
 refine count_den cs.length (fun i H' O' => O' = [] ∧ Heap.le H H' ∧ i ≤ 13 ∧ ((cs.take i).all cdLight) = true) ⟨rfl, Heap.le_refl H, by omega, rfl⟩ ?_
 rintro i H' O' hi - ⟨rfl, hle, hi13, hor⟩
 replace h := h.le hle
 repeat (first | refine chkN_den ?_ | refine chkV_den ?_ | refine chkP_den rfl ?_)
 refine pure_den _ h.len ?_
 repeat (first | refine chkN_den ?_ | refine chkV_den ?_ | refine chkP_den rfl ?_)
 refine pure_den _ (lss_eq _ _) ?_
 repeat (first | refine chkN_den ?_ | refine chkV_den ?_ | refine chkP_den rfl ?_)
 refine pure_den _ (lss_eq _ _) ?_
 repeat (first | refine chkN_den ?_ | refine chkV_den ?_ | refine chkP_den rfl ?_)
 refine pure_den _ (pick_and _ _) (br_den (fun hb => ?_) (fun hb => ?_))
 ·have hb : (decide ((i : Int) < (cs.length : Int)) && decide ((i : Int) < 13)) = true := hb
  rw [Bool.and_eq_true, decide_eq_true_eq, decide_eq_true_eq] at hb
  have hlt : i < cs.length := by omega
  have hl13 : i < 13 := by omega
  obtain ⟨a, r, k1, k2, k3, k4⟩ := card_idx [] h hlt
  have hst : lightB cs = false ∨ cdLight cs[i] = true := by
   cases hc : cdLight cs[i]
   ·refine .inl ?_
    rw [lightB, Bool.and_eq_false_iff]
    refine .inl ?_
    rw [List.all_eq_false]
    exact ⟨cs[i], List.mem_take_iff_getElem.2 ⟨i, by omega, rfl⟩, by rw [hc]; simp⟩
   ·exact .inr rfl
  have hbad : ∀ {x : Bool}, cdLight cs[i] = false → x = false → (x = lightB cs) := fun h1 h2 => by
   rcases hst with e | e
   ·rw [h2, e]
   ·rw [h1] at e; cases e
  repeat (first | refine chkN_den ?_ | refine chkV_den ?_ | refine chkP_den rfl ?_)
  refine pure_den _ k1 ?_
  repeat (first | refine chkN_den ?_ | refine chkV_den ?_ | refine chkP_den rfl ?_)
  refine load_denR k3 rfl ⟨k2.eff.one, trivial⟩ ?_
  repeat (first | refine chkN_den ?_ | refine chkV_den ?_ | refine chkP_den rfl ?_)
  refine pure_den _ k2.eff.len ?_
  repeat (first | refine chkN_den ?_ | refine chkV_den ?_ | refine chkP_den rfl ?_)
  refine pure_den _ (gtr_eq _ _) ?_
  repeat (first | refine chkN_den ?_ | refine chkV_den ?_ | refine chkP_den rfl ?_)
  refine ⟨.pointer (some a), fun _ => k1, .inr rfl, ?_⟩
  repeat (first | refine chkN_den ?_ | refine chkV_den ?_ | refine chkP_den rfl ?_)
  refine ⟨[g r 12], rfl, ⟨k2.trig.one, trivial⟩, fun _ => k4, ?_⟩
  repeat (first | refine chkN_den ?_ | refine chkV_den ?_ | refine chkP_den rfl ?_)
  refine pure_den _ k2.trig.len ?_
  repeat (first | refine chkN_den ?_ | refine chkV_den ?_ | refine chkP_den rfl ?_)
  refine pure_den _ (gtr_eq _ _) ?_
  repeat (first | refine chkN_den ?_ | refine chkV_den ?_ | refine chkP_den rfl ?_)
  refine pure_den _ (pick_or _ _) (br_den (fun hc => ?_) (fun hc => ?_))
  ·have hc : (decide ((cs[i].tg.length : Int) > 5) || decide ((cs[i].tr.length : Int) > 3)) = true := hc
   refine ret_denO ⟨?_, rfl⟩
   congr 1
   exact hbad (by rw [cdLight, hc]; rfl) rfl
  ·have hc : (decide ((cs[i].tg.length : Int) > 5) || decide ((cs[i].tr.length : Int) > 3)) = false := hc
   have hc3 : cs[i].tr.length ≤ 3 := by
    rw [Bool.or_eq_false_iff, decide_eq_false_iff_not, decide_eq_false_iff_not] at hc; omega
   refine count_den cs[i].tr.length (fun j H2 O2 => O2 = [] ∧ Heap.le H' H2 ∧ (cs[i].tr.all fun n => !decide ((n : Int) > 5)) = ((cs[i].tr.drop j).all fun n => !decide ((n : Int) > 5))) ⟨rfl, Heap.le_refl _, rfl⟩ ?_
   rintro j H2 O2 hj - ⟨rfl, hle2, hor2⟩
   repeat (first | refine chkN_den ?_ | refine chkV_den ?_ | refine chkP_den rfl ?_)
   refine pure_den _ k1 ?_
   repeat (first | refine chkN_den ?_ | refine chkV_den ?_ | refine chkP_den rfl ?_)
   refine load_denR (reads_le k4 hle2) rfl ⟨k2.trig.one, trivial⟩ ?_
   repeat (first | refine chkN_den ?_ | refine chkV_den ?_ | refine chkP_den rfl ?_)
   refine pure_den _ k2.trig.len ?_
   repeat (first | refine chkN_den ?_ | refine chkV_den ?_ | refine chkP_den rfl ?_)
   refine pure_den _ (lss_eq _ _) (br_den (fun hd => ?_) (fun hd => ?_))
   ·have hjlt : j < cs[i].tr.length := by simpa using hd
    obtain ⟨a2, r2, m1, m2, m3⟩ := trig_idx [] (k2.trig.le hle2) hjlt
    obtain ⟨er, m4, m5⟩ := m2
    have el : evalPure .len [g r2 1] = some (iV cs[i].tr[j]) := by have := m4.len; rwa [m5] at this
    repeat (first | refine chkN_den ?_ | refine chkV_den ?_ | refine chkP_den rfl ?_)
    refine pure_den _ k1 ?_
    repeat (first | refine chkN_den ?_ | refine chkV_den ?_ | refine chkP_den rfl ?_)
    refine load_denR (reads_le k4 hle2) rfl ⟨k2.trig.one, trivial⟩ ?_
    repeat (first | refine chkN_den ?_ | refine chkV_den ?_ | refine chkP_den rfl ?_)
    refine pure_den _ m1 ?_
    repeat (first | refine chkN_den ?_ | refine chkV_den ?_ | refine chkP_den rfl ?_)
    refine load_denR m3 rfl ⟨m4.one, trivial⟩ ?_
    repeat (first | refine chkN_den ?_ | refine chkV_den ?_ | refine chkP_den rfl ?_)
    refine pure_den _ el ?_
    repeat (first | refine chkN_den ?_ | refine chkV_den ?_ | refine chkP_den rfl ?_)
    refine pure_den _ (gtr_eq _ _) (br_den (fun he => ?_) (fun he => ?_))
    ·have he : decide ((cs[i].tr[j] : Int) > 5) = true := he
     refine ret_denO ⟨?_, rfl⟩
     congr 1
     exact hbad (by rw [cdLight, hor2, List.drop_eq_getElem_cons hjlt, List.all_cons, he]; simp) rfl
    ·have he : decide ((cs[i].tr[j] : Int) > 5) = false := he
     repeat (first | refine chkN_den ?_ | refine chkV_den ?_ | refine chkP_den rfl ?_)
     refine pure_den _ (add_one (by omega)) (count_cont (by simp [Eqs, E]) hjlt ⟨rfl, hle2, ?_⟩)
     rw [hor2, List.drop_eq_getElem_cons hjlt, List.all_cons, he]; rfl
   ·have hjge : cs[i].tr.length ≤ j := by simpa using hd
    rw [List.drop_of_length_le hjge] at hor2
    repeat (first | refine chkN_den ?_ | refine chkV_den ?_ | refine chkP_den rfl ?_)
    refine pure_den _ (add_one (by omega)) (count_cont (by simp [Eqs, E]) hlt ⟨rfl, Heap.le_trans hle hle2, by omega, ?_⟩)
    rw [List.take_add_one, List.getElem?_eq_getElem hlt, List.all_append, hor]
    simp only [Option.toList_some, List.all_cons, List.all_nil, Bool.and_true, Bool.true_and]
    rw [cdLight, hc, hor2]; rfl
 ·have hb : (decide ((i : Int) < (cs.length : Int)) && decide ((i : Int) < 13)) = false := hb
  rw [Bool.and_eq_false_iff, decide_eq_false_iff_not, decide_eq_false_iff_not] at hb
  repeat (first | refine chkN_den ?_ | refine chkV_den ?_ | refine chkP_den rfl ?_)
  refine pure_den _ h.len ?_
  repeat (first | refine chkN_den ?_ | refine chkV_den ?_ | refine chkP_den rfl ?_)
  refine pure_den _ (leq_eq _ _) (ret_denO ⟨?_, rfl⟩)
  congr 1
  rw [lightB]
  rcases hb with hb | hb
  ·have e1 : cs.take i = cs := List.take_of_length_le (by omega)
   have e2 : cs.take 13 = cs := List.take_of_length_le (by omega)
   rw [e1] at hor
   rw [e2, hor, Bool.true_and]
  ·obtain rfl : i = 13 := by omega
   rw [hor, Bool.true_and]
end Go.Proofs.Ytbaegnnmedjkmaa
namespace Go.Proofs.Ytbaegnnmedjkmaa
open Go Go.Sx
set_option maxRecDepth 100000
set_option maxHeartbeats 1000000
theorem c_Needs {H : Heap} {v : Value} {tg : List Int} (h : EffsS H v tg) (hb : tg.length ≤ 1000000) : Triple PP F_target_Needs [v] H [] fun r _ O' => OSl Ty_api_TargetKind 1 r (ints (needsOf tg)) O' := by
 refine run_target_Needs (vs := [v]) (by kernel_rfl) ⟨h.one, trivial⟩ ?_
 simp only [T_target_Needs]
 refine pure_den _ h.len ?_
 refine countY_den tg.length (fun i x H' O' => Heap.le H H' ∧ OSl Ty_api_TargetKind 1 x (ints (needsOf (tg.take i))) O') ⟨Heap.le_refl _, OSl.nil _ _⟩ ?_
 rintro i x H' O' hi - ⟨hle, hx⟩
 repeat (first | refine chkN_den ?_ | refine chkV_den ?_ | refine chkP_den rfl ?_)
 refine pure_den _ (lss_eq _ _) (br_den (fun hb => ?_) (fun hb => ?_))
 ·have hlt : i < tg.length := by simpa using hb
  obtain ⟨a, r, k1, k2, k3, k4, k5, _⟩ := eff_idx (O := O') (h.le hle) hlt
  have hft := filter_take (p := fun t : Int => t != 0) hlt
  repeat (first | refine chkN_den ?_ | refine chkV_den ?_ | refine chkP_den rfl ?_)
  refine pure_den _ k1 (load_denR (reads_frozen k2) k3 k4 (newbox_den fun r0 => ?_))
  repeat (first | refine chkN_den ?_ | refine chkV_den ?_ | refine chkP_den rfl ?_)
  rw [k5]
  refine pure_den _ (neq_eq _ _) ?_
  refine br_den (fun hc => ?_) (fun hc => ?_)
  ·have hc : (tg[i] != 0) = true := hc
   have hlen : (needsOf (tg.take i)).length ≤ 1000000 := by rw [needsOf]; exact Nat.le_trans (List.length_filter_le _ _) (by rw [List.length_take]; omega)
   repeat (first | refine chkN_den ?_ | refine chkV_den ?_ | refine chkP_den rfl ?_)
   refine newbox_den fun r2 => ?_
   repeat (first | refine chkN_den ?_ | refine chkV_den ?_ | refine chkP_den rfl ?_)
   refine call_append (rows := ints (needsOf (tg.take i))) (news := [[iV tg[i]]]) (O1 := O') (O2 := []) (e := Ty_api_TargetKind) (size := 1) (bytes := 8) (by kernel_rfl) (by simp) hx (fun Hf _ hf => Sl.block1 (hf _ List.mem_cons_self) rfl ⟨rfl, trivial⟩) (by rw [ints, List.length_map, List.length_singleton]; omega) (by rw [ints, List.length_map, List.length_singleton]; omega) ?_
   intro v' A' H6 l6 hA'
   refine pure_den _ (add_one (by omega)) (countY_cont (by simp [Eqs]) hlt ⟨Heap.le_trans hle l6, ?_⟩)
   rw [List.append_nil, needsOf, hft, if_pos hc, ints, List.map_append]; exact hA'
  ·have hc : (tg[i] != 0) = false := hc
   refine pure_den _ (add_one (by omega)) (countY_cont (by simp [Eqs]) hlt ⟨hle, ?_⟩)
   rw [needsOf, hft, if_neg (by rw [hc]; simp), List.append_nil]; exact hx
 ·have hge : tg.length ≤ i := by simpa using hb
  rw [List.take_of_length_le hge] at hx
  exact ret_denO hx
theorem c_IndexFunc_k {H : Heap} {O : Own} {v fv : Value} {l : List Int} {p : Int → Bool} (h : Sl H 1 v (ints l)) {f : FuncId} {caps : Array Value} (hf : fv = .func (.func f) #[] caps) (hok : OkFn PP f)
  (hp : ∀ H', Heap.le H H' → ∀ k, RetO PP f ([iV k] ++ caps.toList) H' O (.bool (p k))) : RetO PP F_slices_IndexFunc_api_TargetKind_api_TargetKind [v, fv] H O (iV (idxP p l 0)) := by
 subst hf
 have hlen : evalPure .len [v] = some (iV l.length) := by have := h.len; rwa [ints, List.length_map] at this
 have hlB := h.lenB
 rw [ints, List.length_map] at hlB
 refine run_slices_IndexFunc_api_TargetKind_api_TargetKind (vs := [v, .func (.func f) #[] caps]) (by kernel_rfl) ⟨h.one, rfl, trivial⟩ ?_
 simp only [T_slices_IndexFunc_api_TargetKind_api_TargetKind]
 refine pure_den _ hlen ?_
 refine count_den l.length (fun i H' O' => O' = O ∧ Heap.le H H' ∧ idxP p l 0 = idxP p (l.drop i) i) ⟨rfl, Heap.le_refl H, by simp⟩ ?_
 rintro i H' O' hi - ⟨rfl, hle, hor⟩
 repeat (first | refine chkN_den ?_ | refine chkV_den ?_ | refine chkP_den rfl ?_)
 refine pure_den _ (lss_eq _ _) (br_den (fun hb => ?_) (fun hb => ?_))
 ·have hlt : i < l.length := by simpa using hb
  obtain ⟨a, h1, h2, h3, h4⟩ := (h.le hle).idx (k := .i64) (i := i) (r := [iV l[i]]) (by simp [ints, hlt])
  repeat (first | refine chkN_den ?_ | refine chkV_den ?_ | refine chkP_den rfl ?_)
  refine pure_den _ h1 (load_den h2 h3 h4 ?_)
  repeat (first | refine chkN_den ?_ | refine chkV_den ?_ | refine chkP_den rfl ?_)
  refine callv_den rfl hok (hp H' hle l[i]) rfl ⟨rfl, trivial⟩ fun H2 hle2 => br_den (fun hb => ?_) (fun hb => ?_)
  ·refine ret_denO ⟨?_, rfl⟩
   rw [hor, List.drop_eq_getElem_cons hlt, idxP, if_pos hb]; rfl
  ·refine pure_den _ (add_one (by omega)) (count_cont (by simp [Eqs, E]) hlt ⟨rfl, Heap.le_trans hle hle2, ?_⟩)
   rw [hor, List.drop_eq_getElem_cons hlt, idxP, if_neg (by rw [hb]; simp)]; rfl
 ·have hge : l.length ≤ i := by simpa using hb
  refine ret_denO ⟨?_, rfl⟩
  rw [hor, List.drop_of_length_le hge]; rfl
theorem c_ContainsFunc_k {H : Heap} {O : Own} {v fv : Value} {l : List Int} {p : Int → Bool} (h : Sl H 1 v (ints l)) {f : FuncId} {caps : Array Value} (hf : fv = .func (.func f) #[] caps) (hok : OkFn PP f)
  (hp : ∀ H', Heap.le H H' → ∀ k, RetO PP f ([iV k] ++ caps.toList) H' O (.bool (p k))) : RetO PP F_slices_ContainsFunc_api_TargetKind_api_TargetKind [v, fv] H O (.bool (l.any p)) := by
 have hone : fv.oneCell' = true := by subst hf; rfl
 refine run_slices_ContainsFunc_api_TargetKind_api_TargetKind (vs := [v, fv]) (by kernel_rfl) ⟨h.one, hone, trivial⟩ ?_
 simp only [T_slices_ContainsFunc_api_TargetKind_api_TargetKind]
 refine call_retO (c_IndexFunc_k h hf hok hp) rfl ⟨rfl, trivial⟩ fun H1 _ => pure_den _ (geq_eq _ _) (ret_denO ⟨?_, rfl⟩)
 rw [← idxP_ge p l 0 (by omega)]
theorem c_Can_1 {H : Heap} {cv : Value} {cs : List Cd} (hk : CardsS H cv cs) (hli : lightB cs = true) {v : BV12} {b : Bd} (h : BdS H v b) (hst : b.stack.length ≤ 1000000) (hv : validBd b = true) {p : Int} (hp : p = 0 ∨ p = 1) (k : Int)
  {r0 r1 r2 : Nat} {T0 T1 T2 : TypeId} {O : Own} (b0 : (r0, Obj.cells [cv].toArray T0 (0, 0)) ∈ O) (b1 : (r1, Obj.cells (boardC v b).toArray T1 (0, 0)) ∈ O) (b2 : (r2, Obj.cells [iV p].toArray T2 (0, 0)) ∈ O) :
  RetO PP F_target_Can_1 [iV k, .pointer (some ⟨r0, 0, none⟩), .pointer (some ⟨r1, 0, none⟩), .pointer (some ⟨r2, 0, none⟩)] H O (.bool (((listT cs b p k).length : Int) == 0)) := by
 refine run_target_Can_1 (vs := [iV k, .pointer (some ⟨r0, 0, none⟩), .pointer (some ⟨r1, 0, none⟩), .pointer (some ⟨r2, 0, none⟩)]) (by kernel_rfl) ⟨rfl, rfl, rfl, rfl, trivial⟩ ?_
 simp only [T_target_Can_1]
 have q0 : Reads H O (.pointer (some ⟨r0, 0, none⟩)) 1 [cv] := .inr ⟨⟨r0, 0, none⟩, _, _, rfl, rfl, b0, rfl, rfl⟩
 have q1 : Reads H O (.pointer (some ⟨r1, 0, none⟩)) 38 (boardC v b) := .inr ⟨⟨r1, 0, none⟩, _, _, rfl, rfl, b1, rfl, rfl⟩
 have q2 : Reads H O (.pointer (some ⟨r2, 0, none⟩)) 1 [iV p] := .inr ⟨⟨r2, 0, none⟩, _, _, rfl, rfl, b2, rfl, rfl⟩
 refine load_denR q0 rfl ⟨hk.one, trivial⟩ ?_
 repeat (first | refine chkN_den ?_ | refine chkV_den ?_ | refine chkP_den rfl ?_)
 refine load_denR q1 rfl (boardC_ones (h.r [])) ?_
 repeat (first | refine chkN_den ?_ | refine chkV_den ?_ | refine chkP_den rfl ?_)
 refine load_denR q2 rfl ⟨rfl, trivial⟩ ?_
 repeat (first | refine chkN_den ?_ | refine chkV_den ?_ | refine chkP_den rfl ?_)
 refine call_new (c_tlist hk hli h hst hv hp k) fun x H1 O1 hx l1 => ⟨[x], rfl, ⟨hx.one, trivial⟩, ?_⟩
 have xlen : evalPure .len [x] = some (iV (listT cs b p k).length) := by have := hx.len; rwa [tRows_len] at this
 repeat (first | refine chkN_den ?_ | refine chkV_den ?_ | refine chkP_den rfl ?_)
 refine pure_den _ xlen ?_
 repeat (first | refine chkN_den ?_ | refine chkV_den ?_ | refine chkP_den rfl ?_)
 exact pure_den _ (eql_eq _ _) (ret_to (X := O1) (Ox := O) (List.Perm.refl _) ⟨rfl, rfl⟩)
/-- Whether there are legal targets for all that effects need. -/
def canT (cs : List Cd) (b : Bd) (p : Int) (tg : List Int) : Bool := (withinB p 0 1 && validBd b) && !((needsOf tg).any fun k => ((listT cs b p k).length : Int) == 0)
theorem c_Can {H : Heap} {cv : Value} {cs : List Cd} (hk : CardsS H cv cs) (hli : lightB cs = true) {v : BV12} {b : Bd} (h : BdS H v b) (hst : b.stack.length ≤ 1000000) (p : Int) {ev : Value} {tg : List Int} (he : EffsS H ev tg) (heb : tg.length ≤ 1000000) :
  RetO PP F_target_Can [cv, .agg (boardC v b).toArray, iV p, ev] H [] (.bool (canT cs b p tg)) := by
 refine run_target_Can (vs := cv :: (boardC v b ++ [iV p, ev])) (by kernel_rfl) ⟨hk.one, ones_app (boardC_ones (h.r [])) ⟨rfl, he.one, trivial⟩⟩ ?_
 simp only [T_target_Can]
 refine newbox_den fun r0 => newbox_den fun r1 => newbox_den fun r2 => ?_
 repeat (first | refine chkN_den ?_ | refine chkV_den ?_ | refine newbox_den fun _ => ?_ | refine pure_den _ (lss_eq _ _) ?_ | refine pure_den _ (gtr_eq _ _) ?_ | refine pure_den _ (leq_eq _ _) ?_ | refine pure_den _ (geq_eq _ _) ?_ | refine pure_den _ (eql_eq _ _) ?_ | refine pure_den _ (neq_eq _ _) ?_ | refine pure_den _ (pick_and _ _) ?_ | refine pure_den _ (pick_or _ _) ?_ | refine pure_den _ (not_eq' _) ?_ | refine pure_den _ (beql_eq _ _) ?_ | refine pure_den _ (bneq_eq _ _) ?_)
 refine br_den (fun hb => ?_) (fun hb => ?_)
 ·have hb : (decide (p < 0) || decide (p > 1)) = true := hb
  rw [within01] at hb
  repeat (first | refine chkN_den ?_ | refine chkV_den ?_ | refine chkP_den rfl ?_)
  exact ret_denO ⟨by rw [canT, show withinB p 0 1 = false from notT hb]; rfl, rfl⟩
 have hb : (decide (p < 0) || decide (p > 1)) = false := hb
 rw [within01] at hb
 have hw : withinB p 0 1 = true := notF hb
 have hp : p = 0 ∨ p = 1 := by simp only [withinB, decide_eq_true_eq] at hw; omega
 repeat (first | refine chkN_den ?_ | refine chkV_den ?_ | refine chkP_den rfl ?_)
 refine call_retO (c_board_Valid (h.r [])) rfl ⟨rfl, trivial⟩ fun H2 l2 => pure_den _ (not_eq' _) (br_den (fun hc => ?_) (fun hc => ?_))
 ·repeat (first | refine chkN_den ?_ | refine chkV_den ?_ | refine chkP_den rfl ?_)
  exact ret_denO ⟨by rw [canT, show validBd b = false from notT hc, Bool.and_false]; rfl, rfl⟩
 have hv : validBd b = true := notF hc
 replace h := h.le l2
 replace hk := hk.le l2
 repeat (first | refine chkN_den ?_ | refine chkV_den ?_ | refine chkP_den rfl ?_)
 refine call_new (Triple.frozenS (c_Needs (he.le l2) heb)) ?_
 rintro x H3 _ ⟨hx, rfl⟩ l3
 refine ⟨[x], rfl, ⟨hx.one, trivial⟩, ?_⟩
 replace h := h.le l3
 replace hk := hk.le l3
 repeat (first | refine chkN_den ?_ | refine chkV_den ?_ | refine chkP_den rfl ?_)
 refine call_own2 (O1 := []) (O2 := []) (own := [⟨r0, 22, [cv]⟩, ⟨r1, 34, boardC v b⟩, ⟨r2, 3, [iV p]⟩]) (R := fun v _ O3 => v = .bool ((needsOf tg).any fun k => ((listT cs b p k).length : Int) == 0) ∧ O3 = []) (List.Perm.refl _) ?_ ⟨rfl, ⟨hk.one, trivial⟩, rfl, boardC_ones (h.r []), rfl, ⟨rfl, trivial⟩, trivial⟩ ?_
 ·refine Triple.mono (c_ContainsFunc_k hx rfl (okFn_of okL_ok (by kernel_rfl)) fun H' l' k => c_Can_1 (hk.le l') hli (h.le l') hst hv hp k (T0 := 22) (T1 := 34) (T2 := 3) List.mem_cons_self (List.mem_cons_of_mem _ List.mem_cons_self) (List.mem_cons_of_mem _ (List.mem_cons_of_mem _ List.mem_cons_self))) ?_
  rintro v H' O' _ ⟨rfl, rfl⟩
  exact ⟨[], rfl, rfl, rfl⟩
 rintro _ H4 _ ⟨rfl, rfl⟩ l4
 refine ⟨_, rfl, ⟨rfl, trivial⟩, ?_⟩
 repeat (first | refine chkN_den ?_ | refine chkV_den ?_ | refine chkP_den rfl ?_)
 exact pure_den _ (not_eq' _) (ret_denO ⟨by rw [canT, hw, hv]; rfl, rfl⟩)
theorem r_Can {H : Heap} {cv : Value} {cs : List Cd} (hk : CardsS H cv cs) (hli : lightB cs = true) {v : BV12} {b : Bd} (h : BdS H v b) (hB : bdB b) (hfit : bdFit b) (hst : b.stack.length ≤ 1000000) (p : Int) {ev : Value} {tg : List Int} (he : EffsS H ev tg) (heb : tg.length ≤ 1000000) :
  RetO PP F_zeitnotref16_Can [cv, .agg (boardC v b).toArray, iV p, ev] H [] (.bool (canT cs b p tg)) := by
 refine run_zeitnotref16_Can (vs := cv :: (boardC v b ++ [iV p, ev])) (by kernel_rfl) ⟨hk.one, ones_app (boardC_ones (h.r [])) ⟨rfl, he.one, trivial⟩⟩ ?_
 simp only [T_zeitnotref16_Can]
 refine newbox_den fun r0 => ?_
 repeat (first | refine chkN_den ?_ | refine chkV_den ?_ | refine chkP_den rfl ?_)
 refine call_retO (r_Valid (h.r []) hfit) rfl ⟨rfl, trivial⟩ fun H1 l1 => ?_
 replace h := h.le l1
 replace hk := hk.le l1
 rw [valid_eq]
 repeat (first | refine chkN_den ?_ | refine chkV_den ?_ | refine newbox_den fun _ => ?_ | refine pure_den _ (lss_eq _ _) ?_ | refine pure_den _ (gtr_eq _ _) ?_ | refine pure_den _ (leq_eq _ _) ?_ | refine pure_den _ (geq_eq _ _) ?_ | refine pure_den _ (eql_eq _ _) ?_ | refine pure_den _ (neq_eq _ _) ?_ | refine pure_den _ (pick_and _ _) ?_ | refine pure_den _ (pick_or _ _) ?_ | refine pure_den _ (not_eq' _) ?_ | refine pure_den _ (beql_eq _ _) ?_ | refine pure_den _ (bneq_eq _ _) ?_)
 refine br_den (fun hc => ?_) (fun hc => ?_)
 ·have hc : ((!validBd b || decide (p < 0)) || decide (p > 1)) = true := hc
  rw [Bool.or_assoc, within01] at hc
  repeat (first | refine chkN_den ?_ | refine chkV_den ?_ | refine chkP_den rfl ?_)
  refine ret_denO ⟨?_, rfl⟩
  rw [canT]
  cases hw : withinB p 0 1 <;> cases hv : validBd b <;> simp [hw, hv] at hc ⊢
 have hc : ((!validBd b || decide (p < 0)) || decide (p > 1)) = false := hc
 rw [Bool.or_assoc, within01, Bool.or_eq_false_iff] at hc
 have hv : validBd b = true := notF hc.1
 have hw : withinB p 0 1 = true := notF hc.2
 repeat (first | refine chkN_den ?_ | refine chkV_den ?_ | refine chkP_den rfl ?_)
 refine call_new (Triple.frozenS (r_Needs (he.le l1) heb)) ?_
 rintro x H3 _ ⟨hx, rfl⟩ l3
 refine ⟨[x], rfl, ⟨hx.one, trivial⟩, ?_⟩
 replace h := h.le l3
 replace hk := hk.le l3
 have hcan : canT cs b p tg = (needsOf tg).all fun k => !(((listT cs b p k).length : Int) == 0) := by
  rw [canT, hw, hv, List.all_eq_not_any_not]; simp
 rw [hcan]
 generalize needsOf tg = l at hx
 have hlen : evalPure .len [x] = some (iV l.length) := by have := hx.len; rwa [ints, List.length_map] at this
 have hlB := hx.lenB
 rw [ints, List.length_map] at hlB
 repeat (first | refine chkN_den ?_ | refine chkV_den ?_ | refine chkP_den rfl ?_)
 refine count_den l.length (fun i H' O' => O' = [] ∧ Heap.le H3 H' ∧ (l.all fun k => !(((listT cs b p k).length : Int) == 0)) = ((l.drop i).all fun k => !(((listT cs b p k).length : Int) == 0))) ⟨rfl, Heap.le_refl _, by simp⟩ ?_
 rintro i H' O' hi - ⟨rfl, hle, hor⟩
 repeat (first | refine chkN_den ?_ | refine chkV_den ?_ | refine chkP_den rfl ?_)
 refine pure_den _ hlen ?_
 repeat (first | refine chkN_den ?_ | refine chkV_den ?_ | refine chkP_den rfl ?_)
 refine pure_den _ (lss_eq _ _) (br_den (fun hb => ?_) (fun hb => ?_))
 ·have hlt : i < l.length := by simpa using hb
  obtain ⟨a, h1, h2, h3, h4⟩ := (hx.le hle).idx (k := .i64) (i := i) (r := [iV l[i]]) (by simp [ints, hlt])
  repeat (first | refine chkN_den ?_ | refine chkV_den ?_ | refine chkP_den rfl ?_)
  refine pure_den _ h1 (load_den h2 h3 h4 ?_)
  repeat (first | refine chkN_den ?_ | refine chkV_den ?_ | refine chkP_den rfl ?_)
  refine call_new (r_TList (hk.le hle) hli (h.le hle) hB hfit hst p l[i]) ?_
  rintro y H4 _ ⟨hy, rfl⟩ l4
  refine ⟨[y], rfl, ⟨hy.one, trivial⟩, ?_⟩
  rw [show ListT cs b p l[i] = listT cs b p l[i] by rw [ListT, if_pos (by rw [hw, hv]; rfl)]] at hy
  have ylen : evalPure .len [y] = some (iV (listT cs b p l[i]).length) := by have := hy.len; rwa [tRows_len] at this
  repeat (first | refine chkN_den ?_ | refine chkV_den ?_ | refine chkP_den rfl ?_)
  refine pure_den _ ylen ?_
  repeat (first | refine chkN_den ?_ | refine chkV_den ?_ | refine chkP_den rfl ?_)
  refine pure_den _ (eql_eq _ _) (br_den (fun hc => ?_) (fun hc => ?_))
  ·have hc : (((listT cs b p l[i]).length : Int) == 0) = true := hc
   refine ret_denO ⟨?_, rfl⟩
   rw [hor, List.drop_eq_getElem_cons hlt, List.all_cons, hc]; rfl
  ·have hc : (((listT cs b p l[i]).length : Int) == 0) = false := hc
   repeat (first | refine chkN_den ?_ | refine chkV_den ?_ | refine chkP_den rfl ?_)
   refine pure_den _ (add_one (by omega)) (count_cont (by simp [Eqs, E]) hlt ⟨rfl, Heap.le_trans hle l4, ?_⟩)
   rw [hor, List.drop_eq_getElem_cons hlt, List.all_cons, hc]; rfl
 ·have hge : l.length ≤ i := by simpa using hb
  refine ret_denO ⟨?_, rfl⟩
  rw [hor, List.drop_of_length_le hge]; rfl
theorem needs_true {H : Heap} {cv : Value} {cs : List Cd} (hk : CardsS H cv cs) {v : BV12} {b : Bd} (h : BdS H v b) (p : Int) {ev : Value} {tg : List Int} (he : EffsS H ev tg) :
  Triple PP F_zeitnotlaw16_TargetNeeds [cv, .agg (boardC v b).toArray, iV p, ev] H [] fun r _ O' => r = .bool true ∧ O' = [] := by
 refine run_zeitnotlaw16_TargetNeeds (vs := cv :: (boardC v b ++ [iV p, ev])) (by kernel_rfl) ⟨hk.one, ones_app (boardC_ones (h.r [])) ⟨rfl, he.one, trivial⟩⟩ ?_
 simp only [T_zeitnotlaw16_TargetNeeds]
 refine newbox_den fun r0 => ?_
 repeat (first | refine chkN_den ?_ | refine chkV_den ?_ | refine chkP_den rfl ?_)
 refine call_retO (c_light hk) rfl ⟨rfl, trivial⟩ fun H1 l1 => pure_den _ (not_eq' _) (br_den (fun hb => ?_) (fun hb => ?_))
 ·repeat (first | refine chkN_den ?_ | refine chkV_den ?_ | refine chkP_den rfl ?_)
  exact call_retO (c_knownT _ []) rfl ⟨rfl, trivial⟩ fun _ _ => ret_denO ⟨rfl, rfl⟩
 have hli : lightB cs = true := notF hb
 replace h := h.le l1
 replace hk := hk.le l1
 repeat (first | refine chkN_den ?_ | refine chkV_den ?_ | refine chkP_den rfl ?_)
 refine call_retO (c_small (h.r [])) rfl ⟨rfl, trivial⟩ fun H2 l2 => ?_
 repeat (first | refine chkN_den ?_ | refine chkV_den ?_ | refine chkP_den rfl ?_)
 refine pure_den _ (not_eq' _) ?_
 repeat (first | refine chkN_den ?_ | refine chkV_den ?_ | refine chkP_den rfl ?_)
 refine pure_den _ he.len ?_
 repeat (first | refine chkN_den ?_ | refine chkV_den ?_ | refine chkP_den rfl ?_)
 refine pure_den _ (gtr_eq _ _) ?_
 repeat (first | refine chkN_den ?_ | refine chkV_den ?_ | refine chkP_den rfl ?_)
 refine pure_den _ (pick_or _ _) (br_den (fun hc => ?_) (fun hc => ?_))
 ·repeat (first | refine chkN_den ?_ | refine chkV_den ?_ | refine chkP_den rfl ?_)
  exact call_retO (c_knownT _ []) rfl ⟨rfl, trivial⟩ fun _ _ => ret_denO ⟨rfl, rfl⟩
 have hc : (!smallBd b || decide ((tg.length : Int) > 10)) = false := hc
 rw [Bool.or_eq_false_iff] at hc
 have hsm : smallBd b = true := notF hc.1
 have heb : tg.length ≤ 1000000 := by have := of_decide_eq_false hc.2; omega
 have hB := small_B hsm
 have hfit := small_fit hsm
 have hst : b.stack.length ≤ 1000000 := hB.2.2.2.1.1
 replace h := h.le l2
 replace hk := hk.le l2
 replace he := he.le (Heap.le_trans l1 l2)
 repeat (first | refine chkN_den ?_ | refine chkV_den ?_ | refine chkP_den rfl ?_)
 refine call_new (Triple.frozenS (c_Needs he heb)) ?_
 rintro x H3 _ ⟨hx, rfl⟩ l3
 refine ⟨[x], rfl, ⟨hx.one, trivial⟩, ?_⟩
 repeat (first | refine chkN_den ?_ | refine chkV_den ?_ | refine chkP_den rfl ?_)
 refine call_new (Triple.frozenS (r_Needs (he.le l3) heb)) ?_
 rintro y H4 _ ⟨hy, rfl⟩ l4
 refine ⟨[y], rfl, ⟨hy.one, trivial⟩, ?_⟩
 replace h := h.le (Heap.le_trans l3 l4)
 replace hk := hk.le (Heap.le_trans l3 l4)
 replace he := he.le (Heap.le_trans l3 l4)
 replace hx := hx.le l4
 generalize needsOf tg = l at hx hy
 have xlen : evalPure .len [x] = some (iV l.length) := by have := hx.len; rwa [ints, List.length_map] at this
 have ylen : evalPure .len [y] = some (iV l.length) := by have := hy.len; rwa [ints, List.length_map] at this
 have hlB := hx.lenB
 rw [ints, List.length_map] at hlB
 repeat (first | refine chkN_den ?_ | refine chkV_den ?_ | refine chkP_den rfl ?_)
 refine pure_den _ xlen ?_
 repeat (first | refine chkN_den ?_ | refine chkV_den ?_ | refine chkP_den rfl ?_)
 refine pure_den _ ylen ?_
 repeat (first | refine chkN_den ?_ | refine chkV_den ?_ | refine chkP_den rfl ?_)
 refine pure_den _ (neq_eq _ _) (br_den (fun hd => by simp at hd) (fun _ => ?_))
 refine count_den l.length (fun i H' O' => O' = [] ∧ Heap.le H4 H') ⟨rfl, Heap.le_refl _⟩ ?_
 rintro i H' O' hi - ⟨rfl, hle⟩
 replace h := h.le hle
 replace hk := hk.le hle
 replace he := he.le hle
 repeat (first | refine chkN_den ?_ | refine chkV_den ?_ | refine chkP_den rfl ?_)
 refine pure_den _ xlen ?_
 repeat (first | refine chkN_den ?_ | refine chkV_den ?_ | refine chkP_den rfl ?_)
 refine pure_den _ (lss_eq _ _) (br_den (fun hb => ?_) (fun hb => ?_))
 ·have hlt : i < l.length := by simpa using hb
  obtain ⟨a, h1, h2, h3, h4⟩ := (hx.le hle).idx (k := .i64) (i := i) (r := [iV l[i]]) (by simp [ints, hlt])
  obtain ⟨a', j1, j2, j3, j4⟩ := (hy.le hle).idx (k := .i64) (i := i) (r := [iV l[i]]) (by simp [ints, hlt])
  repeat (first | refine chkN_den ?_ | refine chkV_den ?_ | refine chkP_den rfl ?_)
  refine pure_den _ h1 (load_den h2 h3 h4 ?_)
  repeat (first | refine chkN_den ?_ | refine chkV_den ?_ | refine chkP_den rfl ?_)
  refine pure_den _ j1 (load_den j2 j3 j4 ?_)
  repeat (first | refine chkN_den ?_ | refine chkV_den ?_ | refine chkP_den rfl ?_)
  refine pure_den _ (neq_eq _ _) (br_den (fun hd => by simp at hd) (fun _ => ?_))
  repeat (first | refine chkN_den ?_ | refine chkV_den ?_ | refine chkP_den rfl ?_)
  exact pure_den _ (add_one (by omega)) (count_cont (by simp [Eqs, E]) hlt ⟨rfl, hle⟩)
 ·repeat (first | refine chkN_den ?_ | refine chkV_den ?_ | refine chkP_den rfl ?_)
  refine call_new0 (c_Can hk hli h hst p he heb) rfl ⟨rfl, trivial⟩ fun H5 l5 => ?_
  repeat (first | refine chkN_den ?_ | refine chkV_den ?_ | refine chkP_den rfl ?_)
  refine call_new0 (r_Can (hk.le l5) hli (h.le l5) hB hfit hst p (he.le l5) heb) rfl ⟨rfl, trivial⟩ fun H6 l6 => ?_
  repeat (first | refine chkN_den ?_ | refine chkV_den ?_ | refine chkP_den rfl ?_)
  refine pure_den _ (beql_eq _ _) (br_den (fun _ => ?_) (fun hx => by simp at hx))
  repeat (first | refine chkN_den ?_ | refine chkV_den ?_ | refine chkP_den rfl ?_)
  exact call_retO (c_knownT _ []) rfl ⟨rfl, trivial⟩ fun _ _ => ret_denO ⟨rfl, rfl⟩
end Go.Proofs.Ytbaegnnmedjkmaa
