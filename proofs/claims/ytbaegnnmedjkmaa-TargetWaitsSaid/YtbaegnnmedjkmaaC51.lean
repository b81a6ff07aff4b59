/- Legal targets; light cards; lists that are equal. -/
import Derived.Test.YtbaegnnmedjkmaaC48
import Derived.Test.YtbaegnnmedjkmaaKT
import Derived.Test.YtbaegnnmedjkmaaC1
import Derived.Test.YtbaegnnmedjkmaaM17
import Derived.Test.YtbaegnnmedjkmaaC10
namespace Go.Proofs.Ytbaegnnmedjkmaa
open Go Go.Sx
set_option maxRecDepth 100000
set_option maxHeartbeats 1000000
theorem tRows_get {l : List Tg} {i : Nat} (h : i < l.length) : (tRows l)[i]? = some l[i].row := by simp [tRows, h]
theorem r_TSame {H : Heap} {O : Own} {v w : Value} {l m : List Tg} (h : Sl H 2 v (tRows l)) (h' : Sl H 2 w (tRows m)) : RetO PP F_zeitnotref16_Same [v, w] H O (.bool (l == m)) := by
 refine run_zeitnotref16_Same (vs := [v, w]) (by kernel_rfl) ⟨h.one, h'.one, trivial⟩ ?_
 simp only [T_zeitnotref16_Same]
 have hlen : evalPure .len [v] = some (iV l.length) := by have := h.len; rwa [tRows_len] at this
 have hlen' : evalPure .len [w] = some (iV m.length) := by have := h'.len; rwa [tRows_len] at this
 have hlB := h.lenB
 rw [tRows_len] at hlB
 refine pure_den _ hlen ?_
 repeat (first | refine chkN_den ?_ | refine chkV_den ?_)
 refine pure_den _ hlen' ?_
 repeat (first | refine chkN_den ?_ | refine chkV_den ?_)
 refine pure_den _ (neq_eq _ _) (br_den (fun hb => ret_denO ⟨?_, rfl⟩) (fun hb => ?_))
 ·have hb : ((l.length : Int) != (m.length : Int)) = true := hb
  congr 1
  rw [eq_comm, beq_eq_false_iff_ne]
  rintro rfl
  simp at hb
 have hlm : l.length = m.length := by
  have hb : ((l.length : Int) != (m.length : Int)) = false := hb
  simp at hb; omega
 refine count_den l.length (fun i H' O' => O' = O ∧ Heap.le H H' ∧ (l == m) = (l.drop i == m.drop i)) ⟨rfl, Heap.le_refl H, by simp⟩ ?_
 rintro i H' O' hi - ⟨rfl, hle, hor⟩
 repeat (first | refine chkN_den ?_ | refine chkV_den ?_)
 refine pure_den _ hlen ?_
 repeat (first | refine chkN_den ?_ | refine chkV_den ?_)
 refine pure_den _ (lss_eq _ _) (br_den (fun hb => ?_) (fun hb => ?_))
 ·have hlt : i < l.length := by simpa using hb
  have hlt' : i < m.length := by omega
  obtain ⟨a, h1, h2, h3, h4⟩ := (h.le hle).idx (k := .i64) (tRows_get hlt)
  obtain ⟨a', j1, j2, j3, j4⟩ := (h'.le hle).idx (k := .i64) (tRows_get hlt')
  have hst : (l.drop i == m.drop i) = ((l[i] == m[i]) && (l.drop (i + 1) == m.drop (i + 1))) := by rw [List.drop_eq_getElem_cons hlt, List.drop_eq_getElem_cons hlt']; rfl
  repeat (first | refine chkN_den ?_ | refine chkV_den ?_)
  refine pure_den _ h1 (load_den h2 h3 h4 ?_)
  repeat (first | refine chkN_den ?_ | refine chkV_den ?_)
  refine pure_den _ j1 (load_den j2 j3 j4 ?_)
  repeat (first | refine chkN_den ?_ | refine chkV_den ?_)
  refine raw_denG (tgEq l[i] m[i]) (br_den (fun hc => ?_) (fun hc => ?_))
  ·refine ret_denO ⟨?_, rfl⟩
   have hc : (l[i] == m[i]) = false := notT hc
   rw [hor, hst, hc]; rfl
  ·have hc : (l[i] == m[i]) = true := notF hc
   refine pure_den _ (add_one (by omega)) (count_cont (by simp [Eqs, E]) hlt ⟨rfl, hle, ?_⟩)
   rw [hor, hst, hc]; rfl
 ·have hge : l.length ≤ i := by simpa using hb
  refine ret_denO ⟨?_, rfl⟩
  rw [hor, List.drop_of_length_le hge, List.drop_of_length_le (by omega)]; rfl
end Go.Proofs.Ytbaegnnmedjkmaa
namespace Go.Proofs.Ytbaegnnmedjkmaa
open Go Go.Sx
set_option maxRecDepth 100000
set_option maxHeartbeats 1000000
end Go.Proofs.Ytbaegnnmedjkmaa
namespace Go.Proofs.Ytbaegnnmedjkmaa
open Go Go.Sx
set_option maxRecDepth 100000
set_option maxHeartbeats 1000000
/-- A call that is handed blocks that it freezes, and nothing that is owned. -/
theorem call_newF {P : Program} {f : FuncId} {args : List Value} {H : Heap} {O : Own} {frz : List BV} {r : Value} {shp : Shp} {vs : List Value} {K : List Value → List (List Value) → Heap → Own → Prop}
  (h : ∀ Hf, Heap.le H Hf → (∀ b ∈ frz, Hf b.r = some b.obj.2) → RetO P f args Hf [] r) (ho : shp.open r = some vs) (h1 : Ones vs) (hk : ∀ H', Heap.le H H' → K vs [] H' O) :
  CallD (fun H1 O1 R => Triple P f args H1 O1 R) false frz [] shp K H O := by
 intro hc
 have hf := insAll_get hc
 refine ⟨H.insAll frz, [], O, _, Ghost.refl _ _, h _ (Heap.le_insAll frz H) hf, ?_⟩
 rintro v H' O' ⟨rfl, rfl⟩ hle
 exact ⟨vs, [], [], ho, h1, trivial, rfl, hk _ (Heap.le_trans (Heap.le_insAll frz H) hle)⟩
theorem c_Needs {H : Heap} {v : Value} {tg : List Int} (h : EffsS H v tg) (hb : tg.length ≤ 1000000) : Triple PP F_target_Needs [v] H [] fun r _ O' => OSl Ty_api_TargetKind 1 r (ints (needsOf tg)) O' := by
 refine run_target_Needs (vs := [v]) (by kernel_rfl) ⟨h.one, trivial⟩ ?_
 simp only [T_target_Needs]
 refine pure_den _ h.len ?_
 refine countY_den tg.length (fun i x H' O' => Heap.le H H' ∧ OSl Ty_api_TargetKind 1 x (ints (needsOf (tg.take i))) O') ⟨Heap.le_refl _, OSl.nil _ _⟩ ?_
 rintro i x H' O' hi - ⟨hle, hx⟩
 repeat (first | refine chkN_den ?_ | refine chkV_den ?_ | refine chkP_den rfl ?_)
 refine pure_den _ (lss_eq _ _) (br_den (fun hb => ?_) (fun hb => ?_))
 ·have hlt : i < tg.length := by simpa using hb
  obtain ⟨a, r, k1, k2, k3, k4, k5, _⟩ := eff_idx (O := O') (h.le hle) hlt
  have hft := filter_take (p := fun t : Int => t != 0) hlt
  repeat (first | refine chkN_den ?_ | refine chkV_den ?_ | refine chkP_den rfl ?_)
  refine pure_den _ k1 (load_denR (reads_frozen k2) k3 k4 (newbox_den fun r0 => ?_))
  repeat (first | refine chkN_den ?_ | refine chkV_den ?_ | refine chkP_den rfl ?_)
  rw [k5]
  refine pure_den _ (neq_eq _ _) ?_
  refine br_den (fun hc => ?_) (fun hc => ?_)
  ·have hc : (tg[i] != 0) = true := hc
   have hlen : (needsOf (tg.take i)).length ≤ 1000000 := by rw [needsOf]; exact Nat.le_trans (List.length_filter_le _ _) (by rw [List.length_take]; omega)
   repeat (first | refine chkN_den ?_ | refine chkV_den ?_ | refine chkP_den rfl ?_)
   refine newbox_den fun r2 => ?_
   repeat (first | refine chkN_den ?_ | refine chkV_den ?_ | refine chkP_den rfl ?_)
   refine call_append (rows := ints (needsOf (tg.take i))) (news := [[iV tg[i]]]) (O1 := O') (O2 := []) (e := Ty_api_TargetKind) (size := 1) (bytes := 8) (by kernel_rfl) (by simp) hx (fun Hf _ hf => Sl.block1 (hf _ List.mem_cons_self) rfl ⟨rfl, trivial⟩) (by rw [ints, List.length_map, List.length_singleton]; omega) (by rw [ints, List.length_map, List.length_singleton]; omega) ?_
   intro v' A' H6 l6 hA'
   refine pure_den _ (add_one (by omega)) (countY_cont (by simp [Eqs]) hlt ⟨Heap.le_trans hle l6, ?_⟩)
   rw [List.append_nil, needsOf, hft, if_pos hc, ints, List.map_append]; exact hA'
  ·have hc : (tg[i] != 0) = false := hc
   refine pure_den _ (add_one (by omega)) (countY_cont (by simp [Eqs]) hlt ⟨hle, ?_⟩)
   rw [needsOf, hft, if_neg (by rw [hc]; simp), List.append_nil]; exact hx
 ·have hge : tg.length ≤ i := by simpa using hb
  rw [List.take_of_length_le hge] at hx
  exact ret_denO hx
theorem c_IndexFunc_k {H : Heap} {O : Own} {v fv : Value} {l : List Int} {p : Int → Bool} (h : Sl H 1 v (ints l)) {f : FuncId} {caps : Array Value} (hf : fv = .func (.func f) #[] caps) (hok : OkFn PP f)
  (hp : ∀ H', Heap.le H H' → ∀ k, RetO PP f ([iV k] ++ caps.toList) H' O (.bool (p k))) : RetO PP F_slices_IndexFunc_api_TargetKind_api_TargetKind [v, fv] H O (iV (idxP p l 0)) := by
 subst hf
 have hlen : evalPure .len [v] = some (iV l.length) := by have := h.len; rwa [ints, List.length_map] at this
 have hlB := h.lenB
 rw [ints, List.length_map] at hlB
 refine run_slices_IndexFunc_api_TargetKind_api_TargetKind (vs := [v, .func (.func f) #[] caps]) (by kernel_rfl) ⟨h.one, rfl, trivial⟩ ?_
 simp only [T_slices_IndexFunc_api_TargetKind_api_TargetKind]
 refine pure_den _ hlen ?_
 refine count_den l.length (fun i H' O' => O' = O ∧ Heap.le H H' ∧ idxP p l 0 = idxP p (l.drop i) i) ⟨rfl, Heap.le_refl H, by simp⟩ ?_
 rintro i H' O' hi - ⟨rfl, hle, hor⟩
 repeat (first | refine chkN_den ?_ | refine chkV_den ?_ | refine chkP_den rfl ?_)
 refine pure_den _ (lss_eq _ _) (br_den (fun hb => ?_) (fun hb => ?_))
 ·have hlt : i < l.length := by simpa using hb
  obtain ⟨a, h1, h2, h3, h4⟩ := (h.le hle).idx (k := .i64) (i := i) (r := [iV l[i]]) (by simp [ints, hlt])
  repeat (first | refine chkN_den ?_ | refine chkV_den ?_ | refine chkP_den rfl ?_)
  refine pure_den _ h1 (load_den h2 h3 h4 ?_)
  repeat (first | refine chkN_den ?_ | refine chkV_den ?_ | refine chkP_den rfl ?_)
  refine callv_den rfl hok (hp H' hle l[i]) rfl ⟨rfl, trivial⟩ fun H2 hle2 => br_den (fun hb => ?_) (fun hb => ?_)
  ·refine ret_denO ⟨?_, rfl⟩
   rw [hor, List.drop_eq_getElem_cons hlt, idxP, if_pos hb]; rfl
  ·refine pure_den _ (add_one (by omega)) (count_cont (by simp [Eqs, E]) hlt ⟨rfl, Heap.le_trans hle hle2, ?_⟩)
   rw [hor, List.drop_eq_getElem_cons hlt, idxP, if_neg (by rw [hb]; simp)]; rfl
 ·have hge : l.length ≤ i := by simpa using hb
  refine ret_denO ⟨?_, rfl⟩
  rw [hor, List.drop_of_length_le hge]; rfl
theorem c_ContainsFunc_k {H : Heap} {O : Own} {v fv : Value} {l : List Int} {p : Int → Bool} (h : Sl H 1 v (ints l)) {f : FuncId} {caps : Array Value} (hf : fv = .func (.func f) #[] caps) (hok : OkFn PP f)
  (hp : ∀ H', Heap.le H H' → ∀ k, RetO PP f ([iV k] ++ caps.toList) H' O (.bool (p k))) : RetO PP F_slices_ContainsFunc_api_TargetKind_api_TargetKind [v, fv] H O (.bool (l.any p)) := by
 have hone : fv.oneCell' = true := by subst hf; rfl
 refine run_slices_ContainsFunc_api_TargetKind_api_TargetKind (vs := [v, fv]) (by kernel_rfl) ⟨h.one, hone, trivial⟩ ?_
 simp only [T_slices_ContainsFunc_api_TargetKind_api_TargetKind]
 refine call_retO (c_IndexFunc_k h hf hok hp) rfl ⟨rfl, trivial⟩ fun H1 _ => pure_den _ (geq_eq _ _) (ret_denO ⟨?_, rfl⟩)
 rw [← idxP_ge p l 0 (by omega)]
theorem c_Can_1 {H : Heap} {cv : Value} {cs : List Cd} (hk : CardsS H cv cs) (hli : lightB cs = true) {v : BV12} {b : Bd} (h : BdS H v b) (hst : b.stack.length ≤ 1000000) (hv : validBd b = true) {p : Int} (hp : p = 0 ∨ p = 1) (k : Int)
  {r0 r1 r2 : Nat} {T0 T1 T2 : TypeId} {O : Own} (b0 : (r0, Obj.cells [cv].toArray T0 (0, 0)) ∈ O) (b1 : (r1, Obj.cells (boardC v b).toArray T1 (0, 0)) ∈ O) (b2 : (r2, Obj.cells [iV p].toArray T2 (0, 0)) ∈ O) :
  RetO PP F_target_Can_1 [iV k, .pointer (some ⟨r0, 0, none⟩), .pointer (some ⟨r1, 0, none⟩), .pointer (some ⟨r2, 0, none⟩)] H O (.bool (((listT cs b p k).length : Int) == 0)) := by
 refine run_target_Can_1 (vs := [iV k, .pointer (some ⟨r0, 0, none⟩), .pointer (some ⟨r1, 0, none⟩), .pointer (some ⟨r2, 0, none⟩)]) (by kernel_rfl) ⟨rfl, rfl, rfl, rfl, trivial⟩ ?_
 simp only [T_target_Can_1]
 have q0 : Reads H O (.pointer (some ⟨r0, 0, none⟩)) 1 [cv] := .inr ⟨⟨r0, 0, none⟩, _, _, rfl, rfl, b0, rfl, rfl⟩
 have q1 : Reads H O (.pointer (some ⟨r1, 0, none⟩)) 38 (boardC v b) := .inr ⟨⟨r1, 0, none⟩, _, _, rfl, rfl, b1, rfl, rfl⟩
 have q2 : Reads H O (.pointer (some ⟨r2, 0, none⟩)) 1 [iV p] := .inr ⟨⟨r2, 0, none⟩, _, _, rfl, rfl, b2, rfl, rfl⟩
 refine load_denR q0 rfl ⟨hk.one, trivial⟩ ?_
 repeat (first | refine chkN_den ?_ | refine chkV_den ?_ | refine chkP_den rfl ?_)
 refine load_denR q1 rfl (boardC_ones (h.r [])) ?_
 repeat (first | refine chkN_den ?_ | refine chkV_den ?_ | refine chkP_den rfl ?_)
 refine load_denR q2 rfl ⟨rfl, trivial⟩ ?_
 repeat (first | refine chkN_den ?_ | refine chkV_den ?_ | refine chkP_den rfl ?_)
 refine call_new (c_tlist hk hli h hst hv hp k) fun x H1 O1 hx l1 => ⟨[x], rfl, ⟨hx.one, trivial⟩, ?_⟩
 have xlen : evalPure .len [x] = some (iV (listT cs b p k).length) := by have := hx.len; rwa [tRows_len] at this
 repeat (first | refine chkN_den ?_ | refine chkV_den ?_ | refine chkP_den rfl ?_)
 refine pure_den _ xlen ?_
 repeat (first | refine chkN_den ?_ | refine chkV_den ?_ | refine chkP_den rfl ?_)
 exact pure_den _ (eql_eq _ _) (ret_to (X := O1) (Ox := O) (List.Perm.refl _) ⟨rfl, rfl⟩)
/-- Whether there are legal targets for all that effects need. -/
def canT (cs : List Cd) (b : Bd) (p : Int) (tg : List Int) : Bool := (withinB p 0 1 && validBd b) && !((needsOf tg).any fun k => ((listT cs b p k).length : Int) == 0)
theorem c_Can {H : Heap} {cv : Value} {cs : List Cd} (hk : CardsS H cv cs) (hli : lightB cs = true) {v : BV12} {b : Bd} (h : BdS H v b) (hst : b.stack.length ≤ 1000000) (p : Int) {ev : Value} {tg : List Int} (he : EffsS H ev tg) (heb : tg.length ≤ 1000000) :
  RetO PP F_target_Can [cv, .agg (boardC v b).toArray, iV p, ev] H [] (.bool (canT cs b p tg)) := by
 refine run_target_Can (vs := cv :: (boardC v b ++ [iV p, ev])) (by kernel_rfl) ⟨hk.one, ones_app (boardC_ones (h.r [])) ⟨rfl, he.one, trivial⟩⟩ ?_
 simp only [T_target_Can]
 refine newbox_den fun r0 => newbox_den fun r1 => newbox_den fun r2 => ?_
 repeat (first | refine chkN_den ?_ | refine chkV_den ?_ | refine newbox_den fun _ => ?_ | refine pure_den _ (lss_eq _ _) ?_ | refine pure_den _ (gtr_eq _ _) ?_ | refine pure_den _ (leq_eq _ _) ?_ | refine pure_den _ (geq_eq _ _) ?_ | refine pure_den _ (eql_eq _ _) ?_ | refine pure_den _ (neq_eq _ _) ?_ | refine pure_den _ (pick_and _ _) ?_ | refine pure_den _ (pick_or _ _) ?_ | refine pure_den _ (not_eq' _) ?_ | refine pure_den _ (beql_eq _ _) ?_ | refine pure_den _ (bneq_eq _ _) ?_)
 refine br_den (fun hb => ?_) (fun hb => ?_)
 ·have hb : (decide (p < 0) || decide (p > 1)) = true := hb
  rw [within01] at hb
  repeat (first | refine chkN_den ?_ | refine chkV_den ?_ | refine chkP_den rfl ?_)
  exact ret_denO ⟨by rw [canT, show withinB p 0 1 = false from notT hb]; rfl, rfl⟩
 have hb : (decide (p < 0) || decide (p > 1)) = false := hb
 rw [within01] at hb
 have hw : withinB p 0 1 = true := notF hb
 have hp : p = 0 ∨ p = 1 := by simp only [withinB, decide_eq_true_eq] at hw; omega
 repeat (first | refine chkN_den ?_ | refine chkV_den ?_ | refine chkP_den rfl ?_)
 refine call_retO (c_board_Valid (h.r [])) rfl ⟨rfl, trivial⟩ fun H2 l2 => pure_den _ (not_eq' _) (br_den (fun hc => ?_) (fun hc => ?_))
 ·repeat (first | refine chkN_den ?_ | refine chkV_den ?_ | refine chkP_den rfl ?_)
  exact ret_denO ⟨by rw [canT, show validBd b = false from notT hc, Bool.and_false]; rfl, rfl⟩
 have hv : validBd b = true := notF hc
 replace h := h.le l2
 replace hk := hk.le l2
 repeat (first | refine chkN_den ?_ | refine chkV_den ?_ | refine chkP_den rfl ?_)
 refine call_new (Triple.frozenS (c_Needs (he.le l2) heb)) ?_
 rintro x H3 _ ⟨hx, rfl⟩ l3
 refine ⟨[x], rfl, ⟨hx.one, trivial⟩, ?_⟩
 replace h := h.le l3
 replace hk := hk.le l3
 repeat (first | refine chkN_den ?_ | refine chkV_den ?_ | refine chkP_den rfl ?_)
 refine call_own2 (O1 := []) (O2 := []) (own := [⟨r0, 22, [cv]⟩, ⟨r1, 34, boardC v b⟩, ⟨r2, 3, [iV p]⟩]) (R := fun v _ O3 => v = .bool ((needsOf tg).any fun k => ((listT cs b p k).length : Int) == 0) ∧ O3 = []) (List.Perm.refl _) ?_ ⟨rfl, ⟨hk.one, trivial⟩, rfl, boardC_ones (h.r []), rfl, ⟨rfl, trivial⟩, trivial⟩ ?_
 ·refine Triple.mono (c_ContainsFunc_k hx rfl (okFn_of okL_ok (by kernel_rfl)) fun H' l' k => c_Can_1 (hk.le l') hli (h.le l') hst hv hp k (T0 := 22) (T1 := 34) (T2 := 3) List.mem_cons_self (List.mem_cons_of_mem _ List.mem_cons_self) (List.mem_cons_of_mem _ (List.mem_cons_of_mem _ List.mem_cons_self))) ?_
  rintro v H' O' _ ⟨rfl, rfl⟩
  exact ⟨[], rfl, rfl, rfl⟩
 rintro _ H4 _ ⟨rfl, rfl⟩ l4
 refine ⟨_, rfl, ⟨rfl, trivial⟩, ?_⟩
 repeat (first | refine chkN_den ?_ | refine chkV_den ?_ | refine chkP_den rfl ?_)
 exact pure_den _ (not_eq' _) (ret_denO ⟨by rw [canT, hw, hv]; rfl, rfl⟩)
end Go.Proofs.Ytbaegnnmedjkmaa
namespace Go.Proofs.Ytbaegnnmedjkmaa
open Go Go.Sx
set_option maxRecDepth 100000
set_option maxHeartbeats 1000000
theorem can_one {cs : List Cd} {b : Bd} (h : validBd b = true) {p k : Int} (hp : p = 0 ∨ p = 1) (hk : k ≠ 0) : canT cs b p [k] = decide (((listT cs b p k).length : Int) > 0) := by
 have hw : withinB p 0 1 = true := by simp only [withinB, decide_eq_true_eq]; omega
 have e : needsOf [k] = [k] := by simp [needsOf, hk]
 rw [canT, hw, h, e, List.any_cons, List.any_nil, Bool.or_false, Bool.and_true, Bool.true_and]
 generalize (listT cs b p k).length = n
 by_cases h0 : n = 0
 ·subst h0; rfl
 ·rw [show ((n : Int) == 0) = false from by rw [beq_eq_false_iff_ne]; omega, decide_eq_true (by omega)]; rfl
theorem eff_block {H : Heap} {r : Nat} {k : Int} {T : TypeId} (h : H r = some (.cells [iV 0, iV k, iV 0, iV 0, iV 0].toArray T (0, 0))) : EffsS H (.slice (some ⟨r, 0, none⟩) 1 1) [k] :=
 ⟨[[iV 0, iV k, iV 0, iV 0, iV 0]], Sl.block1 h rfl ⟨rfl, rfl, rfl, rfl, rfl, trivial⟩, rfl, fun i r t h1 h2 => by
  cases i with
  | zero => simp at h1 h2; subst h1; subst h2; rfl
  | succ i => simp at h1⟩
end Go.Proofs.Ytbaegnnmedjkmaa
namespace Go.Proofs.Ytbaegnnmedjkmaa
open Go Go.Sx
set_option maxRecDepth 100000
set_option maxHeartbeats 1000000
theorem r_New {H : Heap} {va vc : Value} (life : Int) {a c : List Int} (ha : Sl H 1 va (ints a)) (hc : Sl H 1 vc (ints c)) (hla : a.length ≤ 1000) (hlc : c.length ≤ 1000) :
  Triple PP F_zeitnotref15_New [iV life, .agg #[va, vc]] H [] (NewQ life a c) := by
 refine run_zeitnotref15_New (vs := [iV life, va, vc]) (by kernel_rfl) ⟨rfl, ha.one, hc.one, trivial⟩ ?_
 simp only [T_zeitnotref15_New]
 have la := ha.len
 have lc := hc.len
 rw [ints, List.length_map] at la lc
 refine newbox_den fun r0 => newbox_den fun r1 => newbox_den fun r2 => ?_
 repeat (first | refine chkN_den ?_ | refine chkV_den ?_ | refine pure_den _ la ?_ | refine pure_den _ lc ?_ | refine pure_den _ (add_nat (by omega)) ?_ | refine pure_den _ (gtr_eq _ _) ?_ | refine pure_den _ (lss_eq _ _) ?_ | refine pure_den _ (pick_or _ _) ?_)
 refine br_den (fun hb => chkN_den (chkN_den (ret_denO (new_bad ?_ H)))) (fun hb => ?_)
 ·unfold newOk
  simp only [Bool.or_eq_true, decide_eq_true_eq] at hb
  rcases hb with hb | hb
  ·have : ¬ (1 ≤ life ∧ life ≤ 9999) := by omega
   simp only [this, decide_false, Bool.false_and]
  ·have : ¬ (a.length + c.length ≤ 500) := by omega
   simp only [this, decide_false, Bool.and_false, Bool.false_and]
 simp only [Bool.or_eq_false_iff, decide_eq_true_eq, decide_eq_false_iff_not] at hb
 have hlife : 1 ≤ life ∧ life ≤ 9999 := by omega
 have hsum : a.length + c.length ≤ 500 := by omega
 refine chkN_den ?_
 refine countX_den a.length (fun i xs H' O' => ∃ o l O1 O2, xs = [o, l, nilS] ∧ O'.Perm (O1 ++ O2) ∧ Heap.le H H' ∧ OSl Ty_api_Object 12 o (((deckOb 0 a 0).take i).map Ob.row) O1 ∧ OSl Ty_int 1 l (ints (((deckOb 0 a 0).take i).map (·.id))) O2 ∧ ∀ x ∈ a.take i, 0 ≤ x ∧ x ≤ 399)
  ⟨nilS, nilS, [], [], rfl, List.Perm.refl _, Heap.le_refl _, OSl.nil _ _, OSl.nil _ _, by simp⟩ ?_
 rintro i xs H2 O2' hi - - - ⟨o, l, O1, O2, rfl, hO, l2, ho, hl, hall⟩
 refine chkN_den (pure_den _ la (pure_den _ (lss_eq _ _) (br_den (fun hb => ?_) (fun hb => ?_))))
 ·have hlt : i < a.length := by simpa using hb
  obtain ⟨p, h1, h2, h3, h4⟩ := (ha.le l2).idx (k := .i64) (i := i) (r := [iV a[i]]) (by simp [ints, hlt])
  refine chkN_den (pure_den _ h1 (load_den h2 h3 h4 (pure_den _ (lss_eq _ _) (chkV_den (chkN_den (chkV_den (chkV_den (chkV_den (pure_denG h1 rfl (chkV_den (load_denG h2 h3 h4 (chkV_den (pure_den _ (gtr_eq _ _) (chkV_den (pure_den _ (pick_or _ _) (br_den (fun hb => chkN_den (chkN_den (ret_drop (new_bad ?_ H2)))) (fun hb => ?_)))))))))))))))))
  ·refine newOk_bad (i := i) (by simp; omega) ?_
   rw [List.getElem_append_left hlt]
   rintro ⟨q1, q2⟩
   simp at hb
   omega
  ·have hin : 0 ≤ a[i] ∧ a[i] ≤ 399 := by simp at hb; omega
   have lno := ho.len
   rw [List.length_map, List.length_take, deck_len, Nat.min_eq_left (by omega)] at lno
   refine chkN_den (pure_den _ lno (pure_den _ (add_one (by omega)) (chkN_den (chkN_den (pure_den _ h1 (load_den h2 h3 h4 (newbox_den fun r3 => ?_)))))))
   refine call_append (rows := ((deckOb 0 a 0).take i).map Ob.row) (news := [(newOb ((i + 1 : Nat) : Int) a[i] 0).row]) (O1 := O1) (O2 := O2) (e := Ty_api_Object) (size := 12) (bytes := 80) (by kernel_rfl) hO ho
    (fun Hf _ hf => Sl.block1 (hf _ List.mem_cons_self) rfl (by simp [newOb, Ob.row, Ones, Value.oneCell'])) ?_ ?_ ?_
   ·simp [deck_len]; omega
   ·simp [deck_len]; omega
   intro o' O1' H5 l5 ho'
   refine chkN_den (chkN_den (newbox_den fun r4 => ?_))
   refine call_append (rows := ints (((deckOb 0 a 0).take i).map (·.id))) (news := [[iV ((i + 1 : Nat) : Int)]]) (O1 := O2) (O2 := O1') (e := Ty_int) (size := 1) (bytes := 8) (by kernel_rfl) List.perm_append_comm hl
    (fun Hf _ hf => Sl.block1 (hf _ List.mem_cons_self) rfl ⟨rfl, trivial⟩) ?_ ?_ ?_
   ·simp [ints, deck_len]; omega
   ·simp [ints, deck_len]; omega
   intro l' O2'' H6 l6 hl'
   refine chkN_den (pure_den _ (add_one (by omega)) (countX_cont (by simp [Eqs, E]) hlt ⟨o', l', O1', O2'', rfl, List.perm_append_comm, ?_, ?_, ?_, all_take hlt hall hin⟩))
   ·exact Heap.le_trans l2 (Heap.le_trans l5 l6)
   ·rw [deck_take hlt, List.map_append, Nat.zero_add]; exact ho'
   ·rw [deck_take hlt, List.map_append, Nat.zero_add, ints_append] at *
    exact hl'
 ·have hie : i = a.length := by simp at hb; omega
  subst hie
  rw [List.take_of_length_le (by rw [deck_len]; exact Nat.le_refl _)] at ho hl
  rw [List.take_length] at hall
  refine chkN_den ?_
  refine countX_den c.length (fun i xs H' O' => ∃ o m O1 O3, xs = [o, l, m] ∧ O'.Perm (O1 ++ (O2 ++ O3)) ∧ Heap.le H2 H' ∧ OSl Ty_api_Object 12 o ((deckOb 0 a 0 ++ (deckOb a.length c 1).take i).map Ob.row) O1 ∧ OSl Ty_int 1 m (ints (((deckOb a.length c 1).take i).map (·.id))) O3 ∧ ∀ x ∈ c.take i, 0 ≤ x ∧ x ≤ 399)
   ⟨o, nilS, O1, [], rfl, by simpa using hO, Heap.le_refl _, by simpa using ho, OSl.nil _ _, by simp⟩ ?_
  rintro i xs H3 O3' hi - - - ⟨o, m, O1, O3, rfl, hO, l3, ho, hm, hallc⟩
  refine chkN_den (pure_den _ lc (pure_den _ (lss_eq _ _) (br_den (fun hb => ?_) (fun hb => ?_))))
  ·have hlt : i < c.length := by simpa using hb
   obtain ⟨p, h1, h2, h3, h4⟩ := ((hc.le l2).le l3).idx (k := .i64) (i := i) (r := [iV c[i]]) (by simp [ints, hlt])
   refine chkN_den (pure_den _ h1 (load_den h2 h3 h4 (pure_den _ (lss_eq _ _) (chkV_den (chkN_den (chkV_den (chkV_den (chkV_den (pure_denG h1 rfl (chkV_den (load_denG h2 h3 h4 (chkV_den (pure_den _ (gtr_eq _ _) (chkV_den (pure_den _ (pick_or _ _) (br_den (fun hb => chkN_den (chkN_den (ret_drop (new_bad ?_ H3)))) (fun hb => ?_)))))))))))))))))
   ·refine newOk_bad (i := a.length + i) (by simp; omega) ?_
    rw [List.getElem_append_right (by omega)]
    rintro ⟨q1, q2⟩
    simp at hb q1 q2
    omega
   ·have hin : 0 ≤ c[i] ∧ c[i] ≤ 399 := by simp at hb; omega
    have lno := ho.len
    rw [List.length_map, List.length_append, List.length_take, deck_len, deck_len, Nat.min_eq_left (by omega)] at lno
    refine chkN_den (pure_den _ lno (pure_den _ (add_one (by omega)) (chkN_den (chkN_den (pure_den _ h1 (load_den h2 h3 h4 (newbox_den fun r5 => ?_)))))))
    refine call_append (rows := (deckOb 0 a 0 ++ (deckOb a.length c 1).take i).map Ob.row) (news := [(newOb ((a.length + i + 1 : Nat) : Int) c[i] 1).row]) (O1 := O1) (O2 := O2 ++ O3) (e := Ty_api_Object) (size := 12) (bytes := 80) (by kernel_rfl) hO ho
     (fun Hf _ hf => Sl.block1 (hf _ List.mem_cons_self) rfl (by simp [newOb, Ob.row, Ones, Value.oneCell'])) ?_ ?_ ?_
    ·simp [deck_len]; omega
    ·simp [deck_len]; omega
    intro o' O1' H6 l6 ho'
    refine chkN_den (chkN_den (newbox_den fun r6 => ?_))
    refine call_append (rows := ints (((deckOb a.length c 1).take i).map (·.id))) (news := [[iV ((a.length + i + 1 : Nat) : Int)]]) (O1 := O3) (O2 := O1' ++ O2) (e := Ty_int) (size := 1) (bytes := 8) (by kernel_rfl)
     (by rw [← List.append_assoc]; exact List.perm_append_comm) hm (fun Hf _ hf => Sl.block1 (hf _ List.mem_cons_self) rfl ⟨rfl, trivial⟩) ?_ ?_ ?_
    ·simp [ints, deck_len]; omega
    ·simp [ints, deck_len]; omega
    intro m' O3'' H7 l7 hm'
    refine chkN_den (pure_den _ (add_one (by omega)) (countX_cont (by simp [Eqs, E]) hlt ⟨o', m', O1', O3'', rfl, ?_, ?_, ?_, ?_, all_take hlt hallc hin⟩))
    ·rw [← List.append_assoc O1']; exact List.perm_append_comm
    ·exact Heap.le_trans l3 (Heap.le_trans l6 l7)
    ·rw [deck_take hlt, ← List.append_assoc, List.map_append]; exact ho'
    ·rw [deck_take hlt, List.map_append]
     rw [ints_append] at hm'
     exact hm'
  ·have hie : i = c.length := by simp at hb; omega
   subst hie
   rw [List.take_of_length_le (by rw [deck_len]; exact Nat.le_refl _)] at ho hm
   rw [List.take_length] at hallc
   refine chkN_den (chkN_den (chkN_den (new_good ?_ hO ho hl hm)))
   unfold newOk
   simp only [Bool.and_eq_true, decide_eq_true_eq, List.all_eq_true]
   refine ⟨⟨hlife, hsum⟩, fun x hx => ?_⟩
   rcases List.mem_append.1 hx with hx | hx
   ·exact hall x hx
   ·exact hallc x hx
end Go.Proofs.Ytbaegnnmedjkmaa
namespace Go.Sx
open Go
set_option maxRecDepth 100000
set_option maxHeartbeats 1000000
/-- Ahead of a call a part of what is owned is frozen, the rest is kept. -/
theorem call_gk {T : Heap → Own → (Value → Heap → Own → Prop) → Prop} {frz : List BV} {shp : Shp} {K : List Value → List (List Value) → Heap → Own → Prop} {H : Heap} {O B : Own} {Φ : Heap → Prop}
  (hz : ∀ H1, Heap.le H H1 → Cons H1 O → ∃ Hf, Ghost H1 O Hf B ∧ Heap.le H1 Hf ∧ Φ Hf)
  (h : ∀ Hf, Heap.le H Hf → (∀ b ∈ frz, Hf b.r = some b.obj.2) → Φ Hf → ∃ Q, T Hf [] Q ∧ ∀ v H' O', Q v H' O' → Heap.le Hf H' → ∃ vs, shp.open v = some vs ∧ Ones vs ∧ K vs [] H' (O' ++ B)) :
  CallD T false frz [] shp K H O := by
 intro hc
 have hf := insAll_get hc
 have hc2 : Cons (H.insAll frz) O := by
  obtain ⟨w, F, hm⟩ := hc
  exact ⟨w, F, (models_freeze (by simpa [List.append_assoc] using hm)).1⟩
 obtain ⟨Hf, g, hl, hphi⟩ := hz _ (Heap.le_insAll frz H) hc2
 obtain ⟨Q, hT, hk⟩ := h Hf (Heap.le_trans (Heap.le_insAll frz H) hl) (fun b hb => hl.1 _ _ (hf b hb)) hphi
 refine ⟨Hf, [], B, Q, by simpa using g, by simpa using hT, fun v H' O' hq hle => ?_⟩
 obtain ⟨vs, h1, h2, h3⟩ := hk v H' O' hq hle
 exact ⟨vs, [], O', h1, h2, trivial, by simp [newCells], by simpa using h3⟩
theorem gz_keep {H : Heap} {O : Own} : ∀ H1, Heap.le H H1 → Cons H1 O → ∃ Hf, Ghost H1 O Hf O ∧ Heap.le H1 Hf ∧ (fun _ : Heap => True) Hf := fun H1 _ _ => ⟨H1, Ghost.refl _ _, Heap.le_refl _, trivial⟩
theorem gz_one {H : Heap} {e : TypeId} {size : Nat} {x : Value} {rows : List (List Value)} {O A B : Own} (hx : OSl e size x rows A) (hO : O.Perm (A ++ B)) : ∀ H1, Heap.le H H1 → Cons H1 O → ∃ Hf, Ghost H1 O Hf B ∧ Heap.le H1 Hf ∧ Sl Hf size x rows := fun H1 _ hc => by
 obtain ⟨Hf, g, hs, hl⟩ := hx.freeze (hc.perm hO)
 exact ⟨Hf, (Ghost.perm hO).trans g, hl, hs⟩
theorem gz_two {H : Heap} {e e' : TypeId} {size size' : Nat} {x y : Value} {rows rows' : List (List Value)} {O A B : Own} (hx : OSl e size x rows A) (hy : OSl e' size' y rows' B) (hO : O.Perm (A ++ B)) :
  ∀ H1, Heap.le H H1 → Cons H1 O → ∃ Hf, Ghost H1 O Hf [] ∧ Heap.le H1 Hf ∧ (Sl Hf size x rows ∧ Sl Hf size' y rows') := fun H1 _ hc => by
 have hc1 := hc.perm hO
 obtain ⟨H2, g1, s1, l1⟩ := hx.freeze hc1
 obtain ⟨H3, g2, s2, l2⟩ := hy.freeze (X := []) (by simpa using hc1.ghost g1)
 exact ⟨H3, (Ghost.perm hO).trans (g1.trans (by simpa using g2)), Heap.le_trans l1 l2, s1.le l2, s2⟩
/-- The first rows of a frozen block. -/
theorem Sl.of_block {H : Heap} {r size : Nat} {T : TypeId} {all : List (List Value)} {cs : List Value} (h : H r = some (.cells cs.toArray T (0, 0))) (hcs : cs = all.flatten) (hl : ∀ row ∈ all, row.length = size) (ho : ∀ row ∈ all, Ones row) {m n : Nat} (hm : m ≤ all.length) (hn : n = all.length) (hb : n < 2 ^ 63) :
  Sl H size (.slice (some ⟨r, 0, none⟩) m n) (all.take m) := by
 subst hcs
 subst hn
 have hml : (all.take m).length = m := by rw [List.length_take]; omega
 refine ⟨_, _, by rw [hml], by rw [hml]; exact hm, hb, fun _ => ⟨_, rfl, ?_⟩⟩
 intro i x hx
 have hi : all[i]? = some x := by
  rw [List.getElem?_take] at hx
  split at hx
  ·exact hx
  ·cases hx
 have hmem := List.mem_of_getElem? hi
 have hlt := (List.getElem?_eq_some_iff.1 hi).1
 have hfl := flatten_len hl
 have hmul : (i + 1) * size ≤ all.length * size := Nat.mul_le_mul_right _ hlt
 rw [Nat.add_mul, Nat.one_mul] at hmul
 refine ⟨?_, hl x hmem, ho x hmem⟩
 rw [add_none, Nat.zero_add, read_block h (by rw [hfl]; exact hmul)]
 exact congrArg some (flatten_get hl hi)
/-- append to a frozen slice that is full: what is handed back is owned. -/
theorem append_frzO {P : Program} {t ty e : TypeId} {size : Nat} (ha : appOk' P t e size = true) {ad : Addr} {rows news : List (List Value)} {x : Value} {H : Heap} (hr : Sl H size (.slice (some ad) rows.length rows.length) rows) (hx : Sl H size x news) (hne : news ≠ [])
  (hb : (rows.length + news.length) * bytesOf P e ≤ 140737488355328) (h63 : rows.length + news.length < 2 ^ 63) :
  OpTriple P ((PrimOp.bi .append #[t, t] ty).sem [.slice (some ad) rows.length rows.length, x]) H [] fun v' H' O' => H' = H ∧ OSl e size v' (rows ++ news) O' := by
 obtain ⟨hu, i, z, hi, hsz, hz, hzs, h0, hby⟩ := appOk_spec ha
 intro w F hm
 simp only [List.nil_append] at hm
 obtain ⟨src, s1, s2, s3⟩ := sl_src hu h0 hx hm
 have hpos : 0 < news.length := List.length_pos_iff.2 hne
 obtain ⟨osrc, o1, o2, o3⟩ := sl_src hu h0 hr hm
 obtain ⟨zs, cc, z1, zc, hrun⟩ := grow_run2 (ty := ty) hu hi hz hsz hzs hby (w := w) (base := some ad) (len := rows.length) (cap := rows.length) (m := news.length) (olds := rows.flatten) (news := news.flatten) (x := x)
  (by rw [hsz]; exact osrc.cellsD) src (by omega) hb h63
 have hm2 := models_alloc hm (rows.flatten ++ news.flatten ++ zs).toArray e
 refine ⟨.slice (some ⟨w.heap.size, 0, none⟩) (rows.length + news.length) (cc + (rows.length + news.length)), w.drew.alloc (.cells (rows.flatten ++ news.flatten ++ zs).toArray e), H, [(w.heap.size, .cells (rows.flatten ++ news.flatten ++ zs).toArray e (0, 0))], ?_, ⟨rfl, ?_⟩, Heap.le_refl H, hm2⟩
 ·simp only [PrimOp.sem, builtin, Sem.run_bind]
  rw [hrun]; rfl
 ·refine .inr ⟨w.heap.size, rows.flatten ++ news.flatten ++ zs, cc + (rows.length + news.length), by rw [List.length_append], rfl, ?_, ?_, ?_, ?_, ?_, ?_⟩
  ·rw [List.length_append, List.length_append, o1, s1, z1, ← Nat.add_mul, ← Nat.add_mul]; congr 1; omega
  ·rw [List.length_append]; omega
  ·exact zc
  ·intro r hr'
   rcases List.mem_append.1 hr' with h | h
   ·exact o2 r h
   ·exact s2 r h
  ·intro r hr'
   rcases List.mem_append.1 hr' with h | h
   ·exact o3 r h
   ·exact s3 r h
  ·rw [List.flatten_append, List.length_append, Nat.add_mul, ← o1, ← s1, ← List.length_append, List.take_left]
/-- append of nothing. -/
theorem append_nilO {P : Program} {t ty e : TypeId} {size : Nat} (ha : appOk' P t e size = true) {ad : Addr} {n : Nat} {H : Heap} :
  OpTriple P ((PrimOp.bi .append #[t, t] ty).sem [.slice (some ad) n n, .slice none 0 0]) H [] fun v' H' O' => v' = .slice (some ad) n n ∧ H' = H ∧ O' = [] := by
 obtain ⟨hu, i, z, hi, hsz, hz, hzs, h0, hby⟩ := appOk_spec ha
 intro w F hm
 simp only [List.nil_append] at hm
 obtain ⟨src, s1, s2, s3⟩ := sl_src (x := .slice none 0 0) (news := []) hu h0 (Sl.nil H size) hm
 have hs' : Src P i.size t (.slice none 0 0) 0 [] w := by rw [hsz]; exact src
 have hrun := run_append_no (ty := ty) hu hi (base := some ad) (cap := n) hs' (Nat.le_refl _)
 refine ⟨_, w, H, [], ?_, ⟨rfl, rfl, rfl⟩, Heap.le_refl H, by simpa using hm⟩
 simp only [PrimOp.sem, builtin, Sem.run_bind]
 rw [hrun]; rfl
theorem rep_flat2 (zs : List Value) : ∀ n, repVals zs n = (List.replicate n zs).flatten
 | 0 => rfl
 | n + 1 => by rw [repVals, List.replicate_succ, List.flatten_cons, rep_flat2 zs n]
theorem make_two {P : Program} {t elem : TypeId} {z z' : Value} (hu : P.underlying t = some (.slice elem)) (hs : szOf P elem = some 2) (hz : zeroOf P elem = some [.k z, .k z']) (hby : ((P.info? elem).map fun i => decide (i.bytes ≤ 16)).getD false = true) (hzo : z.oneCell' = true) (hzo' : z'.oneCell' = true)
  {n : Nat} (hn : n ≤ 255) {H : Heap} {O : Own} {K : List Value → List (List Value) → Heap → Own → Prop} (hk : ∀ v H', Heap.le H H' → Sl H' 2 v (List.replicate n [z, z']) → K [v] [] H' O) :
  CallD (fun H1 O1 R => OpTriple P ((PrimOp.makeSlice t).sem [.int .u8 n, .int .u8 n]) H1 O1 R) false [] [] .one K H O := by
 obtain ⟨zv, hzr, hzc, _, _⟩ := zeroOf_run hz
 have hfl : (List.replicate n [z, z']).flatten.length = n * 2 := by
  have := flatten_len (rows := List.replicate n [z, z']) (size := 2) (fun r hr => by rw [List.eq_of_mem_replicate hr]; rfl)
  rwa [List.length_replicate] at this
 have hrun : ∀ w, ((PrimOp.makeSlice t).sem [.int .u8 n, .int .u8 n]).run P w = .ok (.value (.slice (some ⟨w.heap.size, 0, none⟩) n n)) { w with heap := w.heap.push (.cells (List.replicate n [z, z']).flatten.toArray elem (0, 0)) } := by
  intro w
  have hzc' : zv.cells = #[z, z'] := by
   apply Array.ext'
   rw [hzc]; rfl
  have hrep : ((Array.range (n * 2)).map fun i => (#[z, z'] : Array Value)[i % (#[z, z'] : Array Value).size]!) = (List.replicate n [z, z']).flatten.toArray := by
   have := repCells_spec [z, z'] (by simp) n
   apply Array.ext'
   rw [← rep_flat2, ← this]
   simp
  cases hi : P.info? elem with
  | none => rw [hi] at hby; simp at hby
  | some i =>
   rw [hi] at hby
   simp only [Option.map_some, Option.getD_some, decide_eq_true_eq] at hby
   have w1 : IntKind.i64.wrap (n : Int) = n := wrap_id (by omega) (by omega)
   have hby' : ¬ ((i.bytes : Int) * (n : Int) > 2 ^ 48) := by
    have h1 : i.bytes * n ≤ 16 * 255 := Nat.mul_le_mul hby hn
    have e : ((i.bytes * n : Nat) : Int) = (i.bytes : Int) * (n : Int) := Int.natCast_mul _ _
    omega
   have hcnd : ¬ (((decide ((n : Int) < 0) || decide ((i.bytes : Int) * (n : Int) > 2 ^ 48)) || decide ((n : Int) < 0) || decide ((n : Int) > (n : Int))) = true) := by
    simp only [Bool.or_eq_true, decide_eq_true_eq]
    omega
   have hti : (typeInfo elem).run P w = .ok i w := by simp [typeInfo, hi]
   have hA : (asInt (.int .u8 (n : Int))).run P w = .ok (n : Int) w := rfl
   show ((do pure (Next.value (← Instr.makeSlice t (.int .u8 n) (.int .u8 n)))) : Sem Next).run P w = _
   rw [Sem.run_bind]
   unfold Instr.makeSlice
   rw [Sem.run_bind, run_underlying' hu]
   simp only [Result.andThen_ok]
   rw [Sem.run_bind, hA, Result.andThen_ok, Sem.run_bind, hA, Result.andThen_ok, Sem.run_bind, hti, Result.andThen_ok]
   simp only [w1]
   rw [if_neg hcnd]
   by_cases h0 : n * 2 = 0
   ·have hm0 : n = 0 := by omega
    subst hm0
    simp only [Sem.run_bind, run_askRoom, run_sizeOf' hs, Result.andThen_ok, Int.toNat_natCast, Nat.zero_mul, if_true, Sem.run_pure, show Array.range 0 = #[] from rfl, Array.map_empty, newRow, run_newObj, List.replicate, List.flatten_nil]
   ·simp only [Sem.run_bind, run_askRoom, run_sizeOf' hs, Result.andThen_ok, Int.toNat_natCast, h0, if_false, hzr, Sem.run_pure, hzc', hrep, newRow, run_newObj]
 intro hc
 refine ⟨H, [], O, fun v H' O' => O' = [] ∧ Heap.le H H' ∧ Sl H' 2 v (List.replicate n [z, z']), Ghost.refl _ _, ?_, ?_⟩
 ·intro w F hm
  have hp := hm.push (.cells (List.replicate n [z, z']).flatten.toArray elem (0, 0))
  have ho : OSl elem 2 (.slice (some ⟨w.heap.size, 0, none⟩) n n) (List.replicate n [z, z']) [(w.heap.size, .cells (List.replicate n [z, z']).flatten.toArray elem (0, 0))] := by
   refine .inr ⟨w.heap.size, (List.replicate n [z, z']).flatten, n, ?_, rfl, hfl, ?_, ?_, ?_, ?_, ?_⟩
   ·rw [List.length_replicate]
   ·rw [List.length_replicate]; exact Nat.le_refl _
   ·omega
   ·intro row hr; rw [List.eq_of_mem_replicate hr]; rfl
   ·intro row hr; rw [List.eq_of_mem_replicate hr]; exact ⟨hzo, hzo', trivial⟩
   ·rw [List.length_replicate, List.take_of_length_le (by rw [hfl]; exact Nat.le_refl _)]
  have hp' : Models { w with heap := w.heap.push (.cells (List.replicate n [z, z']).flatten.toArray elem (0, 0)) } H ((w.heap.size, .cells (List.replicate n [z, z']).flatten.toArray elem (0, 0)) :: F) := by simpa using hp
  obtain ⟨H', g, k1, k2⟩ := ho.freeze (X := []) ⟨_, F, hp'⟩
  refine ⟨_, _, H', [], hrun w, ⟨rfl, k2, k1⟩, k2, (g _ F hp').1⟩
 ·rintro v H' O' ⟨rfl, hl, h⟩ _
  exact ⟨[v], [], [], rfl, ⟨h.one, trivial⟩, trivial, rfl, by simpa using hk v H' hl h⟩
end Go.Sx
namespace Go.Proofs.Ytbaegnnmedjkmaa
open Go Go.Sx
set_option maxRecDepth 100000
set_option maxHeartbeats 1000000
def ef1 : Eff := ⟨11, 1, 0, 0, 0⟩
def cdsW (k : Int) (n : Nat) : List Cd := [⟨k, List.replicate n 1, []⟩, ⟨3, [], []⟩]
def it0 (h : Nat) : It := ⟨0, 1, 0, -1, List.replicate h ⟨0, 0⟩⟩
def itJ (j : Int) : It := ⟨0, j, 1, -1, []⟩
def itsW : Nat → List It
 | 0 => [] | 1 => [itJ 2] | 2 => [itJ 2, itJ 3] | 3 => [itJ 2, itJ 3, itJ 4] | _ => [itJ 2, itJ 3, itJ 4, itJ 5]
def bdW (c h : Nat) : Bd := { newBd 5 [0, 1, 1, 1, 1] [] with s0 := { (newBd 5 [0, 1, 1, 1, 1] []).s0 with lib := [5, 4, 3, 2].take (4 - c) }, stack := it0 h :: itsW c }
theorem bdW_valid {c h : Nat} (hc : c ≤ 4) (hh : h ≤ 4) : validBd (bdW c h) = true := by
 match c, h, hc, hh with
 | 0, 0, _, _ => exact (by kernel_rfl : validBd (bdW 0 0) = true)
 | 0, 1, _, _ => exact (by kernel_rfl : validBd (bdW 0 1) = true)
 | 0, 2, _, _ => exact (by kernel_rfl : validBd (bdW 0 2) = true)
 | 0, 3, _, _ => exact (by kernel_rfl : validBd (bdW 0 3) = true)
 | 0, 4, _, _ => exact (by kernel_rfl : validBd (bdW 0 4) = true)
 | 1, 0, _, _ => exact (by kernel_rfl : validBd (bdW 1 0) = true)
 | 1, 1, _, _ => exact (by kernel_rfl : validBd (bdW 1 1) = true)
 | 1, 2, _, _ => exact (by kernel_rfl : validBd (bdW 1 2) = true)
 | 1, 3, _, _ => exact (by kernel_rfl : validBd (bdW 1 3) = true)
 | 1, 4, _, _ => exact (by kernel_rfl : validBd (bdW 1 4) = true)
 | 2, 0, _, _ => exact (by kernel_rfl : validBd (bdW 2 0) = true)
 | 2, 1, _, _ => exact (by kernel_rfl : validBd (bdW 2 1) = true)
 | 2, 2, _, _ => exact (by kernel_rfl : validBd (bdW 2 2) = true)
 | 2, 3, _, _ => exact (by kernel_rfl : validBd (bdW 2 3) = true)
 | 2, 4, _, _ => exact (by kernel_rfl : validBd (bdW 2 4) = true)
 | 3, 0, _, _ => exact (by kernel_rfl : validBd (bdW 3 0) = true)
 | 3, 1, _, _ => exact (by kernel_rfl : validBd (bdW 3 1) = true)
 | 3, 2, _, _ => exact (by kernel_rfl : validBd (bdW 3 2) = true)
 | 3, 3, _, _ => exact (by kernel_rfl : validBd (bdW 3 3) = true)
 | 3, 4, _, _ => exact (by kernel_rfl : validBd (bdW 3 4) = true)
 | 4, 0, _, _ => exact (by kernel_rfl : validBd (bdW 4 0) = true)
 | 4, 1, _, _ => exact (by kernel_rfl : validBd (bdW 4 1) = true)
 | 4, 2, _, _ => exact (by kernel_rfl : validBd (bdW 4 2) = true)
 | 4, 3, _, _ => exact (by kernel_rfl : validBd (bdW 4 3) = true)
 | 4, 4, _, _ => exact (by kernel_rfl : validBd (bdW 4 4) = true)
def wantW : Nat → List Int
 | 0 => [] | 1 => [2] | 2 => [3, 2] | 3 => [4, 3, 2] | _ => [5, 4, 3, 2]
def okW (k : Int) (n h : Nat) : Bool := decide ((h : Int) ≥ (n : Int)) && isSp k
theorem spellJ (k : Int) (n : Nat) (j : Int) : spellP (cdsW k n) (itJ j) = true := rfl
theorem spell0 (k : Int) (n h : Nat) : spellP (cdsW k n) (it0 h) = okW k n h := by
 have e1 : needsOf (List.replicate n (1 : Int)) = List.replicate n 1 := by
  rw [needsOf, List.filter_eq_self]
  intro x hx
  rw [List.eq_of_mem_replicate hx]; rfl
 have e2 : cdAt (cdsW k n) (it0 h).card = ⟨k, List.replicate n 1, []⟩ := rfl
 rw [spellP, e2, okW]
 show ((isSp k && decide ((-1 : Int) < 0)) && decide (((List.replicate h (⟨0, 0⟩ : Tg)).length : Int) ≥ ((needsOf (List.replicate n 1)).length : Int))) = _
 rw [e1, List.length_replicate, List.length_replicate]
 cases isSp k <;> simp
theorem id0 (h : Nat) : (it0 h).id = 1 := rfl
theorem idJ (j : Int) : (itJ j).id = j := rfl
theorem spellsW {c : Nat} (hc : c ≤ 4) (k : Int) (n h : Nat) : spellsT (cdsW k n) (bdW c h) = wantW c ++ if okW k n h = true then [1] else [] := by
 have e : spellsT (cdsW k n) (bdW c h) = (((it0 h :: itsW c).reverse).filter (spellP (cdsW k n))).map (fun x : It => x.id) := rfl
 rw [e]
 match c, hc with
 | 0, _ => cases ho : okW k n h <;> simp [itsW, spell0, ho, wantW, id0]
 | 1, _ => cases ho : okW k n h <;> simp [itsW, List.filter_cons, spell0, spellJ, ho, wantW, id0, idJ]
 | 2, _ => cases ho : okW k n h <;> simp [itsW, List.filter_cons, spell0, spellJ, ho, wantW, id0, idJ]
 | 3, _ => cases ho : okW k n h <;> simp [itsW, List.filter_cons, spell0, spellJ, ho, wantW, id0, idJ]
 | 4, _ => cases ho : okW k n h <;> simp [itsW, List.filter_cons, spell0, spellJ, ho, wantW, id0, idJ]
theorem listW {c h : Nat} (hc : c ≤ 4) (hh : h ≤ 4) (k : Int) (n : Nat) {p : Int} (hp : p = 0 ∨ p = 1) : ListT (cdsW k n) (bdW c h) p 6 = tgs (wantW c ++ if okW k n h = true then [1] else []) := by
 have hw : withinB p 0 1 = true := by simp only [withinB, decide_eq_true_eq]; omega
 rw [ListT, if_pos (by rw [hw, bdW_valid hc hh]; rfl), show listT (cdsW k n) (bdW c h) p 6 = tgs (spellsT (cdsW k n) (bdW c h)) from rfl, spellsW hc]
theorem lightW {k : Int} {n : Nat} (hn : n ≤ 4) : lightB (cdsW k n) = true := by
 match n, hn with
 | 0, _ => rfl
 | 1, _ => rfl
 | 2, _ => rfl
 | 3, _ => rfl
 | 4, _ => rfl
theorem gtr_u (a b : Int) : evalPure (.bin .gtr .int) [.int .u8 a, .int .u8 b] = some (.bool (decide (a > b))) := by simp [evalPure, evalBin, evalInt]
theorem geq_u (a b : Int) : evalPure (.bin .geq .int) [.int .u8 a, .int .u8 b] = some (.bool (decide (a ≥ b))) := by simp [evalPure, evalBin, evalInt]
theorem conv_w {n : Int} (h : 0 ≤ n ∧ n ≤ 255) : evalPure (.conv .i64) [.int .u8 n] = some (iV n) := by
 simp only [evalPure]
 rw [wrap_id (by omega) (by omega)]
theorem new5 {H : Heap} {va vc : Value} (ha : Sl H 1 va (ints [0, 1, 1, 1, 1])) (hc : Sl H 1 vc (ints [])) : Triple PP F_zeitnotref15_New [iV 5, .agg #[va, vc]] H [] fun r H' O' => (∃ w, r = .tuple #[.agg (boardC w (newBd 5 [0, 1, 1, 1, 1] [])).toArray, iV 0] ∧ BdS H' w (newBd 5 [0, 1, 1, 1, 1] [])) ∧ O' = [] := by
 refine (r_New 5 ha hc (by simp) (by simp)).mono ?_
 rintro v H' O' _ ⟨rfl, w, rfl, hb⟩
 exact ⟨⟨w, rfl, hb⟩, rfl⟩
def crd1 (k : Int) (x : Value) : List Value := [.string ⟨#[]⟩, iV k, iV 0, iV 0, iV 0, iV 0, iV 0, iV 0, iV 0, iV 0, iV 0, x, .slice none 0 0, iV 0]
theorem cardsW {H : Heap} {r : Nat} {T : TypeId} {k : Int} {n : Nat} {x : Value} (h : H r = some (.cells (crd1 k x ++ crd1 3 (.slice none 0 0)).toArray T (0, 0))) (hx : Sl H 5 x (efRows (List.replicate n ef1))) : CardsS H (.slice (some ⟨r, 0, none⟩) 2 2) (cdsW k n) := by
 have hs : Sl H 14 (.slice (some ⟨r, 0, none⟩) 2 2) [crd1 k x, crd1 3 (.slice none 0 0)] :=
  Sl.of_block (all := [crd1 k x, crd1 3 (.slice none 0 0)]) (m := 2) (n := 2) h (by simp) (by simp [crd1]) (fun row hr => by
   have hr : row = crd1 k x ∨ row = crd1 3 (.slice none 0 0) := by simpa using hr
   rcases hr with rfl | rfl
   ·exact ⟨rfl, rfl, rfl, rfl, rfl, rfl, rfl, rfl, rfl, rfl, rfl, hx.one, rfl, rfl, trivial⟩
   ·exact ⟨rfl, rfl, rfl, rfl, rfl, rfl, rfl, rfl, rfl, rfl, rfl, rfl, rfl, rfl, trivial⟩) (by simp) rfl (by omega)
 refine ⟨_, hs, rfl, fun i r c a b => ?_⟩
 match i with
 | 0 =>
  simp only [List.getElem?_cons_zero, Option.some.injEq, cdsW] at a b
  subst a; subst b
  refine ⟨rfl, ?_, TrigsS.nil H⟩
  have := effs_base hx
  rwa [List.map_replicate] at this
 | 1 =>
  simp only [List.getElem?_cons_succ, List.getElem?_cons_zero, Option.some.injEq, cdsW] at a b
  subst a; subst b
  exact ⟨rfl, EffsS.nil H, TrigsS.nil H⟩
 | i + 2 => simp at a
def itRow0 (s : Value) : List Value := [iV 0, iV 1, iV 0, iV (-1), s]
def itRowJ (j : Int) : List Value := [iV 0, iV j, iV 1, iV (-1), .slice none 0 0]
def stRows (s : Value) : Nat → List (List Value)
 | 0 => [itRow0 s] | 1 => [itRow0 s, itRowJ 2] | 2 => [itRow0 s, itRowJ 2, itRowJ 3] | 3 => [itRow0 s, itRowJ 2, itRowJ 3, itRowJ 4] | _ => [itRow0 s, itRowJ 2, itRowJ 3, itRowJ 4, itRowJ 5]
theorem stackW {H : Heap} {v s : Value} {c h : Nat} (hc : c ≤ 4) (hv : Sl H 5 v (stRows s c)) (hs : Sl H 2 s (List.replicate h [iV 0, iV 0])) : ItsS H v (it0 h :: itsW c) := by
 have h0 : ∃ s', itRow0 s = [iV (it0 h).player, iV (it0 h).id, iV (it0 h).card, iV (it0 h).trig, s'] ∧ Sl H 2 s' ((it0 h).tgs.map Tg.row) := by
  refine ⟨s, rfl, ?_⟩
  show Sl H 2 s ((List.replicate h (⟨0, 0⟩ : Tg)).map Tg.row)
  rw [List.map_replicate]; exact hs
 have hJ : ∀ j, ∃ s', itRowJ j = [iV (itJ j).player, iV (itJ j).id, iV (itJ j).card, iV (itJ j).trig, s'] ∧ Sl H 2 s' ((itJ j).tgs.map Tg.row) := fun j => ⟨_, rfl, Sl.nil H 2⟩
 refine ⟨_, hv, ?_, ?_⟩
 ·match c, hc with
  | 0, _ => rfl
  | 1, _ => rfl
  | 2, _ => rfl
  | 3, _ => rfl
  | 4, _ => rfl
 ·intro i r x a b
  match c, hc, i with
  | 0, _, 0 | 1, _, 0 | 2, _, 0 | 3, _, 0 | 4, _, 0 => simp [stRows] at a b; subst a; subst b; exact h0
  | 1, _, 1 | 2, _, 1 | 3, _, 1 | 4, _, 1 => simp [stRows, itsW] at a b; subst a; subst b; exact hJ _
  | 2, _, 2 | 3, _, 2 | 4, _, 2 => simp [stRows, itsW] at a b; subst a; subst b; exact hJ _
  | 3, _, 3 | 4, _, 3 => simp [stRows, itsW] at a b; subst a; subst b; exact hJ _
  | 4, _, 4 => simp [stRows, itsW] at a b; subst a; subst b; exact hJ _
  | 0, _, i + 1 => simp [stRows] at a
  | 1, _, i + 2 => simp [stRows] at a
  | 2, _, i + 3 => simp [stRows] at a
  | 3, _, i + 4 => simp [stRows] at a
  | 4, _, i + 5 => simp [stRows] at a
theorem bdsW {H : Heap} {w : BV12} (hb : BdS H w (newBd 5 [0, 1, 1, 1, 1] [])) {r : Nat} {T : TypeId} (h5 : H r = some (.cells [iV 5, iV 4, iV 3, iV 2].toArray T (0, 0))) {v s : Value} {c h : Nat} (hc : c ≤ 4) (hv : Sl H 5 v (stRows s c)) (hs : Sl H 2 s (List.replicate h [iV 0, iV 0])) :
  BdS H { w with l0 := .slice (some ⟨r, 0, none⟩) (4 - c) 4, s := v } (bdW c h) := by
 refine ⟨hb.objs, ⟨?_, hb.s0.hand, hb.s0.field, hb.s0.grave⟩, hb.s1, stackW hc hv hs, hb.queue, hb.att, hb.blocks⟩
 have := Sl.of_block (size := 1) (all := ints [5, 4, 3, 2]) (m := 4 - c) (n := 4) h5 rfl (by simp [ints]) (by simp [ints, Ones, Value.oneCell']) (by simp [ints]) rfl (by omega)
 rw [ints, ← List.map_take] at this
 exact this
end Go.Proofs.Ytbaegnnmedjkmaa
