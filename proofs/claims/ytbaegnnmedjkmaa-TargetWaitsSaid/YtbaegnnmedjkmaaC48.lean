/- slices.SortFunc at targets, by their ids: the library's contract, said of own blocks. -/
import Derived.Test.YtbaegnnmedjkmaaKN2
import Derived.Test.YtbaegnnmedjkmaaM17
import Derived.Test.YtbaegnnmedjkmaaSH
namespace Go.Proofs.Ytbaegnnmedjkmaa
open Go Go.Sx
set_option maxRecDepth 100000
set_option maxHeartbeats 1000000
section
open Go.Shelf Go.RowKit Go.Lib Go.Sort
theorem c_byId (x y : Int) (W : World) : Calls Try.prog 53 #[.agg #[.int .i64 x, .int .i64 0], .agg #[.int .i64 y, .int .i64 0]] W fun e w' => e = .returned (.int .i64 (Lib.compareInt x y)) ∧ ∃ q os', w' = grow (W.drewN q) os' := by
 have hcon := fun W' => AnyG.cmp_Compare_int Try.cmpInt x y W'
 change ∀ W', Calls Try.prog 54 _ _ _ at hcon
 generalize Lib.compareInt x y = r at hcon ⊢
 go_enter Try.func53, Try.ntmps53
 go_wp2_with (go_at_call 54; refine (hcon _).mono ?_; rintro e w' ⟨rfl, rfl⟩)
 go_ret
 exact ⟨rfl, 0, _, by rw [alloc_eq_grow, alloc_eq_grow, grow_grow]; rfl⟩
theorem ltId (x y : Int) : ltOf (fun x y : Int => Lib.compareInt x y) x y = decide (x < y) := by
 unfold ltOf Lib.compareInt
 by_cases h1 : x < y
 ·simp [h1]
 ·by_cases h2 : y < x <;> simp [h1, h2]
theorem swoId : SWO (ltOf fun x y : Int => Lib.compareInt x y) where
 irrefl x := by rw [ltId]; simp
 trans x y z h1 h2 := by rw [ltId] at *; simp at *; omega
 ntrans x y z h1 h2 := by rw [ltId] at *; simp at *; omega
theorem merge_sortI {l : List Int} (h : l.Nodup) : (l.mergeSort fun x y => !(ltOf fun x y : Int => Lib.compareInt x y) y x) = sortI l := by
 have hp := List.mergeSort_perm l (fun x y => !(ltOf fun x y : Int => Lib.compareInt x y) y x)
 have hs := List.pairwise_mergeSort (le := fun x y => !(ltOf fun x y : Int => Lib.compareInt x y) y x) (fun a b c h1 h2 => by rw [ltId] at *; simp at *; omega) (fun a b => by rw [ltId, ltId]; simp; omega) l
 have hn : (l.mergeSort fun x y => !(ltOf fun x y : Int => Lib.compareInt x y) y x).Nodup := hp.symm.nodup_iff.1 h
 refine strict_ext ?_ (sortI_sorted h) fun x => ?_
 ·refine List.Pairwise.imp₂ (fun a b h1 h2 => ?_) hs hn
  rw [ltId] at h1
  simp at h1
  omega
 ·rw [hp.mem_iff, (sortI_perm l).mem_iff]
theorem c_Sort {H : Heap} {v : Value} {l : List Int} {O : Own} (h : OSl Ty_api_Target 2 v (l.map encT) O) (hn : l.Nodup) (hlen : l.length ≤ 4000000) :
  Triple PP 52 [v, .func (.func 53) #[] #[]] H O fun r H' O' => r = .tuple #[] ∧ OSl Ty_api_Target 2 v ((sortI l).map encT) O' := by
 rcases h with ⟨⟨a, rfl⟩, hrows, rfl⟩ | ⟨r, cs, cap, rfl, rfl, hcl, hlc, hcap, hl, ho, ht⟩
 ·have hnil : l = [] := by simpa using hrows
  subst hnil
  intro w F hm
  have hcon := AnyF.slices_SortFunc_none Try.sortT a 0 (.func (.func 53) #[] #[]) w
  change Calls PP 52 _ _ _ at hcon
  refine hcon.mono ?_
  rintro _ _ ⟨rfl, rfl⟩
  exact ⟨_, H, [], rfl, ⟨rfl, .inl ⟨⟨a, rfl⟩, rfl, rfl⟩⟩, Heap.le_refl H, hm⟩
 ·intro w F hm
  rw [List.length_map] at hlc ht
  have hfit : l.length * 2 ≤ cs.length := by rw [hcl]; exact Nat.mul_le_mul_right 2 hlc
  have hm' : Models w H ((r, .cells cs.toArray Ty_api_Target (0, 0)) :: F) := by simpa using hm
  obtain ⟨hH, hblk⟩ := Go.Sx.sort_holds hm' ht.symm hfit
  have eg : ∀ args w, (callFunc 53 args).run PP w = .ok (.enter 53 args) w := enters_of Try.func53 (by kernel_rfl) rfl
  have hcon := AnyQ.slices_SortFunc_total Try.sortT 2 Try.isAgg62 Try.sizeOf62 encT (fun _ => rfl) (fun x v hv => by simp [encT] at hv; rcases hv with rfl | rfl <;> rfl) (fun x y => Lib.compareInt x y) swoId 53 #[] r 0 cap l.toArray w eg
   (fun _ _ _ _ x y => c_byId x y _) hH hblk (by simp; omega) (fun x y h1 h2 => by rw [ltId] at h1 h2; simp at h1 h2; omega)
  change Calls PP 52 _ _ _ at hcon
  rw [merge_sortI hn] at hcon
  rw [List.length_map]
  refine hcon.mono ?_
  rintro _ _ ⟨rfl, n, os, rfl⟩
  have hsl : (sortI l).length = l.length := sortI_len l
  have hmm := Go.Sx.sort_models hm' (d := sortI l) (by rw [hsl]; exact hfit) n os
  refine ⟨_, H, [(r, .cells (((sortI l).map encT).flatten ++ cs.drop ((sortI l).length * 2)).toArray Ty_api_Target (0, 0))], rfl, ⟨rfl, .inr ⟨r, ((sortI l).map encT).flatten ++ cs.drop ((sortI l).length * 2), cap, ?_, rfl, ?_, ?_, hcap, ?_, ?_, ?_⟩⟩, Heap.le_refl H, by simpa using hmm⟩
  ·rw [List.length_map, hsl]
  ·rw [List.length_append, List.length_drop, encT_len, hsl, hcl]; omega
  ·rw [List.length_map, hsl]; exact hlc
  ·intro x hx
   obtain ⟨y, _, rfl⟩ := List.mem_map.1 hx
   rfl
  ·intro x hx
   obtain ⟨y, _, rfl⟩ := List.mem_map.1 hx
   exact ⟨rfl, rfl, trivial⟩
  ·rw [List.length_map, ← encT_len, List.take_left]
end
end Go.Proofs.Ytbaegnnmedjkmaa
namespace Go.Proofs.Ytbaegnnmedjkmaa
open Go Go.Sx
set_option maxRecDepth 100000
set_option maxHeartbeats 1000000
def ownT (cs : List Cd) (b : Bd) (p : Int) : List Int := creatP (kindsOf cs) b p
def bothT (cs : List Cd) (b : Bd) (p : Int) : List Int := sortI (ownT cs b p ++ ownT cs b (1 - p))
def spellsT (cs : List Cd) (b : Bd) : List Int := (b.stack.reverse.filter (spellP cs)).map (fun x : It => x.id)
/-- All legal targets of a kind. -/
def listT (cs : List Cd) (b : Bd) (p k : Int) : List Tg :=
 if k = 1 then tgs (bothT cs b p) else if k = 3 then tgs (ownT cs b (1 - p)) else if k = 2 then tgs (ownT cs b p) else if k = 4 then plT p else if k = 5 then plT p ++ tgs (bothT cs b p) else if k = 6 then tgs (spellsT cs b) else []
theorem creatP_len {ks : List Int} {b : Bd} (h : validBd b = true) (p : Int) : (creatP ks b p).length ≤ 1000000 := by
 have := valid_len h
 rw [creatP]
 split
 ·rw [List.length_map]; exact Nat.le_trans (List.length_filter_le _ _) this
 ·simp
theorem creatP_nodup {ks : List Int} {b : Bd} (h : validBd b = true) (p : Int) : (creatP ks b p).Nodup := by
 rw [creatP]
 split
 ·obtain ⟨p1, _, _⟩ := placed_objs (valid_parts h).1
  exact ((ord_pairwise p1).sublist ((List.filter_sublist (l := b.objs)).map _)).imp fun h => by omega
 ·exact List.nodup_nil
theorem creatP_disj {ks : List Int} {b : Bd} (h : validBd b = true) {p q : Int} (hpq : p ≠ q) {x : Int} (h1 : x ∈ creatP ks b p) (h2 : x ∈ creatP ks b q) : False := by
 rw [creatP] at h1 h2
 split at h1
 ·split at h2
  ·obtain ⟨o1, m1, e1⟩ := List.mem_map.1 h1
   obtain ⟨o2, m2, e2⟩ := List.mem_map.1 h2
   obtain ⟨m1, c1⟩ := List.mem_filter.1 m1
   obtain ⟨m2, c2⟩ := List.mem_filter.1 m2
   obtain ⟨k1, g1⟩ := List.mem_iff_getElem?.1 m1
   obtain ⟨k2, g2⟩ := List.mem_iff_getElem?.1 m2
   obtain ⟨_, _, v1, _⟩ := obj_known (valid_parts h).1 g1
   obtain ⟨_, _, v2, _⟩ := obj_known (valid_parts h).1 g2
   rw [e1] at v1
   rw [e2, v1] at v2
   have : k1 = k2 := by omega
   subst this
   rw [g1] at g2
   obtain rfl := Option.some.inj g2
   simp only [isCr, Bool.and_eq_true, beq_iff_eq] at c1 c2
   exact hpq (c1.1.symm.trans c2.1)
  ·simp at h2
 ·simp at h1
theorem both_nodup {cs : List Cd} {b : Bd} (h : validBd b = true) (p : Int) : (ownT cs b p ++ ownT cs b (1 - p)).Nodup := by
 rw [List.nodup_append]
 refine ⟨creatP_nodup h p, creatP_nodup h _, fun x hx y hy e => ?_⟩
 subst e
 exact creatP_disj h (by omega) hx hy
theorem tl_own {H : Heap} {cv : Value} {cs : List Cd} (hk : CardsS H cv cs) {v : BV12} {b : Bd} (h : BdS H v b) (hv : validBd b = true) (p : Int) :
  Triple PP F_target_list [cv, .agg (boardC v b).toArray, iV p, iV 2] H [] fun r _ O' => OSl Ty_api_Target 2 r (tRows (tgs (ownT cs b p))) O' := by
 refine run_target_list (vs := cv :: (boardC v b ++ [iV p, iV 2])) (by kernel_rfl) ⟨hk.one, ones_app (boardC_ones (h.r [])) ⟨rfl, rfl, trivial⟩⟩ ?_
 simp only [T_target_list]
 refine newbox_den fun r0 => ?_
 repeat (first | refine chkN_den ?_ | refine chkV_den ?_)
 refine pure_den _ (eql_eq 2 1) (br_den (fun hb => absurd hb (by decide)) (fun _ => ?_))
 repeat (first | refine chkN_den ?_ | refine chkV_den ?_)
 refine pure_den _ (eql_eq 2 3) (br_den (fun hb => absurd hb (by decide)) (fun _ => ?_))
 repeat (first | refine chkN_den ?_ | refine chkV_den ?_)
 refine pure_den _ (eql_eq 2 2) (br_den (fun _ => ?_) (fun hb => absurd hb (by decide)))
 repeat (first | refine chkN_den ?_ | refine chkV_den ?_)
 refine call_new (c_Creatures hk.kinds h p) ?_
 rintro x H1 _ ⟨hx, rfl⟩ l1
 refine ⟨[x], rfl, ⟨hx.one, trivial⟩, ?_⟩
 have hlen : (ownT cs b p).length ≤ 1000000 := creatP_len hv p
 have hx : Sl H1 1 x (ints (ownT cs b p)) := hx
 generalize ownT cs b p = l at hx hlen
 have xlen : evalPure .len [x] = some (iV l.length) := by have := hx.len; rwa [ints, List.length_map] at this
 repeat (first | refine chkN_den ?_ | refine chkV_den ?_)
 refine pure_den _ xlen ?_
 repeat (first | refine chkN_den ?_ | refine chkV_den ?_)
 refine countY_den l.length (fun i y H' O' => Heap.le H1 H' ∧ OSl Ty_api_Target 2 y (tRows (tgs (l.take i))) O') ⟨Heap.le_refl _, OSl.nil _ _⟩ ?_
 rintro i y H' O' hi - ⟨hle, hy⟩
 repeat (first | refine chkN_den ?_ | refine chkV_den ?_)
 refine pure_den _ (lss_eq _ _) (br_den (fun hb => ?_) (fun hb => ?_))
 ·have hlt : i < l.length := by simpa using hb
  obtain ⟨a, h1, h2, h3, h4⟩ := (hx.le hle).idx (k := .i64) (i := i) (r := [iV l[i]]) (by simp [ints, hlt])
  repeat (first | refine chkN_den ?_ | refine chkV_den ?_)
  refine pure_den _ h1 (load_den h2 h3 h4 (newbox_den fun r1 => ?_))
  repeat (first | refine chkN_den ?_ | refine chkV_den ?_)
  refine call_append (rows := tRows (tgs (l.take i))) (news := [encT l[i]]) (O1 := O') (O2 := []) (e := Ty_api_Target) (size := 2) (bytes := 16) (by kernel_rfl) (by simp) hy (fun Hf _ hf => Sl.block1 (hf _ List.mem_cons_self) rfl ⟨rfl, rfl, trivial⟩) (by rw [tRows_len, tgs_len, List.length_take, List.length_singleton]; omega) (by rw [tRows_len, tgs_len, List.length_take, List.length_singleton]; omega) ?_
  intro v' A' H6 l6 hA'
  repeat (first | refine chkN_den ?_ | refine chkV_den ?_)
  refine pure_den _ (add_one (by omega)) (countY_cont (by simp [Eqs]) hlt ⟨Heap.le_trans hle l6, ?_⟩)
  have e : tRows (tgs (l.take (i + 1))) = tRows (tgs (l.take i)) ++ [encT l[i]] := by
   rw [tRows_tgs, tRows_tgs, List.take_add_one, List.getElem?_eq_getElem hlt, List.map_append]; rfl
  rw [List.append_nil, e]; exact hA'
 ·have hge : l.length ≤ i := by simpa using hb
  rw [List.take_of_length_le hge] at hy
  exact ret_denO hy
theorem tl_other {H : Heap} {cv : Value} {cs : List Cd} (hk : CardsS H cv cs) {v : BV12} {b : Bd} (h : BdS H v b) (hv : validBd b = true) {p : Int} (hp : p = 0 ∨ p = 1) :
  Triple PP F_target_list [cv, .agg (boardC v b).toArray, iV p, iV 3] H [] fun r _ O' => OSl Ty_api_Target 2 r (tRows (tgs (ownT cs b (1 - p)))) O' := by
 refine run_target_list (vs := cv :: (boardC v b ++ [iV p, iV 3])) (by kernel_rfl) ⟨hk.one, ones_app (boardC_ones (h.r [])) ⟨rfl, rfl, trivial⟩⟩ ?_
 simp only [T_target_list]
 refine newbox_den fun r0 => ?_
 repeat (first | refine chkN_den ?_ | refine chkV_den ?_)
 refine pure_den _ (eql_eq 3 1) (br_den (fun hb => absurd hb (by decide)) (fun _ => ?_))
 repeat (first | refine chkN_den ?_ | refine chkV_den ?_)
 refine pure_den _ (eql_eq 3 3) (br_den (fun _ => ?_) (fun hb => absurd hb (by decide)))
 repeat (first | refine chkN_den ?_ | refine chkV_den ?_)
 refine pure_den (iV (1 - p)) (subI (by omega) (by omega)) ?_
 repeat (first | refine chkN_den ?_ | refine chkV_den ?_)
 refine call_new (tl_own hk h hv (1 - p)) fun x H1 O1 hx l1 => ⟨[x], rfl, ⟨hx.one, trivial⟩, ?_⟩
 repeat (first | refine chkN_den ?_ | refine chkV_den ?_)
 exact ret_denO (by rw [List.append_nil]; exact hx)
theorem tl_player {H : Heap} {cv : Value} {cs : List Cd} (hk : CardsS H cv cs) {v : BV12} {b : Bd} (h : BdS H v b) {p : Int} (hp : p = 0 ∨ p = 1) :
  Triple PP F_target_list [cv, .agg (boardC v b).toArray, iV p, iV 4] H [] fun r _ O' => OSl Ty_api_Target 2 r (tRows (plT p)) O' := by
 refine run_target_list (vs := cv :: (boardC v b ++ [iV p, iV 4])) (by kernel_rfl) ⟨hk.one, ones_app (boardC_ones (h.r [])) ⟨rfl, rfl, trivial⟩⟩ ?_
 simp only [T_target_list]
 refine newbox_den fun r0 => ?_
 repeat (first | refine chkN_den ?_ | refine chkV_den ?_)
 refine pure_den _ (eql_eq 4 1) (br_den (fun hb => absurd hb (by decide)) (fun _ => ?_))
 repeat (first | refine chkN_den ?_ | refine chkV_den ?_)
 refine pure_den _ (eql_eq 4 3) (br_den (fun hb => absurd hb (by decide)) (fun _ => ?_))
 repeat (first | refine chkN_den ?_ | refine chkV_den ?_)
 refine pure_den _ (eql_eq 4 2) (br_den (fun hb => absurd hb (by decide)) (fun _ => ?_))
 repeat (first | refine chkN_den ?_ | refine chkV_den ?_)
 refine pure_den _ (eql_eq 4 4) (br_den (fun _ => ?_) (fun hb => absurd hb (by decide)))
 repeat (first | refine chkN_den ?_ | refine chkV_den ?_)
 refine pure_den (iV (1 - p)) (subI (by omega) (by omega)) (newbox_den fun r2 => ?_)
 repeat (first | refine chkN_den ?_ | refine chkV_den ?_)
 exact fun _ => ⟨H, _, Ghost.refl _ _, .inr ⟨r2, [iV 0, iV (1 - p), iV 0, iV p], 2, rfl, rfl, rfl, by simp [tRows, plT], by omega, by simp [tRows, plT, Tg.row], by simp [tRows, plT, Tg.row, Ones, Value.oneCell'], rfl⟩⟩
theorem tl_creature {H : Heap} {cv : Value} {cs : List Cd} (hk : CardsS H cv cs) {v : BV12} {b : Bd} (h : BdS H v b) (hv : validBd b = true) {p : Int} (hp : p = 0 ∨ p = 1) :
  Triple PP F_target_list [cv, .agg (boardC v b).toArray, iV p, iV 1] H [] fun r _ O' => OSl Ty_api_Target 2 r (tRows (tgs (bothT cs b p))) O' := by
 refine run_target_list (vs := cv :: (boardC v b ++ [iV p, iV 1])) (by kernel_rfl) ⟨hk.one, ones_app (boardC_ones (h.r [])) ⟨rfl, rfl, trivial⟩⟩ ?_
 simp only [T_target_list]
 have b1 : (ownT cs b p).length ≤ 1000000 := creatP_len hv p
 have b2 : (ownT cs b (1 - p)).length ≤ 1000000 := creatP_len hv (1 - p)
 refine newbox_den fun r0 => ?_
 repeat (first | refine chkN_den ?_ | refine chkV_den ?_)
 refine pure_den _ (eql_eq 1 1) (br_den (fun _ => ?_) (fun hb => absurd hb (by decide)))
 repeat (first | refine chkN_den ?_ | refine chkV_den ?_)
 refine call_new (tl_own hk h hv p) fun x H1 O1 hx l1 => ⟨[x], rfl, ⟨hx.one, trivial⟩, ?_⟩
 repeat (first | refine chkN_den ?_ | refine chkV_den ?_)
 refine call_new (Triple.frozenS (tl_other (hk.le l1) (h.le l1) hv hp)) ?_
 rintro y H2 _ ⟨hy, rfl⟩ l2
 refine ⟨[y], rfl, ⟨hy.one, trivial⟩, ?_⟩
 repeat (first | refine chkN_den ?_ | refine chkV_den ?_)
 refine call_append (rows := tRows (tgs (ownT cs b p))) (news := tRows (tgs (ownT cs b (1 - p)))) (O1 := O1) (O2 := []) (e := Ty_api_Target) (size := 2) (bytes := 16) (by kernel_rfl) (by simp) hx (fun Hf lf _ => hy.le lf) (by rw [tRows_len, tgs_len, tRows_len, tgs_len]; omega) (by rw [tRows_len, tgs_len, tRows_len, tgs_len]; omega) ?_
 intro z A' H3 l3 hz
 have e : tRows (tgs (ownT cs b p)) ++ tRows (tgs (ownT cs b (1 - p))) = (ownT cs b p ++ ownT cs b (1 - p)).map encT := by rw [tRows_tgs, tRows_tgs, List.map_append]
 rw [e] at hz
 repeat (first | refine chkN_den ?_ | refine chkV_den ?_)
 refine call_part (O1 := A') (O2 := []) (by simp) (c_Sort hz (both_nodup hv p) (by rw [List.length_append]; omega)) ?_
 rintro _ H4 O4 ⟨rfl, hs⟩ l4
 refine ⟨[], rfl, trivial, ?_⟩
 repeat (first | refine chkN_den ?_ | refine chkV_den ?_)
 exact ret_denO (by rw [List.append_nil, tRows_tgs]; exact hs)
theorem tl_either {H : Heap} {cv : Value} {cs : List Cd} (hk : CardsS H cv cs) {v : BV12} {b : Bd} (h : BdS H v b) (hv : validBd b = true) {p : Int} (hp : p = 0 ∨ p = 1) :
  Triple PP F_target_list [cv, .agg (boardC v b).toArray, iV p, iV 5] H [] fun r _ O' => OSl Ty_api_Target 2 r (tRows (plT p ++ tgs (bothT cs b p))) O' := by
 refine run_target_list (vs := cv :: (boardC v b ++ [iV p, iV 5])) (by kernel_rfl) ⟨hk.one, ones_app (boardC_ones (h.r [])) ⟨rfl, rfl, trivial⟩⟩ ?_
 simp only [T_target_list]
 have b1 : (bothT cs b p).length ≤ 2000000 := by
  have b1 : (ownT cs b p).length ≤ 1000000 := creatP_len hv p
  have b2 : (ownT cs b (1 - p)).length ≤ 1000000 := creatP_len hv (1 - p)
  rw [bothT, sortI_len, List.length_append]; omega
 refine newbox_den fun r0 => ?_
 repeat (first | refine chkN_den ?_ | refine chkV_den ?_)
 refine pure_den _ (eql_eq 5 1) (br_den (fun hb => absurd hb (by decide)) (fun _ => ?_))
 repeat (first | refine chkN_den ?_ | refine chkV_den ?_)
 refine pure_den _ (eql_eq 5 3) (br_den (fun hb => absurd hb (by decide)) (fun _ => ?_))
 repeat (first | refine chkN_den ?_ | refine chkV_den ?_)
 refine pure_den _ (eql_eq 5 2) (br_den (fun hb => absurd hb (by decide)) (fun _ => ?_))
 repeat (first | refine chkN_den ?_ | refine chkV_den ?_)
 refine pure_den _ (eql_eq 5 4) (br_den (fun hb => absurd hb (by decide)) (fun _ => ?_))
 repeat (first | refine chkN_den ?_ | refine chkV_den ?_)
 refine pure_den _ (eql_eq 5 5) (br_den (fun _ => ?_) (fun hb => absurd hb (by decide)))
 repeat (first | refine chkN_den ?_ | refine chkV_den ?_)
 refine call_new (tl_player hk h hp) fun x H1 O1 hx l1 => ⟨[x], rfl, ⟨hx.one, trivial⟩, ?_⟩
 repeat (first | refine chkN_den ?_ | refine chkV_den ?_)
 refine call_new (Triple.frozenS (tl_creature (hk.le l1) (h.le l1) hv hp)) ?_
 rintro y H2 _ ⟨hy, rfl⟩ l2
 refine ⟨[y], rfl, ⟨hy.one, trivial⟩, ?_⟩
 repeat (first | refine chkN_den ?_ | refine chkV_den ?_)
 refine call_append (rows := tRows (plT p)) (news := tRows (tgs (bothT cs b p))) (O1 := O1) (O2 := []) (e := Ty_api_Target) (size := 2) (bytes := 16) (by kernel_rfl) (by simp) hx (fun Hf lf _ => hy.le lf) (by rw [tRows_len, tRows_len, tgs_len]; simp only [plT, List.length_cons, List.length_nil]; omega) (by rw [tRows_len, tRows_len, tgs_len]; simp only [plT, List.length_cons, List.length_nil]; omega) ?_
 intro z A' H3 l3 hz
 repeat (first | refine chkN_den ?_ | refine chkV_den ?_)
 exact ret_denO (by rw [List.append_nil, tRows_app]; exact hz)
end Go.Proofs.Ytbaegnnmedjkmaa
namespace Go.Proofs.Ytbaegnnmedjkmaa
open Go Go.Sx
set_option maxRecDepth 100000
set_option maxHeartbeats 1000000
theorem reads_le {H H' : Heap} {O : Own} {p : Value} {m : Nat} {vs : List Value} (h : Reads H O p m vs) (hl : Heap.le H H') : Reads H' O p m vs := h.imp (fun h => hl.read h) id
theorem tl_spell {H : Heap} {cv : Value} {cs : List Cd} (hk : CardsS H cv cs) (hli : lightB cs = true) {v : BV12} {b : Bd} (h : BdS H v b) (hst : b.stack.length ≤ 1000000) (p : Int) :
  Triple PP F_target_list [cv, .agg (boardC v b).toArray, iV p, iV 6] H [] fun r _ O' => OSl Ty_api_Target 2 r (tRows (tgs (spellsT cs b))) O' := by
 refine run_target_list (vs := cv :: (boardC v b ++ [iV p, iV 6])) (by kernel_rfl) ⟨hk.one, ones_app (boardC_ones (h.r [])) ⟨rfl, rfl, trivial⟩⟩ ?_
 simp only [T_target_list]
 refine newbox_den fun r0 => ?_
 repeat (first | refine chkN_den ?_ | refine chkV_den ?_)
 refine pure_den _ (eql_eq 6 1) (br_den (fun hb => absurd hb (by decide)) (fun _ => ?_))
 repeat (first | refine chkN_den ?_ | refine chkV_den ?_)
 refine pure_den _ (eql_eq 6 3) (br_den (fun hb => absurd hb (by decide)) (fun _ => ?_))
 repeat (first | refine chkN_den ?_ | refine chkV_den ?_)
 refine pure_den _ (eql_eq 6 2) (br_den (fun hb => absurd hb (by decide)) (fun _ => ?_))
 repeat (first | refine chkN_den ?_ | refine chkV_den ?_)
 refine pure_den _ (eql_eq 6 4) (br_den (fun hb => absurd hb (by decide)) (fun _ => ?_))
 repeat (first | refine chkN_den ?_ | refine chkV_den ?_)
 refine pure_den _ (eql_eq 6 5) (br_den (fun hb => absurd hb (by decide)) (fun _ => ?_))
 repeat (first | refine chkN_den ?_ | refine chkV_den ?_)
 refine pure_den _ (eql_eq 6 6) (br_den (fun _ => ?_) (fun hb => absurd hb (by decide)))
 have slen : evalPure .len [v.s] = some (iV b.stack.length) := ItsR.len (h.stack.r [])
 have hsb : b.stack.length ≤ 1000000 := hst
 obtain ⟨rows, hrs, hrl, hit⟩ := h.stack
 repeat (first | refine chkN_den ?_ | refine chkV_den ?_)
 refine pure_den _ slen ?_
 repeat (first | refine chkN_den ?_ | refine chkV_den ?_)
 refine pure_den (iV ((b.stack.length : Int) - 1)) (subI (by omega) (by omega)) ?_
 repeat (first | refine chkN_den ?_ | refine chkV_den ?_)
 refine down_den b.stack.length (fun i y H' O' => Heap.le H H' ∧ OSl Ty_api_Target 2 y (tRows (tgs (((b.stack.reverse.take i).filter (spellP cs)).map (fun x : It => x.id)))) O') ⟨Heap.le_refl _, OSl.nil _ _⟩ ?_
 rintro i y H' O' hi - ⟨hle, hy⟩
 repeat (first | refine chkN_den ?_ | refine chkV_den ?_)
 refine pure_den _ (geq_eq _ _) (br_den (fun hb => ?_) (fun hb => ?_))
 ·have hlt : i < b.stack.length := by have := of_decide_eq_true hb; omega
  obtain ⟨j, hjl, hj, hrv⟩ : ∃ (j : Nat) (hjl : j < b.stack.length), (j : Int) = (b.stack.length : Int) - 1 - i ∧ b.stack.reverse[i]'(by simpa using hlt) = b.stack[j] := ⟨b.stack.length - 1 - i, by omega, by omega, rev_get hlt⟩
  have hft := filter_take (p := spellP cs) (l := b.stack.reverse) (i := i) (by simpa using hlt)
  rw [hrv] at hft
  obtain ⟨a, k1, k2, k3, k4, k5⟩ := ((hrs.le hle).rsl O').idx .i64 j (rows[j]'(by omega)) (by simp [hrl, hjl])
  obtain ⟨s, hrow, hs⟩ := hit j (rows[j]'(by omega)) b.stack[j] (by simp [hrl, hjl]) (by simp [hjl])
  have hR : ItR H' [] [iV b.stack[j].player, iV b.stack[j].id, iV b.stack[j].card, iV b.stack[j].trig, s] b.stack[j] := ⟨s, rfl, (hs.le hle).rsl []⟩
  rw [hrow] at k2 k3 k4 k5
  rw [hj] at k1
  have k6 := k3 1 1 (by omega)
  repeat (first | refine chkN_den ?_ | refine chkV_den ?_ | refine chkP_den rfl ?_)
  refine pure_den _ k1 (load_denR k2 k4 k5 ?_)
  repeat (first | refine chkN_den ?_ | refine chkV_den ?_ | refine chkP_den rfl ?_)
  refine call_new0 (c_spell (hk.le hle) hli hR) rfl ⟨rfl, trivial⟩ fun H2 l2 => br_den (fun hc => ?_) (fun hc => ?_)
  ·have hc : spellP cs b.stack[j] = true := hc
   have hlen : ((b.stack.reverse.take i).filter (spellP cs)).length ≤ 1000000 := Nat.le_trans (List.length_filter_le _ _) (by rw [List.length_take, List.length_reverse]; omega)
   repeat (first | refine chkN_den ?_ | refine chkV_den ?_ | refine chkP_den rfl ?_)
   refine pure_den _ k1 ?_
   repeat (first | refine chkN_den ?_ | refine chkV_den ?_ | refine chkP_den rfl ?_)
   refine load_denR (reads_le k6 l2) rfl ⟨rfl, trivial⟩ (newbox_den fun r3 => ?_)
   repeat (first | refine chkN_den ?_ | refine chkV_den ?_ | refine chkP_den rfl ?_)
   refine call_append (rows := tRows (tgs (((b.stack.reverse.take i).filter (spellP cs)).map (fun x : It => x.id)))) (news := [encT b.stack[j].id]) (O1 := O') (O2 := []) (e := Ty_api_Target) (size := 2) (bytes := 16) (by kernel_rfl) (by simp) hy (fun Hf _ hf => Sl.block1 (hf _ List.mem_cons_self) rfl ⟨rfl, rfl, trivial⟩) (by rw [tRows_len, tgs_len, List.length_map, List.length_singleton]; omega) (by rw [tRows_len, tgs_len, List.length_map, List.length_singleton]; omega) ?_
   intro v' A' H6 l6 hA'
   repeat (first | refine chkN_den ?_ | refine chkV_den ?_ | refine chkP_den rfl ?_)
   refine pure_den _ (subI (by omega) (by omega)) (down_cont (by simp [Eqs]) hlt ⟨Heap.le_trans hle (Heap.le_trans l2 l6), ?_⟩)
   have e : tRows (tgs (((b.stack.reverse.take (i + 1)).filter (spellP cs)).map (fun x : It => x.id))) = tRows (tgs (((b.stack.reverse.take i).filter (spellP cs)).map (fun x : It => x.id))) ++ [encT b.stack[j].id] := by
    rw [tRows_tgs, tRows_tgs, hft, if_pos hc, List.map_append, List.map_append]; rfl
   rw [List.append_nil, e]; exact hA'
  ·have hc : spellP cs b.stack[j] = false := hc
   repeat (first | refine chkN_den ?_ | refine chkV_den ?_ | refine chkP_den rfl ?_)
   refine pure_den _ (subI (by omega) (by omega)) (down_cont (by simp [Eqs]) hlt ⟨Heap.le_trans hle l2, ?_⟩)
   rw [hft, if_neg (by rw [hc]; simp), List.append_nil]; exact hy
 ·have hge : b.stack.length ≤ i := by have := of_decide_eq_false hb; omega
  rw [List.take_of_length_le (by rw [List.length_reverse]; exact hge)] at hy
  exact ret_denO hy
theorem tl_none {H : Heap} {cv : Value} {cs : List Cd} (hk : CardsS H cv cs) {v : BV12} {b : Bd} (h : BdS H v b) (p : Int) {k : Int} (h1 : k ≠ 1) (h2 : k ≠ 2) (h3 : k ≠ 3) (h4 : k ≠ 4) (h5 : k ≠ 5) (h6 : k ≠ 6) :
  Triple PP F_target_list [cv, .agg (boardC v b).toArray, iV p, iV k] H [] fun r _ O' => OSl Ty_api_Target 2 r [] O' := by
 refine run_target_list (vs := cv :: (boardC v b ++ [iV p, iV k])) (by kernel_rfl) ⟨hk.one, ones_app (boardC_ones (h.r [])) ⟨rfl, rfl, trivial⟩⟩ ?_
 simp only [T_target_list]
 refine newbox_den fun r0 => ?_
 repeat (first | refine chkN_den ?_ | refine chkV_den ?_)
 refine pure_den _ (eql_eq k 1) (br_den (fun hb => absurd (by simpa using hb) h1) (fun _ => ?_))
 repeat (first | refine chkN_den ?_ | refine chkV_den ?_)
 refine pure_den _ (eql_eq k 3) (br_den (fun hb => absurd (by simpa using hb) h3) (fun _ => ?_))
 repeat (first | refine chkN_den ?_ | refine chkV_den ?_)
 refine pure_den _ (eql_eq k 2) (br_den (fun hb => absurd (by simpa using hb) h2) (fun _ => ?_))
 repeat (first | refine chkN_den ?_ | refine chkV_den ?_)
 refine pure_den _ (eql_eq k 4) (br_den (fun hb => absurd (by simpa using hb) h4) (fun _ => ?_))
 repeat (first | refine chkN_den ?_ | refine chkV_den ?_)
 refine pure_den _ (eql_eq k 5) (br_den (fun hb => absurd (by simpa using hb) h5) (fun _ => ?_))
 repeat (first | refine chkN_den ?_ | refine chkV_den ?_)
 refine pure_den _ (eql_eq k 6) (br_den (fun hb => absurd (by simpa using hb) h6) (fun _ => ?_))
 repeat (first | refine chkN_den ?_ | refine chkV_den ?_)
 exact ret_denO (OSl.nil _ _)
theorem c_tlist {H : Heap} {cv : Value} {cs : List Cd} (hk : CardsS H cv cs) (hli : lightB cs = true) {v : BV12} {b : Bd} (h : BdS H v b) (hst : b.stack.length ≤ 1000000) (hv : validBd b = true) {p : Int} (hp : p = 0 ∨ p = 1) (k : Int) :
  Triple PP F_target_list [cv, .agg (boardC v b).toArray, iV p, iV k] H [] fun r _ O' => OSl Ty_api_Target 2 r (tRows (listT cs b p k)) O' := by
 rw [listT]
 by_cases h1 : k = 1
 ·rw [if_pos h1]; subst h1; exact tl_creature hk h hv hp
 rw [if_neg h1]
 by_cases h3 : k = 3
 ·rw [if_pos h3]; subst h3; exact tl_other hk h hv hp
 rw [if_neg h3]
 by_cases h2 : k = 2
 ·rw [if_pos h2]; subst h2; exact tl_own hk h hv p
 rw [if_neg h2]
 by_cases h4 : k = 4
 ·rw [if_pos h4]; subst h4; exact tl_player hk h hp
 rw [if_neg h4]
 by_cases h5 : k = 5
 ·rw [if_pos h5]; subst h5; exact tl_either hk h hv hp
 rw [if_neg h5]
 by_cases h6 : k = 6
 ·rw [if_pos h6]; subst h6; exact tl_spell hk hli h hst p
 rw [if_neg h6]
 exact tl_none hk h p h1 h2 h3 h4 h5 h6
/-- All legal targets, on any board. -/
def ListT (cs : List Cd) (b : Bd) (p k : Int) : List Tg := if (withinB p 0 1 && validBd b) = true then listT cs b p k else []
theorem ListT_bad {cs : List Cd} {b : Bd} {p k : Int} (h : (withinB p 0 1 && validBd b) = false) : ListT cs b p k = [] := by rw [ListT, h]; rfl
theorem within01 (p : Int) : (decide (p < 0) || decide (p > 1)) = !withinB p 0 1 := by
 rw [withinB, Bool.eq_iff_iff]; simp
theorem c_TList {H : Heap} {cv : Value} {cs : List Cd} (hk : CardsS H cv cs) (hli : lightB cs = true) {v : BV12} {b : Bd} (h : BdS H v b) (hst : b.stack.length ≤ 1000000) (p k : Int) :
  Triple PP F_target_List [cv, .agg (boardC v b).toArray, iV p, iV k] H [] fun r H' O' => Sl H' 2 r (tRows (ListT cs b p k)) ∧ O' = [] := by
 refine Triple.frozenS (e := Ty_api_Target) ?_
 refine run_target_List (vs := cv :: (boardC v b ++ [iV p, iV k])) (by kernel_rfl) ⟨hk.one, ones_app (boardC_ones (h.r [])) ⟨rfl, rfl, trivial⟩⟩ ?_
 simp only [T_target_List]
 refine newbox_den fun r0 => ?_
 repeat (first | refine chkN_den ?_ | refine chkV_den ?_ | refine newbox_den fun _ => ?_ | refine pure_den _ (lss_eq _ _) ?_ | refine pure_den _ (gtr_eq _ _) ?_ | refine pure_den _ (leq_eq _ _) ?_ | refine pure_den _ (geq_eq _ _) ?_ | refine pure_den _ (eql_eq _ _) ?_ | refine pure_den _ (neq_eq _ _) ?_ | refine pure_den _ (pick_and _ _) ?_ | refine pure_den _ (pick_or _ _) ?_ | refine pure_den _ (not_eq' _) ?_ | refine pure_den _ (beql_eq _ _) ?_ | refine pure_den _ (bneq_eq _ _) ?_)
 refine br_den (fun hb => ?_) (fun hb => ?_)
 ·have hb : (decide (p < 0) || decide (p > 1)) = true := hb
  rw [within01] at hb
  rw [ListT_bad (by rw [show withinB p 0 1 = false from notT hb, Bool.false_and])]
  repeat (first | refine chkN_den ?_ | refine chkV_den ?_)
  exact ret_denO (OSl.nil _ _)
 ·have hb : (decide (p < 0) || decide (p > 1)) = false := hb
  rw [within01] at hb
  have hw : withinB p 0 1 = true := notF hb
  have hp : p = 0 ∨ p = 1 := by simp only [withinB, decide_eq_true_eq] at hw; omega
  repeat (first | refine chkN_den ?_ | refine chkV_den ?_)
  refine call_retO (c_board_Valid (h.r [])) rfl ⟨rfl, trivial⟩ fun H2 l2 => pure_den _ (not_eq' _) (br_den (fun hc => ?_) (fun hc => ?_))
  ·rw [ListT_bad (by rw [show validBd b = false from notT hc, Bool.and_false])]
   repeat (first | refine chkN_den ?_ | refine chkV_den ?_)
   exact ret_denO (OSl.nil _ _)
  ·have hv : validBd b = true := notF hc
   have e : ListT cs b p k = listT cs b p k := by rw [ListT, if_pos (by rw [hw, hv]; rfl)]
   rw [e]
   repeat (first | refine chkN_den ?_ | refine chkV_den ?_)
   refine call_new (c_tlist (hk.le l2) hli (h.le l2) hst hv hp k) fun x H3 O3 hx l3 => ⟨[x], rfl, ⟨hx.one, trivial⟩, ?_⟩
   repeat (first | refine chkN_den ?_ | refine chkV_den ?_)
   exact ret_denO (by rw [List.append_nil]; exact hx)
end Go.Proofs.Ytbaegnnmedjkmaa
