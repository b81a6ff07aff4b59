/- slices.SortFunc at targets, by their ids: the library's contract, said of own blocks. -/
import Derived.Test.YtdhobpmnkfmcfaaGreatDoorC32
import Derived.Test.YtdhobpmnkfmcfaaGreatDoorM17
import Derived.Test.YtdhobpmnkfmcfaaGreatDoorSH
namespace Go.Proofs.YtdhobpmnkfmcfaaGreatDoor
open Go Go.Sx
set_option maxRecDepth 100000
set_option maxHeartbeats 1000000
section
open Go.Shelf Go.RowKit Go.Lib Go.Sort
theorem OV (x y : Int) (W : World) : Calls Tryz.prog 158 #[.agg #[.int .i64 x, .int .i64 0], .agg #[.int .i64 y, .int .i64 0]] W fun e w' => e = .returned (.int .i64 (Lib.compareInt x y)) ∧ ∃ q os', w' = grow (W.drewN q) os' := by
 have hcon := fun W' => AnyG.cmp_Compare_int Tryz.cmpInt x y W'
 change ∀ W', Calls Tryz.prog 159 _ _ _ at hcon
 generalize Lib.compareInt x y = r at hcon ⊢
 go_enter Tryz.func158, Tryz.ntmps158
 go_wp2_with (go_at_call 159; refine (hcon _).mono ?_; rintro e w' ⟨rfl, rfl⟩)
 go_ret
 exact ⟨rfl, 0, _, by rw [alloc_eq_grow, alloc_eq_grow, grow_grow]; rfl⟩
theorem LC (x y : Int) : ltOf (fun x y : Int => Lib.compareInt x y) x y = decide (x < y) := by
 unfold ltOf Lib.compareInt
 by_cases h1 : x < y
 ·simp [h1]
 ·by_cases h2 : y < x <;> simp [h1, h2]
theorem PO : SWO (ltOf fun x y : Int => Lib.compareInt x y) where
 irrefl x := by rw [LC]; simp
 trans x y z h1 h2 := by rw [LC] at *; simp at *; omega
 ntrans x y z h1 h2 := by rw [LC] at *; simp at *; omega
theorem Dw {l : List Int} (h : l.Nodup) : (l.mergeSort fun x y => !(ltOf fun x y : Int => Lib.compareInt x y) y x) = uU l := by
 have hp := List.mergeSort_perm l (fun x y => !(ltOf fun x y : Int => Lib.compareInt x y) y x)
 have hs := List.pairwise_mergeSort (le := fun x y => !(ltOf fun x y : Int => Lib.compareInt x y) y x) (fun a b c h1 h2 => by rw [LC] at *; simp at *; omega) (fun a b => by rw [LC, LC]; simp; omega) l
 have hn : (l.mergeSort fun x y => !(ltOf fun x y : Int => Lib.compareInt x y) y x).Nodup := hp.symm.nodup_iff.1 h
 refine yB ?_ (AL h) fun x => ?_
 ·refine List.Pairwise.imp₂ (fun a b h1 h2 => ?_) hs hn
  rw [LC] at h1
  simp at h1
  omega
 ·rw [hp.mem_iff, (sX l).mem_iff]
theorem OX {H : Heap} {v : Value} {l : List Int} {O : Own} (h : OSl az 2 v (l.map nr) O) (hn : l.Nodup) (hlen : l.length ≤ 4000000) :
  Triple PP 157 [v, .func (.func 158) #[] #[]] H O fun r H' O' => r = .tuple #[] ∧ OSl az 2 v ((uU l).map nr) O' := by
 rcases h with ⟨⟨a, rfl⟩, hrows, rfl⟩ | ⟨r, cs, cap, rfl, rfl, hcl, hlc, hcap, hl, ho, ht⟩
 ·have hnil : l = [] := by simpa using hrows
  subst hnil
  intro w F hm
  have hcon := AnyF.slices_SortFunc_none Tryz.sortT a 0 (.func (.func 158) #[] #[]) w
  change Calls PP 157 _ _ _ at hcon
  refine hcon.mono ?_
  rintro _ _ ⟨rfl, rfl⟩
  exact ⟨_, H, [], rfl, ⟨rfl, .inl ⟨⟨a, rfl⟩, rfl, rfl⟩⟩, Heap.le_refl H, hm⟩
 ·intro w F hm
  rw [List.length_map] at hlc ht
  have hfit : l.length * 2 ≤ cs.length := by rw [hcl]; exact Nat.mul_le_mul_right 2 hlc
  have hm' : Models w H ((r, .cells cs.toArray az (0, 0)) :: F) := by simpa using hm
  obtain ⟨hH, hblk⟩ := Go.Sx.sort_holds hm' ht.symm hfit
  have eg : ∀ args w, (callFunc 158 args).run PP w = .ok (.enter 158 args) w := enters_of Tryz.func158 (by kernel_rfl) rfl
  have hcon := AnyQ.slices_SortFunc_total Tryz.sortT 2 Tryz.isAgg41 Tryz.sizeOf41 nr (fun _ => rfl) (fun x v hv => by simp [nr] at hv; rcases hv with rfl | rfl <;> rfl) (fun x y => Lib.compareInt x y) PO 158 #[] r 0 cap l.toArray w eg
   (fun _ _ _ _ x y => OV x y _) hH hblk (by simp; omega) (fun x y h1 h2 => by rw [LC] at h1 h2; simp at h1 h2; omega)
  change Calls PP 157 _ _ _ at hcon
  rw [Dw hn] at hcon
  rw [List.length_map]
  refine hcon.mono ?_
  rintro _ _ ⟨rfl, n, os, rfl⟩
  have hsl : (uU l).length = l.length := AM l
  have hmm := Go.Sx.sort_models hm' (d := uU l) (by rw [hsl]; exact hfit) n os
  refine ⟨_, H, [(r, .cells (((uU l).map nr).flatten ++ cs.drop ((uU l).length * 2)).toArray az (0, 0))], rfl, ⟨rfl, .inr ⟨r, ((uU l).map nr).flatten ++ cs.drop ((uU l).length * 2), cap, ?_, rfl, ?_, ?_, hcap, ?_, ?_, ?_⟩⟩, Heap.le_refl H, by simpa using hmm⟩
  ·rw [List.length_map, hsl]
  ·rw [List.length_append, List.length_drop, pj, hsl, hcl]; omega
  ·rw [List.length_map, hsl]; exact hlc
  ·intro x hx
   obtain ⟨y, _, rfl⟩ := List.mem_map.1 hx
   rfl
  ·intro x hx
   obtain ⟨y, _, rfl⟩ := List.mem_map.1 hx
   exact ⟨rfl, rfl, trivial⟩
  ·rw [List.length_map, ← pj, List.take_left]
end
def vy (cs : List Cd) (b : Bd) (p : Int) : List Int := ia (wU cs) b p
def yy (cs : List Cd) (b : Bd) (p : Int) : List Int := uU (vy cs b p ++ vy cs b (1 - p))
def Ho (cs : List Cd) (b : Bd) : List Int := (b.stack.reverse.filter (lj cs)).map (fun x : It => x.id)
def Im (cs : List Cd) (b : Bd) (p k : Int) : List Tg :=
 if k = 1 then tgs (yy cs b p) else if k = 3 then tgs (vy cs b (1 - p)) else if k = 2 then tgs (vy cs b p) else if k = 4 then plT p else if k = 5 then plT p ++ tgs (yy cs b p) else if k = 6 then tgs (Ho cs b) else []
theorem lM {ks : List Int} {b : Bd} (h : al b = true) (p : Int) : (ia ks b p).length ≤ 1000000 := by
 have := rf h
 rw [ia]
 split
 ·rw [List.length_map]; exact Nat.le_trans (List.length_filter_le _ _) this
 ·simp
theorem uy {ks : List Int} {b : Bd} (h : al b = true) (p : Int) : (ia ks b p).Nodup := by
 rw [ia]
 split
 ·obtain ⟨p1, _, _⟩ := fq (aJ h).1
  exact ((ku p1).sublist ((List.filter_sublist (l := b.objs)).map _)).imp fun h => by omega
 ·exact List.nodup_nil
theorem DR {ks : List Int} {b : Bd} (h : al b = true) {p q : Int} (hpq : p ≠ q) {x : Int} (h1 : x ∈ ia ks b p) (h2 : x ∈ ia ks b q) : False := by
 rw [ia] at h1 h2
 split at h1
 ·split at h2
  ·obtain ⟨o1, m1, e1⟩ := List.mem_map.1 h1
   obtain ⟨o2, m2, e2⟩ := List.mem_map.1 h2
   obtain ⟨m1, c1⟩ := List.mem_filter.1 m1
   obtain ⟨m2, c2⟩ := List.mem_filter.1 m2
   obtain ⟨k1, g1⟩ := List.mem_iff_getElem?.1 m1
   obtain ⟨k2, g2⟩ := List.mem_iff_getElem?.1 m2
   obtain ⟨_, _, v1, _⟩ := dN (aJ h).1 g1
   obtain ⟨_, _, v2, _⟩ := dN (aJ h).1 g2
   rw [e1] at v1
   rw [e2, v1] at v2
   have : k1 = k2 := by omega
   subst this
   rw [g1] at g2
   obtain rfl := Option.some.inj g2
   simp only [vn, Bool.and_eq_true, beq_iff_eq] at c1 c2
   exact hpq (c1.1.symm.trans c2.1)
  ·simp at h2
 ·simp at h1
theorem GA {cs : List Cd} {b : Bd} (h : al b = true) (p : Int) : (vy cs b p ++ vy cs b (1 - p)).Nodup := by
 rw [List.nodup_append]
 refine ⟨uy h p, uy h _, fun x hx y hy e => ?_⟩
 subst e
 exact DR h (by omega) hx hy
theorem GW {H : Heap} {cv : Value} {cs : List Cd} (hk : CardsS H cv cs) {v : dr} {b : Bd} (h : BdS H v b) (hv : al b = true) (p : Int) :
  Triple PP cZ [cv, .agg (am v b).toArray, iV p, iV 2] H [] fun r _ O' => OSl az 2 r (cO (tgs (vy cs b p))) O' := by
 refine dw (vs := cv :: (am v b ++ [iV p, iV 2])) (by kernel_rfl) ⟨hk.one, ar (an (h.r [])) ⟨rfl, rfl, trivial⟩⟩ ?_
 simp only [dR]
 refine ae fun r0 => ?_
 refine ab _ (aA 2 1) (ak (fun hb => absurd hb (by decide)) (fun _ => ?_))
 refine ab _ (aA 2 3) (ak (fun hb => absurd hb (by decide)) (fun _ => ?_))
 refine ab _ (aA 2 2) (ak (fun _ => ?_) (fun hb => absurd hb (by decide)))
 refine aa ?_
 refine ao (D3 hk.kinds h p) ?_
 rintro x H1 _ ⟨hx, rfl⟩ l1
 refine ⟨[x], rfl, ⟨hx.one, trivial⟩, ?_⟩
 have hlen : (vy cs b p).length ≤ 1000000 := lM hv p
 have hx : Sl H1 1 x (aF (vy cs b p)) := hx
 generalize vy cs b p = l at hx hlen
 have xlen : aj .len [x] = some (iV l.length) := by have := hx.len; rwa [aF, List.length_map] at this
 refine ab _ xlen ?_
 refine iq l.length (fun i y H' O' => Heap.le H1 H' ∧ OSl az 2 y (cO (tgs (l.take i))) O') ⟨Heap.le_refl _, OSl.nil _ _⟩ ?_
 rintro i y H' O' hi - ⟨hle, hy⟩
 refine ab _ (aN _ _) (ak (fun hb => ?_) (fun hb => ?_))
 ·have hlt : i < l.length := by simpa using hb
  obtain ⟨a, h1, h2, h3, h4⟩ := (hx.le hle).idx (k := .i64) (i := i) (r := [iV l[i]]) (by simp [aF, hlt])
  refine ab _ h1 (fL h2 h3 h4 (ae fun r1 => ?_))
  refine ay (rows := cO (tgs (l.take i))) (news := [nr l[i]]) (O1 := O') (O2 := []) (e := az) (size := 2) (bytes := 16) (by kernel_rfl) (by simp) hy (fun Hf _ hf => Sl.block1 (hf _ List.mem_cons_self) rfl ⟨rfl, rfl, trivial⟩) (by rw [cA, kQ, List.length_take, List.length_singleton]; omega) (by rw [cA, kQ, List.length_take, List.length_singleton]; omega) ?_
  intro v' A' H6 l6 hA'
  refine ab _ (aD (by omega)) (bf (by simp [Eqs]) hlt ⟨Heap.le_trans hle l6, ?_⟩)
  have e : cO (tgs (l.take (i + 1))) = cO (tgs (l.take i)) ++ [nr l[i]] := by
   rw [jH, jH, List.take_add_one, List.getElem?_eq_getElem hlt, List.map_append]; rfl
  rw [List.append_nil, e]; exact hA'
 ·have hge : l.length ≤ i := by simpa using hb
  rw [List.take_of_length_le hge] at hy
  exact ah hy
theorem Ek {H : Heap} {cv : Value} {cs : List Cd} (hk : CardsS H cv cs) {v : dr} {b : Bd} (h : BdS H v b) (hv : al b = true) {p : Int} (hp : p = 0 ∨ p = 1) :
  Triple PP cZ [cv, .agg (am v b).toArray, iV p, iV 3] H [] fun r _ O' => OSl az 2 r (cO (tgs (vy cs b (1 - p)))) O' := by
 refine dw (vs := cv :: (am v b ++ [iV p, iV 3])) (by kernel_rfl) ⟨hk.one, ar (an (h.r [])) ⟨rfl, rfl, trivial⟩⟩ ?_
 simp only [dR]
 refine ae fun r0 => ?_
 refine ab _ (aA 3 1) (ak (fun hb => absurd hb (by decide)) (fun _ => ?_))
 refine ab _ (aA 3 3) (ak (fun _ => ?_) (fun hb => absurd hb (by decide)))
 refine aa ?_
 refine ab (iV (1 - p)) (JA (by omega) (by omega)) ?_
 refine ao (GW hk h hv (1 - p)) fun x H1 O1 hx l1 => ⟨[x], rfl, ⟨hx.one, trivial⟩, ?_⟩
 exact ah (by rw [List.append_nil]; exact hx)
theorem AH {H : Heap} {cv : Value} {cs : List Cd} (hk : CardsS H cv cs) {v : dr} {b : Bd} (h : BdS H v b) {p : Int} (hp : p = 0 ∨ p = 1) :
  Triple PP cZ [cv, .agg (am v b).toArray, iV p, iV 4] H [] fun r _ O' => OSl az 2 r (cO (plT p)) O' := by
 refine dw (vs := cv :: (am v b ++ [iV p, iV 4])) (by kernel_rfl) ⟨hk.one, ar (an (h.r [])) ⟨rfl, rfl, trivial⟩⟩ ?_
 simp only [dR]
 refine ae fun r0 => ?_
 refine ab _ (aA 4 1) (ak (fun hb => absurd hb (by decide)) (fun _ => ?_))
 refine ab _ (aA 4 3) (ak (fun hb => absurd hb (by decide)) (fun _ => ?_))
 refine ab _ (aA 4 2) (ak (fun hb => absurd hb (by decide)) (fun _ => ?_))
 refine ab _ (aA 4 4) (ak (fun _ => ?_) (fun hb => absurd hb (by decide)))
 refine ab (iV (1 - p)) (JA (by omega) (by omega)) (ae fun r2 => ?_)
 exact fun _ => ⟨H, _, Ghost.refl _ _, .inr ⟨r2, [iV 0, iV (1 - p), iV 0, iV p], 2, rfl, rfl, rfl, by simp [cO, plT], by omega, by simp [cO, plT, Tg.row], by simp [cO, plT, Tg.row, Ones, Value.oneCell'], rfl⟩⟩
theorem vK {H : Heap} {cv : Value} {cs : List Cd} (hk : CardsS H cv cs) {v : dr} {b : Bd} (h : BdS H v b) (hv : al b = true) {p : Int} (hp : p = 0 ∨ p = 1) :
  Triple PP cZ [cv, .agg (am v b).toArray, iV p, iV 1] H [] fun r _ O' => OSl az 2 r (cO (tgs (yy cs b p))) O' := by
 refine dw (vs := cv :: (am v b ++ [iV p, iV 1])) (by kernel_rfl) ⟨hk.one, ar (an (h.r [])) ⟨rfl, rfl, trivial⟩⟩ ?_
 simp only [dR]
 have b1 : (vy cs b p).length ≤ 1000000 := lM hv p
 have b2 : (vy cs b (1 - p)).length ≤ 1000000 := lM hv (1 - p)
 refine ae fun r0 => ?_
 refine ab _ (aA 1 1) (ak (fun _ => ?_) (fun hb => absurd hb (by decide)))
 refine aa (aa ?_)
 refine ao (GW hk h hv p) fun x H1 O1 hx l1 => ⟨[x], rfl, ⟨hx.one, trivial⟩, ?_⟩
 refine ao (Triple.frozenS (Ek (hk.le l1) (h.le l1) hv hp)) ?_
 rintro y H2 _ ⟨hy, rfl⟩ l2
 refine ⟨[y], rfl, ⟨hy.one, trivial⟩, ?_⟩
 refine ay (rows := cO (tgs (vy cs b p))) (news := cO (tgs (vy cs b (1 - p)))) (O1 := O1) (O2 := []) (e := az) (size := 2) (bytes := 16) (by kernel_rfl) (by simp) hx (fun Hf lf _ => hy.le lf) (by rw [cA, kQ, cA, kQ]; omega) (by rw [cA, kQ, cA, kQ]; omega) ?_
 intro z A' H3 l3 hz
 have e : cO (tgs (vy cs b p)) ++ cO (tgs (vy cs b (1 - p))) = (vy cs b p ++ vy cs b (1 - p)).map nr := by rw [jH, jH, List.map_append]
 rw [e] at hz
 refine lO (O1 := A') (O2 := []) (by simp) (OX hz (GA hv p) (by rw [List.length_append]; omega)) ?_
 rintro _ H4 O4 ⟨rfl, hs⟩ l4
 refine ⟨[], rfl, trivial, ?_⟩
 exact ah (by rw [List.append_nil, jH]; exact hs)
theorem GX {H : Heap} {cv : Value} {cs : List Cd} (hk : CardsS H cv cs) {v : dr} {b : Bd} (h : BdS H v b) (hv : al b = true) {p : Int} (hp : p = 0 ∨ p = 1) :
  Triple PP cZ [cv, .agg (am v b).toArray, iV p, iV 5] H [] fun r _ O' => OSl az 2 r (cO (plT p ++ tgs (yy cs b p))) O' := by
 refine dw (vs := cv :: (am v b ++ [iV p, iV 5])) (by kernel_rfl) ⟨hk.one, ar (an (h.r [])) ⟨rfl, rfl, trivial⟩⟩ ?_
 simp only [dR]
 have b1 : (yy cs b p).length ≤ 2000000 := by
  have b1 : (vy cs b p).length ≤ 1000000 := lM hv p
  have b2 : (vy cs b (1 - p)).length ≤ 1000000 := lM hv (1 - p)
  rw [yy, AM, List.length_append]; omega
 refine ae fun r0 => ?_
 refine ab _ (aA 5 1) (ak (fun hb => absurd hb (by decide)) (fun _ => ?_))
 refine ab _ (aA 5 3) (ak (fun hb => absurd hb (by decide)) (fun _ => ?_))
 refine ab _ (aA 5 2) (ak (fun hb => absurd hb (by decide)) (fun _ => ?_))
 refine ab _ (aA 5 4) (ak (fun hb => absurd hb (by decide)) (fun _ => ?_))
 refine ab _ (aA 5 5) (ak (fun _ => ?_) (fun hb => absurd hb (by decide)))
 refine aa (aa ?_)
 refine ao (AH hk h hp) fun x H1 O1 hx l1 => ⟨[x], rfl, ⟨hx.one, trivial⟩, ?_⟩
 refine ao (Triple.frozenS (vK (hk.le l1) (h.le l1) hv hp)) ?_
 rintro y H2 _ ⟨hy, rfl⟩ l2
 refine ⟨[y], rfl, ⟨hy.one, trivial⟩, ?_⟩
 refine ay (rows := cO (plT p)) (news := cO (tgs (yy cs b p))) (O1 := O1) (O2 := []) (e := az) (size := 2) (bytes := 16) (by kernel_rfl) (by simp) hx (fun Hf lf _ => hy.le lf) (by rw [cA, cA, kQ]; simp only [plT, List.length_cons, List.length_nil]; omega) (by rw [cA, cA, kQ]; simp only [plT, List.length_cons, List.length_nil]; omega) ?_
 intro z A' H3 l3 hz
 exact ah (by rw [List.append_nil, He]; exact hz)
theorem JY {H H' : Heap} {O : Own} {p : Value} {m : Nat} {vs : List Value} (h : Reads H O p m vs) (hl : Heap.le H H') : Reads H' O p m vs := h.imp (fun h => hl.read h) id
theorem JK {H : Heap} {cv : Value} {cs : List Cd} (hk : CardsS H cv cs) (hli : fu cs = true) {v : dr} {b : Bd} (h : BdS H v b) (hst : b.stack.length ≤ 1000000) (p : Int) :
  Triple PP cZ [cv, .agg (am v b).toArray, iV p, iV 6] H [] fun r _ O' => OSl az 2 r (cO (tgs (Ho cs b))) O' := by
 refine dw (vs := cv :: (am v b ++ [iV p, iV 6])) (by kernel_rfl) ⟨hk.one, ar (an (h.r [])) ⟨rfl, rfl, trivial⟩⟩ ?_
 simp only [dR]
 refine ae fun r0 => ?_
 refine ab _ (aA 6 1) (ak (fun hb => absurd hb (by decide)) (fun _ => ?_))
 refine ab _ (aA 6 3) (ak (fun hb => absurd hb (by decide)) (fun _ => ?_))
 refine ab _ (aA 6 2) (ak (fun hb => absurd hb (by decide)) (fun _ => ?_))
 refine ab _ (aA 6 4) (ak (fun hb => absurd hb (by decide)) (fun _ => ?_))
 refine ab _ (aA 6 5) (ak (fun hb => absurd hb (by decide)) (fun _ => ?_))
 refine ab _ (aA 6 6) (ak (fun _ => ?_) (fun hb => absurd hb (by decide)))
 have slen : aj .len [v.s] = some (iV b.stack.length) := ItsR.len (h.stack.r [])
 have hsb : b.stack.length ≤ 1000000 := hst
 obtain ⟨rows, hrs, hrl, hit⟩ := h.stack
 refine aa ?_
 refine ab _ slen ?_
 refine ab (iV ((b.stack.length : Int) - 1)) (JA (by omega) (by omega)) ?_
 refine KJ b.stack.length (fun i y H' O' => Heap.le H H' ∧ OSl az 2 y (cO (tgs (((b.stack.reverse.take i).filter (lj cs)).map (fun x : It => x.id)))) O') ⟨Heap.le_refl _, OSl.nil _ _⟩ ?_
 rintro i y H' O' hi - ⟨hle, hy⟩
 refine ab _ (eK _ _) (ak (fun hb => ?_) (fun hb => ?_))
 ·have hlt : i < b.stack.length := by have := of_decide_eq_true hb; omega
  obtain ⟨j, hjl, hj, hrv⟩ : ∃ (j : Nat) (hjl : j < b.stack.length), (j : Int) = (b.stack.length : Int) - 1 - i ∧ b.stack.reverse[i]'(by simpa using hlt) = b.stack[j] := ⟨b.stack.length - 1 - i, by omega, by omega, MG hlt⟩
  have hft := jQ (p := lj cs) (l := b.stack.reverse) (i := i) (by simpa using hlt)
  rw [hrv] at hft
  obtain ⟨a, k1, k2, k3, k4, k5⟩ := ((hrs.le hle).rsl O').idx .i64 j (rows[j]'(by omega)) (by simp [hrl, hjl])
  obtain ⟨s, hrow, hs⟩ := hit j (rows[j]'(by omega)) b.stack[j] (by simp [hrl, hjl]) (by simp [hjl])
  have hR : ItR H' [] [iV b.stack[j].player, iV b.stack[j].id, iV b.stack[j].card, iV b.stack[j].trig, s] b.stack[j] := ⟨s, rfl, (hs.le hle).rsl []⟩
  rw [hrow] at k2 k3 k4 k5
  rw [hj] at k1
  have k6 := k3 1 1 (by omega)
  refine aa ?_
  refine ab _ k1 (ax k2 k4 k5 ?_)
  refine I9 (NI (hk.le hle) hli hR) rfl ⟨rfl, trivial⟩ fun H2 l2 => ak (fun hc => ?_) (fun hc => ?_)
  ·have hc : lj cs b.stack[j] = true := hc
   have hlen : ((b.stack.reverse.take i).filter (lj cs)).length ≤ 1000000 := Nat.le_trans (List.length_filter_le _ _) (by rw [List.length_take, List.length_reverse]; omega)
   refine aa ?_
   refine ab _ k1 ?_
   refine aH rfl ?_
   refine ax (JY k6 l2) rfl ⟨rfl, trivial⟩ (ae fun r3 => ?_)
   refine ay (rows := cO (tgs (((b.stack.reverse.take i).filter (lj cs)).map (fun x : It => x.id)))) (news := [nr b.stack[j].id]) (O1 := O') (O2 := []) (e := az) (size := 2) (bytes := 16) (by kernel_rfl) (by simp) hy (fun Hf _ hf => Sl.block1 (hf _ List.mem_cons_self) rfl ⟨rfl, rfl, trivial⟩) (by rw [cA, kQ, List.length_map, List.length_singleton]; omega) (by rw [cA, kQ, List.length_map, List.length_singleton]; omega) ?_
   intro v' A' H6 l6 hA'
   refine ab _ (JA (by omega) (by omega)) (B2 (by simp [Eqs]) hlt ⟨Heap.le_trans hle (Heap.le_trans l2 l6), ?_⟩)
   have e : cO (tgs (((b.stack.reverse.take (i + 1)).filter (lj cs)).map (fun x : It => x.id))) = cO (tgs (((b.stack.reverse.take i).filter (lj cs)).map (fun x : It => x.id))) ++ [nr b.stack[j].id] := by
    rw [jH, jH, hft, if_pos hc, List.map_append, List.map_append]; rfl
   rw [List.append_nil, e]; exact hA'
  ·have hc : lj cs b.stack[j] = false := hc
   refine ab _ (JA (by omega) (by omega)) (B2 (by simp [Eqs]) hlt ⟨Heap.le_trans hle l2, ?_⟩)
   rw [hft, if_neg (by rw [hc]; simp), List.append_nil]; exact hy
 ·have hge : b.stack.length ≤ i := by have := of_decide_eq_false hb; omega
  rw [List.take_of_length_le (by rw [List.length_reverse]; exact hge)] at hy
  exact ah hy
theorem LX {H : Heap} {cv : Value} {cs : List Cd} (hk : CardsS H cv cs) {v : dr} {b : Bd} (h : BdS H v b) (p : Int) {k : Int} (h1 : k ≠ 1) (h2 : k ≠ 2) (h3 : k ≠ 3) (h4 : k ≠ 4) (h5 : k ≠ 5) (h6 : k ≠ 6) :
  Triple PP cZ [cv, .agg (am v b).toArray, iV p, iV k] H [] fun r _ O' => OSl az 2 r [] O' := by
 refine dw (vs := cv :: (am v b ++ [iV p, iV k])) (by kernel_rfl) ⟨hk.one, ar (an (h.r [])) ⟨rfl, rfl, trivial⟩⟩ ?_
 simp only [dR]
 refine ae fun r0 => ?_
 refine ab _ (aA k 1) (ak (fun hb => absurd (by simpa using hb) h1) (fun _ => ?_))
 refine ab _ (aA k 3) (ak (fun hb => absurd (by simpa using hb) h3) (fun _ => ?_))
 refine ab _ (aA k 2) (ak (fun hb => absurd (by simpa using hb) h2) (fun _ => ?_))
 refine ab _ (aA k 4) (ak (fun hb => absurd (by simpa using hb) h4) (fun _ => ?_))
 refine ab _ (aA k 5) (ak (fun hb => absurd (by simpa using hb) h5) (fun _ => ?_))
 refine ab _ (aA k 6) (ak (fun hb => absurd (by simpa using hb) h6) (fun _ => ?_))
 exact ah (OSl.nil _ _)
theorem NH {H : Heap} {cv : Value} {cs : List Cd} (hk : CardsS H cv cs) (hli : fu cs = true) {v : dr} {b : Bd} (h : BdS H v b) (hst : b.stack.length ≤ 1000000) (hv : al b = true) {p : Int} (hp : p = 0 ∨ p = 1) (k : Int) :
  Triple PP cZ [cv, .agg (am v b).toArray, iV p, iV k] H [] fun r _ O' => OSl az 2 r (cO (Im cs b p k)) O' := by
 rw [Im]
 by_cases h1 : k = 1
 ·rw [if_pos h1]; subst h1; exact vK hk h hv hp
 rw [if_neg h1]
 by_cases h3 : k = 3
 ·rw [if_pos h3]; subst h3; exact Ek hk h hv hp
 rw [if_neg h3]
 by_cases h2 : k = 2
 ·rw [if_pos h2]; subst h2; exact GW hk h hv p
 rw [if_neg h2]
 by_cases h4 : k = 4
 ·rw [if_pos h4]; subst h4; exact AH hk h hp
 rw [if_neg h4]
 by_cases h5 : k = 5
 ·rw [if_pos h5]; subst h5; exact GX hk h hv hp
 rw [if_neg h5]
 by_cases h6 : k = 6
 ·rw [if_pos h6]; subst h6; exact JK hk hli h hst p
 rw [if_neg h6]
 exact LX hk h p h1 h2 h3 h4 h5 h6
def Ee (cs : List Cd) (b : Bd) (p k : Int) : List Tg := if (ap p 0 1 && al b) = true then Im cs b p k else []
theorem CX {cs : List Cd} {b : Bd} {p k : Int} (h : (ap p 0 1 && al b) = false) : Ee cs b p k = [] := by rw [Ee, h]; rfl
theorem vv (p : Int) : (decide (p < 0) || decide (p > 1)) = !ap p 0 1 := by
 rw [ap, Bool.eq_iff_iff]; simp
theorem NR {H : Heap} {cv : Value} {cs : List Cd} (hk : CardsS H cv cs) (hli : fu cs = true) {v : dr} {b : Bd} (h : BdS H v b) (hst : b.stack.length ≤ 1000000) (p k : Int) :
  Triple PP sC [cv, .agg (am v b).toArray, iV p, iV k] H [] fun r H' O' => Sl H' 2 r (cO (Ee cs b p k)) ∧ O' = [] := by
 refine Triple.frozenS (e := az) ?_
 refine vR (vs := cv :: (am v b ++ [iV p, iV k])) (by kernel_rfl) ⟨hk.one, ar (an (h.r [])) ⟨rfl, rfl, trivial⟩⟩ ?_
 simp only [rZ]
 refine ae fun r0 => ?_
 refine ab _ (aN _ _) (af (ab _ (aN _ _) (af (ab _ (aM _ _) ?_))))
 refine ak (fun hb => ?_) (fun hb => ?_)
 ·have hb : (decide (p < 0) || decide (p > 1)) = true := hb
  rw [vv] at hb
  rw [CX (by rw [show ap p 0 1 = false from rG hb, Bool.false_and])]
  exact ah (OSl.nil _ _)
 ·have hb : (decide (p < 0) || decide (p > 1)) = false := hb
  rw [vv] at hb
  have hw : ap p 0 1 = true := sO hb
  have hp : p = 0 ∨ p = 1 := by simp only [ap, decide_eq_true_eq] at hw; omega
  refine aa ?_
  refine ai (cz (h.r [])) rfl ⟨rfl, trivial⟩ fun H2 l2 => ab _ (aB _) (ak (fun hc => ?_) (fun hc => ?_))
  ·rw [CX (by rw [show al b = false from rG hc, Bool.and_false])]
   exact ah (OSl.nil _ _)
  ·have hv : al b = true := sO hc
   have e : Ee cs b p k = Im cs b p k := by rw [Ee, if_pos (by rw [hw, hv]; rfl)]
   rw [e]
   refine aa ?_
   refine ao (NH (hk.le l2) hli (h.le l2) hst hv hp k) fun x H3 O3 hx l3 => ⟨[x], rfl, ⟨hx.one, trivial⟩, ?_⟩
   exact ah (by rw [List.append_nil]; exact hx)
end Go.Proofs.YtdhobpmnkfmcfaaGreatDoor
