/- slices.SortFunc at targets, by their ids: the library's contract, said of own blocks. -/
import Derived.Test.YtieaihgbjikggaaGreatKN2
import Derived.Test.YtieaihgbjikggaaGreatM17
import Derived.Test.YtieaihgbjikggaaGreatSH
namespace Go.Proofs.YtieaihgbjikggaaGreat
open Go Go.Sx
set_option maxRecDepth 100000
set_option maxHeartbeats 1000000
section
open Go.Shelf Go.RowKit Go.Lib Go.Sort
theorem KK (x y : Int) (W : World) : Calls Tryz.prog 123 #[.agg #[.int .i64 x, .int .i64 0], .agg #[.int .i64 y, .int .i64 0]] W fun e w' => e = .returned (.int .i64 (Lib.compareInt x y)) ∧ ∃ q os', w' = grow (W.drewN q) os' := by
 have hcon := fun W' => AnyG.cmp_Compare_int Tryz.cmpInt x y W'
 change ∀ W', Calls Tryz.prog 124 _ _ _ at hcon
 generalize Lib.compareInt x y = r at hcon ⊢
 go_enter Tryz.func123, Tryz.ntmps123
 go_wp2_with (go_at_call 124; refine (hcon _).mono ?_; rintro e w' ⟨rfl, rfl⟩)
 go_ret
 exact ⟨rfl, 0, _, by rw [alloc_eq_grow, alloc_eq_grow, grow_grow]; rfl⟩
theorem I1 (x y : Int) : ltOf (fun x y : Int => Lib.compareInt x y) x y = decide (x < y) := by
 unfold ltOf Lib.compareInt
 by_cases h1 : x < y
 ·simp [h1]
 ·by_cases h2 : y < x <;> simp [h1, h2]
theorem Lj : SWO (ltOf fun x y : Int => Lib.compareInt x y) where
 irrefl x := by rw [I1]; simp
 trans x y z h1 h2 := by rw [I1] at *; simp at *; omega
 ntrans x y z h1 h2 := by rw [I1] at *; simp at *; omega
theorem Do {l : List Int} (h : l.Nodup) : (l.mergeSort fun x y => !(ltOf fun x y : Int => Lib.compareInt x y) y x) = lZ l := by
 have hp := List.mergeSort_perm l (fun x y => !(ltOf fun x y : Int => Lib.compareInt x y) y x)
 have hs := List.pairwise_mergeSort (le := fun x y => !(ltOf fun x y : Int => Lib.compareInt x y) y x) (fun a b c h1 h2 => by rw [I1] at *; simp at *; omega) (fun a b => by rw [I1, I1]; simp; omega) l
 have hn : (l.mergeSort fun x y => !(ltOf fun x y : Int => Lib.compareInt x y) y x).Nodup := hp.symm.nodup_iff.1 h
 refine tT ?_ (uR h) fun x => ?_
 ·refine List.Pairwise.imp₂ (fun a b h1 h2 => ?_) hs hn
  rw [I1] at h1
  simp at h1
  omega
 ·rw [hp.mem_iff, (qU l).mem_iff]
theorem KL {H : Heap} {v : Value} {l : List Int} {O : Own} (h : OSl ar 2 v (l.map ng) O) (hn : l.Nodup) (hlen : l.length ≤ 4000000) :
  Triple PP 122 [v, .func (.func 123) #[] #[]] H O fun r H' O' => r = .tuple #[] ∧ OSl ar 2 v ((lZ l).map ng) O' := by
 rcases h with ⟨⟨a, rfl⟩, hrows, rfl⟩ | ⟨r, cs, cap, rfl, rfl, hcl, hlc, hcap, hl, ho, ht⟩
 ·have hnil : l = [] := by simpa using hrows
  subst hnil
  intro w F hm
  have hcon := AnyF.slices_SortFunc_none Tryz.sortT a 0 (.func (.func 123) #[] #[]) w
  change Calls PP 122 _ _ _ at hcon
  refine hcon.mono ?_
  rintro _ _ ⟨rfl, rfl⟩
  exact ⟨_, H, [], rfl, ⟨rfl, .inl ⟨⟨a, rfl⟩, rfl, rfl⟩⟩, Heap.le_refl H, hm⟩
 ·intro w F hm
  rw [List.length_map] at hlc ht
  have hfit : l.length * 2 ≤ cs.length := by rw [hcl]; exact Nat.mul_le_mul_right 2 hlc
  have hm' : Models w H ((r, .cells cs.toArray ar (0, 0)) :: F) := by simpa using hm
  obtain ⟨hH, hblk⟩ := Go.Sx.sort_holds hm' ht.symm hfit
  have eg : ∀ args w, (callFunc 123 args).run PP w = .ok (.enter 123 args) w := enters_of Tryz.func123 (by kernel_rfl) rfl
  have hcon := AnyQ.slices_SortFunc_total Tryz.sortT 2 Tryz.isAgg43 Tryz.sizeOf43 ng (fun _ => rfl) (fun x v hv => by simp [ng] at hv; rcases hv with rfl | rfl <;> rfl) (fun x y => Lib.compareInt x y) Lj 123 #[] r 0 cap l.toArray w eg
   (fun _ _ _ _ x y => KK x y _) hH hblk (by simp; omega) (fun x y h1 h2 => by rw [I1] at h1 h2; simp at h1 h2; omega)
  change Calls PP 122 _ _ _ at hcon
  rw [Do hn] at hcon
  rw [List.length_map]
  refine hcon.mono ?_
  rintro _ _ ⟨rfl, n, os, rfl⟩
  have hsl : (lZ l).length = l.length := sN l
  have hmm := Go.Sx.sort_models hm' (d := lZ l) (by rw [hsl]; exact hfit) n os
  refine ⟨_, H, [(r, .cells (((lZ l).map ng).flatten ++ cs.drop ((lZ l).length * 2)).toArray ar (0, 0))], rfl, ⟨rfl, .inr ⟨r, ((lZ l).map ng).flatten ++ cs.drop ((lZ l).length * 2), cap, ?_, rfl, ?_, ?_, hcap, ?_, ?_, ?_⟩⟩, Heap.le_refl H, by simpa using hmm⟩
  ·rw [List.length_map, hsl]
  ·rw [List.length_append, List.length_drop, rk, hsl, hcl]; omega
  ·rw [List.length_map, hsl]; exact hlc
  ·intro x hx
   obtain ⟨y, _, rfl⟩ := List.mem_map.1 hx
   rfl
  ·intro x hx
   obtain ⟨y, _, rfl⟩ := List.mem_map.1 hx
   exact ⟨rfl, rfl, trivial⟩
  ·rw [List.length_map, ← rk, List.take_left]
end
end Go.Proofs.YtieaihgbjikggaaGreat
namespace Go.Proofs.YtieaihgbjikggaaGreat
open Go Go.Sx
set_option maxRecDepth 100000
set_option maxHeartbeats 1000000
def oG (cs : List Cd) (b : Bd) (p : Int) : List Int := iD (AS cs) b p
def tB (cs : List Cd) (b : Bd) (p : Int) : List Int := lZ (oG cs b p ++ oG cs b (1 - p))
def An (cs : List Cd) (b : Bd) : List Int := (b.stack.reverse.filter (lI cs)).map (fun x : It => x.id)
def AR (cs : List Cd) (b : Bd) (p k : Int) : List Tg :=
 if k = 1 then tgs (tB cs b p) else if k = 3 then tgs (oG cs b (1 - p)) else if k = 2 then tgs (oG cs b p) else if k = 4 then plT p else if k = 5 then plT p ++ tgs (tB cs b p) else if k = 6 then tgs (An cs b) else []
theorem jg {ks : List Int} {b : Bd} (h : aw b = true) (p : Int) : (iD ks b p).length ≤ 1000000 := by
 have := pm h
 rw [iD]
 split
 ·rw [List.length_map]; exact Nat.le_trans (List.length_filter_le _ _) this
 ·simp
theorem vd {ks : List Int} {b : Bd} (h : aw b = true) (p : Int) : (iD ks b p).Nodup := by
 rw [iD]
 split
 ·obtain ⟨p1, _, _⟩ := ej (aM h).1
  exact ((qa p1).sublist ((List.filter_sublist (l := b.objs)).map _)).imp fun h => by omega
 ·exact List.nodup_nil
theorem DD {ks : List Int} {b : Bd} (h : aw b = true) {p q : Int} (hpq : p ≠ q) {x : Int} (h1 : x ∈ iD ks b p) (h2 : x ∈ iD ks b q) : False := by
 rw [iD] at h1 h2
 split at h1
 ·split at h2
  ·obtain ⟨o1, m1, e1⟩ := List.mem_map.1 h1
   obtain ⟨o2, m2, e2⟩ := List.mem_map.1 h2
   obtain ⟨m1, c1⟩ := List.mem_filter.1 m1
   obtain ⟨m2, c2⟩ := List.mem_filter.1 m2
   obtain ⟨k1, g1⟩ := List.mem_iff_getElem?.1 m1
   obtain ⟨k2, g2⟩ := List.mem_iff_getElem?.1 m2
   obtain ⟨_, _, v1, _⟩ := co (aM h).1 g1
   obtain ⟨_, _, v2, _⟩ := co (aM h).1 g2
   rw [e1] at v1
   rw [e2, v1] at v2
   have : k1 = k2 := by omega
   subst this
   rw [g1] at g2
   obtain rfl := Option.some.inj g2
   simp only [vJ, Bool.and_eq_true, beq_iff_eq] at c1 c2
   exact hpq (c1.1.symm.trans c2.1)
  ·simp at h2
 ·simp at h1
theorem FA {cs : List Cd} {b : Bd} (h : aw b = true) (p : Int) : (oG cs b p ++ oG cs b (1 - p)).Nodup := by
 rw [List.nodup_append]
 refine ⟨vd h p, vd h _, fun x hx y hy e => ?_⟩
 subst e
 exact DD h (by omega) hx hy
theorem fs0 {H : Heap} {cv : Value} {cs : List Cd} (hk : CardsS H cv cs) {v : d8} {b : Bd} (h : BdS H v b) (hv : aw b = true) (p : Int) :
  Triple PP dh [cv, .agg (ay v b).toArray, iV p, iV 2] H [] fun r _ O' => OSl ar 2 r (bA (tgs (oG cs b p))) O' := by
 refine dv (vs := cv :: (ay v b ++ [iV p, iV 2])) (by kernel_rfl) ⟨hk.one, aP (au (h.r [])) ⟨rfl, rfl, trivial⟩⟩ ?_
 simp only [de]
 refine ai fun r0 => ?_
 refine ab _ (aF 2 1) (ak (fun hb => absurd hb (by decide)) (fun _ => ?_))
 refine ab _ (aF 2 3) (ak (fun hb => absurd hb (by decide)) (fun _ => ?_))
 refine ab _ (aF 2 2) (ak (fun _ => ?_) (fun hb => absurd hb (by decide)))
 refine ae ?_
 refine aC (DP hk.kinds h p) ?_
 rintro x H1 _ ⟨hx, rfl⟩ l1
 refine ⟨[x], rfl, ⟨hx.one, trivial⟩, ?_⟩
 have hlen : (oG cs b p).length ≤ 1000000 := jg hv p
 have hx : Sl H1 1 x (aO (oG cs b p)) := hx
 generalize oG cs b p = l at hx hlen
 have xlen : al .len [x] = some (iV l.length) := by have := hx.len; rwa [aO, List.length_map] at this
 refine ab _ xlen ?_
 refine dq l.length (fun i y H' O' => Heap.le H1 H' ∧ OSl ar 2 y (bA (tgs (l.take i))) O') ⟨Heap.le_refl _, OSl.nil _ _⟩ ?_
 rintro i y H' O' hi - ⟨hle, hy⟩
 refine ab _ (aB _ _) (ak (fun hb => ?_) (fun hb => ?_))
 ·have hlt : i < l.length := by simpa using hb
  obtain ⟨a, h1, h2, h3, h4⟩ := (hx.le hle).idx (k := .i64) (i := i) (r := [iV l[i]]) (by simp [aO, hlt])
  refine ab _ h1 (jl h2 h3 h4 (ai fun r1 => ?_))
  refine aI (rows := bA (tgs (l.take i))) (news := [ng l[i]]) (O1 := O') (O2 := []) (e := ar) (size := 2) (bytes := 16) (by kernel_rfl) (by simp) hy (fun Hf _ hf => Sl.block1 (hf _ List.mem_cons_self) rfl ⟨rfl, rfl, trivial⟩) (by rw [aT, gf, List.length_take, List.length_singleton]; omega) (by rw [aT, gf, List.length_take, List.length_singleton]; omega) ?_
  intro v' A' H6 l6 hA'
  refine ab _ (ax (by omega)) (aN (by simp [Eqs]) hlt ⟨Heap.le_trans hle l6, ?_⟩)
  have e : bA (tgs (l.take (i + 1))) = bA (tgs (l.take i)) ++ [ng l[i]] := by
   rw [fA, fA, List.take_add_one, List.getElem?_eq_getElem hlt, List.map_append]; rfl
  rw [List.append_nil, e]; exact hA'
 ·have hge : l.length ≤ i := by simpa using hb
  rw [List.take_of_length_le hge] at hy
  exact ah hy
theorem D4 {H : Heap} {cv : Value} {cs : List Cd} (hk : CardsS H cv cs) {v : d8} {b : Bd} (h : BdS H v b) (hv : aw b = true) {p : Int} (hp : p = 0 ∨ p = 1) :
  Triple PP dh [cv, .agg (ay v b).toArray, iV p, iV 3] H [] fun r _ O' => OSl ar 2 r (bA (tgs (oG cs b (1 - p)))) O' := by
 refine dv (vs := cv :: (ay v b ++ [iV p, iV 3])) (by kernel_rfl) ⟨hk.one, aP (au (h.r [])) ⟨rfl, rfl, trivial⟩⟩ ?_
 simp only [de]
 refine ai fun r0 => ?_
 refine ab _ (aF 3 1) (ak (fun hb => absurd hb (by decide)) (fun _ => ?_))
 refine ab _ (aF 3 3) (ak (fun _ => ?_) (fun hb => absurd hb (by decide)))
 refine ae ?_
 refine ab (iV (1 - p)) (za (by omega) (by omega)) ?_
 refine aC (fs0 hk h hv (1 - p)) fun x H1 O1 hx l1 => ⟨[x], rfl, ⟨hx.one, trivial⟩, ?_⟩
 exact ah (by rw [List.append_nil]; exact hx)
theorem BI {H : Heap} {cv : Value} {cs : List Cd} (hk : CardsS H cv cs) {v : d8} {b : Bd} (h : BdS H v b) {p : Int} (hp : p = 0 ∨ p = 1) :
  Triple PP dh [cv, .agg (ay v b).toArray, iV p, iV 4] H [] fun r _ O' => OSl ar 2 r (bA (plT p)) O' := by
 refine dv (vs := cv :: (ay v b ++ [iV p, iV 4])) (by kernel_rfl) ⟨hk.one, aP (au (h.r [])) ⟨rfl, rfl, trivial⟩⟩ ?_
 simp only [de]
 refine ai fun r0 => ?_
 refine ab _ (aF 4 1) (ak (fun hb => absurd hb (by decide)) (fun _ => ?_))
 refine ab _ (aF 4 3) (ak (fun hb => absurd hb (by decide)) (fun _ => ?_))
 refine ab _ (aF 4 2) (ak (fun hb => absurd hb (by decide)) (fun _ => ?_))
 refine ab _ (aF 4 4) (ak (fun _ => ?_) (fun hb => absurd hb (by decide)))
 refine ab (iV (1 - p)) (za (by omega) (by omega)) (ai fun r2 => ?_)
 exact fun _ => ⟨H, _, Ghost.refl _ _, .inr ⟨r2, [iV 0, iV (1 - p), iV 0, iV p], 2, rfl, rfl, rfl, by simp [bA, plT], by omega, by simp [bA, plT, Tg.row], by simp [bA, plT, Tg.row, Ones, Value.oneCell'], rfl⟩⟩
theorem wG {H : Heap} {cv : Value} {cs : List Cd} (hk : CardsS H cv cs) {v : d8} {b : Bd} (h : BdS H v b) (hv : aw b = true) {p : Int} (hp : p = 0 ∨ p = 1) :
  Triple PP dh [cv, .agg (ay v b).toArray, iV p, iV 1] H [] fun r _ O' => OSl ar 2 r (bA (tgs (tB cs b p))) O' := by
 refine dv (vs := cv :: (ay v b ++ [iV p, iV 1])) (by kernel_rfl) ⟨hk.one, aP (au (h.r [])) ⟨rfl, rfl, trivial⟩⟩ ?_
 simp only [de]
 have b1 : (oG cs b p).length ≤ 1000000 := jg hv p
 have b2 : (oG cs b (1 - p)).length ≤ 1000000 := jg hv (1 - p)
 refine ai fun r0 => ?_
 refine ab _ (aF 1 1) (ak (fun _ => ?_) (fun hb => absurd hb (by decide)))
 refine ae (ae ?_)
 refine aC (fs0 hk h hv p) fun x H1 O1 hx l1 => ⟨[x], rfl, ⟨hx.one, trivial⟩, ?_⟩
 refine aC (Triple.frozenS (D4 (hk.le l1) (h.le l1) hv hp)) ?_
 rintro y H2 _ ⟨hy, rfl⟩ l2
 refine ⟨[y], rfl, ⟨hy.one, trivial⟩, ?_⟩
 refine aI (rows := bA (tgs (oG cs b p))) (news := bA (tgs (oG cs b (1 - p)))) (O1 := O1) (O2 := []) (e := ar) (size := 2) (bytes := 16) (by kernel_rfl) (by simp) hx (fun Hf lf _ => hy.le lf) (by rw [aT, gf, aT, gf]; omega) (by rw [aT, gf, aT, gf]; omega) ?_
 intro z A' H3 l3 hz
 have e : bA (tgs (oG cs b p)) ++ bA (tgs (oG cs b (1 - p))) = (oG cs b p ++ oG cs b (1 - p)).map ng := by rw [fA, fA, List.map_append]
 rw [e] at hz
 refine yf (O1 := A') (O2 := []) (by simp) (KL hz (FA hv p) (by rw [List.length_append]; omega)) ?_
 rintro _ H4 O4 ⟨rfl, hs⟩ l4
 refine ⟨[], rfl, trivial, ?_⟩
 exact ah (by rw [List.append_nil, fA]; exact hs)
theorem FT {H : Heap} {cv : Value} {cs : List Cd} (hk : CardsS H cv cs) {v : d8} {b : Bd} (h : BdS H v b) (hv : aw b = true) {p : Int} (hp : p = 0 ∨ p = 1) :
  Triple PP dh [cv, .agg (ay v b).toArray, iV p, iV 5] H [] fun r _ O' => OSl ar 2 r (bA (plT p ++ tgs (tB cs b p))) O' := by
 refine dv (vs := cv :: (ay v b ++ [iV p, iV 5])) (by kernel_rfl) ⟨hk.one, aP (au (h.r [])) ⟨rfl, rfl, trivial⟩⟩ ?_
 simp only [de]
 have b1 : (tB cs b p).length ≤ 2000000 := by
  have b1 : (oG cs b p).length ≤ 1000000 := jg hv p
  have b2 : (oG cs b (1 - p)).length ≤ 1000000 := jg hv (1 - p)
  rw [tB, sN, List.length_append]; omega
 refine ai fun r0 => ?_
 refine ab _ (aF 5 1) (ak (fun hb => absurd hb (by decide)) (fun _ => ?_))
 refine ab _ (aF 5 3) (ak (fun hb => absurd hb (by decide)) (fun _ => ?_))
 refine ab _ (aF 5 2) (ak (fun hb => absurd hb (by decide)) (fun _ => ?_))
 refine ab _ (aF 5 4) (ak (fun hb => absurd hb (by decide)) (fun _ => ?_))
 refine ab _ (aF 5 5) (ak (fun _ => ?_) (fun hb => absurd hb (by decide)))
 refine ae (ae ?_)
 refine aC (BI hk h hp) fun x H1 O1 hx l1 => ⟨[x], rfl, ⟨hx.one, trivial⟩, ?_⟩
 refine aC (Triple.frozenS (wG (hk.le l1) (h.le l1) hv hp)) ?_
 rintro y H2 _ ⟨hy, rfl⟩ l2
 refine ⟨[y], rfl, ⟨hy.one, trivial⟩, ?_⟩
 refine aI (rows := bA (plT p)) (news := bA (tgs (tB cs b p))) (O1 := O1) (O2 := []) (e := ar) (size := 2) (bytes := 16) (by kernel_rfl) (by simp) hx (fun Hf lf _ => hy.le lf) (by rw [aT, aT, gf]; simp only [plT, List.length_cons, List.length_nil]; omega) (by rw [aT, aT, gf]; simp only [plT, List.length_cons, List.length_nil]; omega) ?_
 intro z A' H3 l3 hz
 exact ah (by rw [List.append_nil, BJ]; exact hz)
end Go.Proofs.YtieaihgbjikggaaGreat
namespace Go.Proofs.YtieaihgbjikggaaGreat
open Go Go.Sx
set_option maxRecDepth 100000
set_option maxHeartbeats 1000000
theorem wj {H H' : Heap} {O : Own} {p : Value} {m : Nat} {vs : List Value} (h : Reads H O p m vs) (hl : Heap.le H H') : Reads H' O p m vs := h.imp (fun h => hl.read h) id
theorem HL {H : Heap} {cv : Value} {cs : List Cd} (hk : CardsS H cv cs) (hli : dR cs = true) {v : d8} {b : Bd} (h : BdS H v b) (hst : b.stack.length ≤ 1000000) (p : Int) :
  Triple PP dh [cv, .agg (ay v b).toArray, iV p, iV 6] H [] fun r _ O' => OSl ar 2 r (bA (tgs (An cs b))) O' := by
 refine dv (vs := cv :: (ay v b ++ [iV p, iV 6])) (by kernel_rfl) ⟨hk.one, aP (au (h.r [])) ⟨rfl, rfl, trivial⟩⟩ ?_
 simp only [de]
 refine ai fun r0 => ?_
 refine ab _ (aF 6 1) (ak (fun hb => absurd hb (by decide)) (fun _ => ?_))
 refine ab _ (aF 6 3) (ak (fun hb => absurd hb (by decide)) (fun _ => ?_))
 refine ab _ (aF 6 2) (ak (fun hb => absurd hb (by decide)) (fun _ => ?_))
 refine ab _ (aF 6 4) (ak (fun hb => absurd hb (by decide)) (fun _ => ?_))
 refine ab _ (aF 6 5) (ak (fun hb => absurd hb (by decide)) (fun _ => ?_))
 refine ab _ (aF 6 6) (ak (fun _ => ?_) (fun hb => absurd hb (by decide)))
 have slen : al .len [v.s] = some (iV b.stack.length) := ItsR.len (h.stack.r [])
 have hsb : b.stack.length ≤ 1000000 := hst
 obtain ⟨rows, hrs, hrl, hit⟩ := h.stack
 refine ae ?_
 refine ab _ slen ?_
 refine ab (iV ((b.stack.length : Int) - 1)) (za (by omega) (by omega)) ?_
 refine Ez b.stack.length (fun i y H' O' => Heap.le H H' ∧ OSl ar 2 y (bA (tgs (((b.stack.reverse.take i).filter (lI cs)).map (fun x : It => x.id)))) O') ⟨Heap.le_refl _, OSl.nil _ _⟩ ?_
 rintro i y H' O' hi - ⟨hle, hy⟩
 refine ab _ (dS _ _) (ak (fun hb => ?_) (fun hb => ?_))
 ·have hlt : i < b.stack.length := by have := of_decide_eq_true hb; omega
  obtain ⟨j, hjl, hj, hrv⟩ : ∃ (j : Nat) (hjl : j < b.stack.length), (j : Int) = (b.stack.length : Int) - 1 - i ∧ b.stack.reverse[i]'(by simpa using hlt) = b.stack[j] := ⟨b.stack.length - 1 - i, by omega, by omega, Gg hlt⟩
  have hft := gT (p := lI cs) (l := b.stack.reverse) (i := i) (by simpa using hlt)
  rw [hrv] at hft
  obtain ⟨a, k1, k2, k3, k4, k5⟩ := ((hrs.le hle).rsl O').idx .i64 j (rows[j]'(by omega)) (by simp [hrl, hjl])
  obtain ⟨s, hrow, hs⟩ := hit j (rows[j]'(by omega)) b.stack[j] (by simp [hrl, hjl]) (by simp [hjl])
  have hR : ItR H' [] [iV b.stack[j].player, iV b.stack[j].id, iV b.stack[j].card, iV b.stack[j].trig, s] b.stack[j] := ⟨s, rfl, (hs.le hle).rsl []⟩
  rw [hrow] at k2 k3 k4 k5
  rw [hj] at k1
  have k6 := k3 1 1 (by omega)
  refine ae ?_
  refine ab _ k1 (ap k2 k4 k5 ?_)
  refine CJ (JY (hk.le hle) hli hR) rfl ⟨rfl, trivial⟩ fun H2 l2 => ak (fun hc => ?_) (fun hc => ?_)
  ·have hc : lI cs b.stack[j] = true := hc
   have hlen : ((b.stack.reverse.take i).filter (lI cs)).length ≤ 1000000 := Nat.le_trans (List.length_filter_le _ _) (by rw [List.length_take, List.length_reverse]; omega)
   refine ae ?_
   refine ab _ k1 ?_
   refine aL rfl ?_
   refine ap (wj k6 l2) rfl ⟨rfl, trivial⟩ (ai fun r3 => ?_)
   refine aI (rows := bA (tgs (((b.stack.reverse.take i).filter (lI cs)).map (fun x : It => x.id)))) (news := [ng b.stack[j].id]) (O1 := O') (O2 := []) (e := ar) (size := 2) (bytes := 16) (by kernel_rfl) (by simp) hy (fun Hf _ hf => Sl.block1 (hf _ List.mem_cons_self) rfl ⟨rfl, rfl, trivial⟩) (by rw [aT, gf, List.length_map, List.length_singleton]; omega) (by rw [aT, gf, List.length_map, List.length_singleton]; omega) ?_
   intro v' A' H6 l6 hA'
   refine ab _ (za (by omega) (by omega)) (tn (by simp [Eqs]) hlt ⟨Heap.le_trans hle (Heap.le_trans l2 l6), ?_⟩)
   have e : bA (tgs (((b.stack.reverse.take (i + 1)).filter (lI cs)).map (fun x : It => x.id))) = bA (tgs (((b.stack.reverse.take i).filter (lI cs)).map (fun x : It => x.id))) ++ [ng b.stack[j].id] := by
    rw [fA, fA, hft, if_pos hc, List.map_append, List.map_append]; rfl
   rw [List.append_nil, e]; exact hA'
  ·have hc : lI cs b.stack[j] = false := hc
   refine ab _ (za (by omega) (by omega)) (tn (by simp [Eqs]) hlt ⟨Heap.le_trans hle l2, ?_⟩)
   rw [hft, if_neg (by rw [hc]; simp), List.append_nil]; exact hy
 ·have hge : b.stack.length ≤ i := by have := of_decide_eq_false hb; omega
  rw [List.take_of_length_le (by rw [List.length_reverse]; exact hge)] at hy
  exact ah hy
theorem Jm {H : Heap} {cv : Value} {cs : List Cd} (hk : CardsS H cv cs) {v : d8} {b : Bd} (h : BdS H v b) (p : Int) {k : Int} (h1 : k ≠ 1) (h2 : k ≠ 2) (h3 : k ≠ 3) (h4 : k ≠ 4) (h5 : k ≠ 5) (h6 : k ≠ 6) :
  Triple PP dh [cv, .agg (ay v b).toArray, iV p, iV k] H [] fun r _ O' => OSl ar 2 r [] O' := by
 refine dv (vs := cv :: (ay v b ++ [iV p, iV k])) (by kernel_rfl) ⟨hk.one, aP (au (h.r [])) ⟨rfl, rfl, trivial⟩⟩ ?_
 simp only [de]
 refine ai fun r0 => ?_
 refine ab _ (aF k 1) (ak (fun hb => absurd (by simpa using hb) h1) (fun _ => ?_))
 refine ab _ (aF k 3) (ak (fun hb => absurd (by simpa using hb) h3) (fun _ => ?_))
 refine ab _ (aF k 2) (ak (fun hb => absurd (by simpa using hb) h2) (fun _ => ?_))
 refine ab _ (aF k 4) (ak (fun hb => absurd (by simpa using hb) h4) (fun _ => ?_))
 refine ab _ (aF k 5) (ak (fun hb => absurd (by simpa using hb) h5) (fun _ => ?_))
 refine ab _ (aF k 6) (ak (fun hb => absurd (by simpa using hb) h6) (fun _ => ?_))
 exact ah (OSl.nil _ _)
theorem JX {H : Heap} {cv : Value} {cs : List Cd} (hk : CardsS H cv cs) (hli : dR cs = true) {v : d8} {b : Bd} (h : BdS H v b) (hst : b.stack.length ≤ 1000000) (hv : aw b = true) {p : Int} (hp : p = 0 ∨ p = 1) (k : Int) :
  Triple PP dh [cv, .agg (ay v b).toArray, iV p, iV k] H [] fun r _ O' => OSl ar 2 r (bA (AR cs b p k)) O' := by
 rw [AR]
 by_cases h1 : k = 1
 ·rw [if_pos h1]; subst h1; exact wG hk h hv hp
 rw [if_neg h1]
 by_cases h3 : k = 3
 ·rw [if_pos h3]; subst h3; exact D4 hk h hv hp
 rw [if_neg h3]
 by_cases h2 : k = 2
 ·rw [if_pos h2]; subst h2; exact fs0 hk h hv p
 rw [if_neg h2]
 by_cases h4 : k = 4
 ·rw [if_pos h4]; subst h4; exact BI hk h hp
 rw [if_neg h4]
 by_cases h5 : k = 5
 ·rw [if_pos h5]; subst h5; exact FT hk h hv hp
 rw [if_neg h5]
 by_cases h6 : k = 6
 ·rw [if_pos h6]; subst h6; exact HL hk hli h hst p
 rw [if_neg h6]
 exact Jm hk h p h1 h2 h3 h4 h5 h6
def tI (cs : List Cd) (b : Bd) (p k : Int) : List Tg := if (aq p 0 1 && aw b) = true then AR cs b p k else []
theorem yz {cs : List Cd} {b : Bd} {p k : Int} (h : (aq p 0 1 && aw b) = false) : tI cs b p k = [] := by rw [tI, h]; rfl
theorem we (p : Int) : (decide (p < 0) || decide (p > 1)) = !aq p 0 1 := by
 rw [aq, Bool.eq_iff_iff]; simp
theorem J5 {H : Heap} {cv : Value} {cs : List Cd} (hk : CardsS H cv cs) (hli : dR cs = true) {v : d8} {b : Bd} (h : BdS H v b) (hst : b.stack.length ≤ 1000000) (p k : Int) :
  Triple PP tK [cv, .agg (ay v b).toArray, iV p, iV k] H [] fun r H' O' => Sl H' 2 r (bA (tI cs b p k)) ∧ O' = [] := by
 refine Triple.frozenS (e := ar) ?_
 refine wK (vs := cv :: (ay v b ++ [iV p, iV k])) (by kernel_rfl) ⟨hk.one, aP (au (h.r [])) ⟨rfl, rfl, trivial⟩⟩ ?_
 simp only [of]
 refine ai fun r0 => ?_
 refine ab _ (aB _ _) (af (ab _ (aB _ _) (af (ab _ (aA _ _) ?_))))
 refine ak (fun hb => ?_) (fun hb => ?_)
 ·have hb : (decide (p < 0) || decide (p > 1)) = true := hb
  rw [we] at hb
  rw [yz (by rw [show aq p 0 1 = false from yC hb, Bool.false_and])]
  exact ah (OSl.nil _ _)
 ·have hb : (decide (p < 0) || decide (p > 1)) = false := hb
  rw [we] at hb
  have hw : aq p 0 1 = true := rX hb
  have hp : p = 0 ∨ p = 1 := by simp only [aq, decide_eq_true_eq] at hw; omega
  refine ae ?_
  refine aj (bg (h.r [])) rfl ⟨rfl, trivial⟩ fun H2 l2 => ab _ (az _) (ak (fun hc => ?_) (fun hc => ?_))
  ·rw [yz (by rw [show aw b = false from yC hc, Bool.and_false])]
   exact ah (OSl.nil _ _)
  ·have hv : aw b = true := rX hc
   have e : tI cs b p k = AR cs b p k := by rw [tI, if_pos (by rw [hw, hv]; rfl)]
   rw [e]
   refine ae ?_
   refine aC (JX (hk.le l2) hli (h.le l2) hst hv hp k) fun x H3 O3 hx l3 => ⟨[x], rfl, ⟨hx.one, trivial⟩, ?_⟩
   exact ah (by rw [List.append_nil]; exact hx)
theorem w8 {H : Heap} {x : Value} {l : List Int} (hx : Sl H 1 x (aO l)) (hlen : l.length ≤ 4000000) : Triple PP iY [x] H [] fun r _ O' => OSl ar 2 r (bA (tgs l)) O' := by
 refine mQ (vs := [x]) (by kernel_rfl) ⟨hx.one, trivial⟩ ?_
 simp only [fh]
 have xlen : al .len [x] = some (iV l.length) := by have := hx.len; rwa [aO, List.length_map] at this
 refine dq l.length (fun i y H' O' => Heap.le H H' ∧ OSl ar 2 y (bA (tgs (l.take i))) O') ⟨Heap.le_refl _, OSl.nil _ _⟩ ?_
 rintro i y H' O' hi - ⟨hle, hy⟩
 refine ab _ xlen ?_
 refine ab _ (aB _ _) (ak (fun hb => ?_) (fun hb => ?_))
 ·have hlt : i < l.length := by simpa using hb
  obtain ⟨a, h1, h2, h3, h4⟩ := (hx.le hle).idx (k := .i64) (i := i) (r := [iV l[i]]) (by simp [aO, hlt])
  refine ab _ h1 (jl h2 h3 h4 (ai fun r1 => ?_))
  refine aI (rows := bA (tgs (l.take i))) (news := [ng l[i]]) (O1 := O') (O2 := []) (e := ar) (size := 2) (bytes := 16) (by kernel_rfl) (by simp) hy (fun Hf _ hf => Sl.block1 (hf _ List.mem_cons_self) rfl ⟨rfl, rfl, trivial⟩) (by rw [aT, gf, List.length_take, List.length_singleton]; omega) (by rw [aT, gf, List.length_take, List.length_singleton]; omega) ?_
  intro v' A' H6 l6 hA'
  refine ab _ (ax (by omega)) (aN (by simp [Eqs]) hlt ⟨Heap.le_trans hle l6, ?_⟩)
  have e : bA (tgs (l.take (i + 1))) = bA (tgs (l.take i)) ++ [ng l[i]] := by
   rw [fA, fA, List.take_add_one, List.getElem?_eq_getElem hlt, List.map_append]; rfl
  rw [List.append_nil, e]; exact hA'
 ·have hge : l.length ≤ i := by simpa using hb
  rw [List.take_of_length_le hge] at hy
  exact ah hy
theorem F4 {cs : List Cd} {b : Bd} (hv : aw b = true) : (b.stack.reverse.filter (kG cs)).map (fun x : It => x.id) = An cs b := by
 rw [An]
 congr 1
 refine List.filter_congr fun x hx => HN ?_
 have := (aM hv).2.2.2
 rw [List.all_eq_true] at this
 exact this x (by simpa using hx)
theorem Sl.block2 {H : Heap} {r : Nat} {a b c d : Value} {T : TypeId} (h : H r = some (.cells [a, b, c, d].toArray T (0, 0))) (ho : Ones [a, b, c, d]) : Sl H 2 (.slice (some ⟨r, 0, none⟩) 2 2) [[a, b], [c, d]] := by
 refine ⟨_, _, rfl, Nat.le_refl _, by simp, fun _ => ⟨_, rfl, ?_⟩⟩
 have e1 : Ones [a, b] := ho.take 2
 have e2 : Ones [c, d] := ho.drop 2
 intro i x hx
 match i with
 | 0 =>
  obtain rfl : [a, b] = x := by simpa using hx
  refine ⟨?_, rfl, e1⟩
  rw [cq, mU h (by simp)]; rfl
 | 1 =>
  obtain rfl : [c, d] = x := by simpa using hx
  refine ⟨?_, rfl, e2⟩
  rw [cq, mU h (by simp)]; rfl
 | i + 2 => simp at hx
theorem Jx {H : Heap} {cv : Value} {cs : List Cd} (hk : CardsS H cv cs) (hli : dR cs = true) {v : d8} {b : Bd} (h : BdS H v b) (hB : bdB b) (hfit : FB b) (hst : b.stack.length ≤ 1000000) (p k : Int) :
  Triple PP hJ [cv, .agg (ay v b).toArray, iV p, iV k] H [] fun r H' O' => Sl H' 2 r (bA (tI cs b p k)) ∧ O' = [] := by
 have hfz : Triple PP hJ [cv, .agg (ay v b).toArray, iV p, iV k] H [] fun r H' O' => (OSl ar 2 r (bA (tI cs b p k)) O') ∨ (Sl H' 2 r (bA (tI cs b p k)) ∧ O' = []) := by
  refine pD (vs := cv :: (ay v b ++ [iV p, iV k])) (by kernel_rfl) ⟨hk.one, aP (au (h.r [])) ⟨rfl, rfl, trivial⟩⟩ ?_
  simp only [gV]
  refine ai fun r0 => ?_
  refine ae ?_
  refine aj (jE (h.r []) hfit) rfl ⟨rfl, trivial⟩ fun H1 l1 => ?_
  replace h := h.le l1
  replace hk := hk.le l1
  rw [im]
  refine ab _ (az _) (af (ab _ (aB _ _) (af (ab _ (aA _ _) (af (ab _ (aB _ _) (af (ab _ (aA _ _) ?_))))))))
  refine ak (fun hc => ?_) (fun hc => ?_)
  ·have hc : ((!aw b || decide (p < 0)) || decide (p > 1)) = true := hc
   rw [Bool.or_assoc, we] at hc
   rw [yz (by cases hw : aq p 0 1 <;> cases hv : aw b <;> simp [hw, hv] at hc ⊢)]
   exact ah (.inl (OSl.nil _ _))
  have hc : ((!aw b || decide (p < 0)) || decide (p > 1)) = false := hc
  rw [Bool.or_assoc, we, Bool.or_eq_false_iff] at hc
  have hv : aw b = true := rX hc.1
  have hw : aq p 0 1 = true := rX hc.2
  have hp : p = 0 ∨ p = 1 := by simp only [aq, decide_eq_true_eq] at hw; omega
  have hp' : 1 - p = 0 ∨ 1 - p = 1 := by omega
  have e : tI cs b p k = AR cs b p k := by rw [tI, if_pos (by rw [hw, hv]; rfl)]
  rw [e]
  clear e
  have n1 : (oG cs b p).length ≤ 1000000 := jg hv p
  have n2 : (oG cs b (1 - p)).length ≤ 1000000 := jg hv (1 - p)
  have n3 : (tB cs b p).length ≤ 2000000 := by rw [tB, sN, List.length_append]; omega
  refine ae (ae ?_)
  refine ab (iV (1 - p)) (za (by omega) (by omega)) ?_
  refine aC (xc hk.kinds h hB p hp fun q hq id hid => ?_) ?_
  ·subst hq
   obtain ⟨k, o, _, _, _, e4⟩ := sj hv hp hid
   omega
  rintro x H2 _ ⟨hx, rfl⟩ l2
  rw [EB _ hv hp] at hx
  have hx : Sl H2 1 x (aO (oG cs b p)) := hx
  refine ⟨[x], rfl, ⟨hx.one, trivial⟩, ?_⟩
  refine aC (xc (hk.le l2).kinds (h.le l2) hB (1 - p) hp' fun q hq id hid => ?_) ?_
  ·subst hq
   obtain ⟨k, o, _, _, _, e4⟩ := sj hv hp' hid
   omega
  rintro y H3 _ ⟨hy, rfl⟩ l3
  rw [EB _ hv hp'] at hy
  have hy : Sl H3 1 y (aO (oG cs b (1 - p))) := hy
  refine ⟨[y], rfl, ⟨hy.one, trivial⟩, ?_⟩
  refine DX (e := be) (size := 1) (bytes := 8) (by kernel_rfl) (hx.le l3) (by rw [aO, List.length_map]; omega) (by rw [aO, List.length_map]; omega) fun xa Oa H4 l4 pa => ?_
  refine aI (rows := aO (oG cs b p)) (news := aO (oG cs b (1 - p))) (O1 := Oa) (O2 := []) (e := be) (size := 1) (bytes := 8) (by kernel_rfl) (by simp) pa (fun Hf lf _ => hy.le (Heap.le_trans l4 lf)) (by rw [aO, aO, List.length_map, List.length_map]; omega) (by rw [aO, aO, List.length_map, List.length_map]; omega) ?_
  intro z A' H5 l5 hz
  have ez : aO (oG cs b p) ++ aO (oG cs b (1 - p)) = aO (oG cs b p ++ oG cs b (1 - p)) := by rw [aO, aO, aO, List.map_append]
  rw [ez] at hz
  rw [List.append_nil]
  refine sr hz (fun Hf hs => AA hs (by rw [List.length_append]; omega)) ?_
  rintro s H6 ⟨hs, -⟩ l6
  have hs : Sl H6 1 s (aO (tB cs b p)) := hs
  refine ⟨[s], rfl, ⟨hs.one, trivial⟩, ?_⟩
  refine aC (Triple.frozenS (w8 hs (by omega))) ?_
  rintro o H7 _ ⟨ho, rfl⟩ l7
  refine ⟨[o], rfl, ⟨ho.one, trivial⟩, ?_⟩
  refine ab (iV (1 - p)) (za (by omega) (by omega)) (ai fun r1 => ?_)
  have lx := Heap.le_trans l3 (Heap.le_trans l4 (Heap.le_trans l5 (Heap.le_trans l6 l7)))
  have ly := Heap.le_trans l4 (Heap.le_trans l5 (Heap.le_trans l6 l7))
  replace h := h.le (Heap.le_trans l2 lx)
  replace hk := hk.le (Heap.le_trans l2 lx)
  replace hx := hx.le lx
  replace hy := hy.le ly
  have hone : Ones [iV 0, iV (1 - p), iV 0, iV p] := ⟨rfl, rfl, rfl, rfl, trivial⟩
  clear lx ly l1 l2 l3 l4 l5 l6 l7 hs hz pa
  refine ab _ (aF k 1) (ak (fun h1 => ?_) (fun h1 => ?_))
  ·obtain rfl : k = 1 := by simpa using h1
   exact ah (.inr ⟨ho, rfl⟩)
  have h1 : k ≠ 1 := by simpa using h1
  refine ab _ (aF k 2) (ak (fun h2 => ?_) (fun h2 => ?_))
  ·obtain rfl : k = 2 := by simpa using h2
   refine aC (w8 hx (by omega)) fun o2 H8 O8 ho2 l8 => ⟨[o2], rfl, ⟨ho2.one, trivial⟩, ?_⟩
   exact ah (.inl (show OSl ar 2 o2 (bA (tgs (oG cs b p))) (O8 ++ []) by rw [List.append_nil]; exact ho2))
  have h2 : k ≠ 2 := by simpa using h2
  refine ab _ (aF k 3) (ak (fun h3 => ?_) (fun h3 => ?_))
  ·obtain rfl : k = 3 := by simpa using h3
   refine aC (w8 hy (by omega)) fun o2 H8 O8 ho2 l8 => ⟨[o2], rfl, ⟨ho2.one, trivial⟩, ?_⟩
   exact ah (.inl (show OSl ar 2 o2 (bA (tgs (oG cs b (1 - p)))) (O8 ++ []) by rw [List.append_nil]; exact ho2))
  have h3 : k ≠ 3 := by simpa using h3
  refine ab _ (aF k 4) (ak (fun h4 => ?_) (fun h4 => ?_))
  ·obtain rfl : k = 4 := by simpa using h4
   exact Jt fun H' _ hf => .inr ⟨Sl.block2 (hf _ List.mem_cons_self) hone, rfl⟩
  have h4 : k ≠ 4 := by simpa using h4
  refine ab _ (aF k 5) (ak (fun h5 => ?_) (fun h5 => ?_))
  ·obtain rfl : k = 5 := by simpa using h5
   refine kZ (ad := ⟨r1, 0, none⟩) (rows := bA (plT p)) (news := bA (tgs (tB cs b p))) (size := 2) (e := ar) (by kernel_rfl) (fun Hf _ hf => Sl.block2 (hf _ List.mem_cons_self) hone) ho (by rw [show jh PP ar = 16 by kernel_rfl, aT, aT, gf]; simp only [plT, List.length_cons, List.length_nil]; omega) (by rw [aT, aT, gf]; simp only [plT, List.length_cons, List.length_nil]; omega) fun u H8 l8 hu => ?_
   refine ah (.inr ⟨?_, rfl⟩)
   rw [← BJ] at hu
   exact hu
  have h5 : k ≠ 5 := by simpa using h5
  refine ab _ (aF k 6) (ak (fun h6 => ?_) (fun h6 => ?_))
  ·obtain rfl : k = 6 := by simpa using h6
   have esp : bA (AR cs b p 6) = bA (tgs ((b.stack.reverse.filter (kG cs)).map (fun x : It => x.id))) := by rw [F4 hv]; rfl
   rw [esp]
   have slen : al .len [v.s] = some (iV b.stack.length) := ItsR.len (h.stack.r [])
   have hsb : b.stack.length ≤ 1000000 := hst
   obtain ⟨rows, hrs, hrl, hit⟩ := h.stack
   refine ae ?_
   refine ab _ slen ?_
   refine ab (iV ((b.stack.length : Int) - 1)) (za (by omega) (by omega)) ?_
   refine Ez b.stack.length (fun i y H' O' => Heap.le H7 H' ∧ OSl ar 2 y (bA (tgs (((b.stack.reverse.take i).filter (kG cs)).map (fun x : It => x.id)))) O') ⟨Heap.le_refl _, OSl.nil _ _⟩ ?_
   rintro i y H' O' hi - ⟨hle, hy⟩
   refine ab _ (dS _ _) (ak (fun hb => ?_) (fun hb => ?_))
   ·have hlt : i < b.stack.length := by have := of_decide_eq_true hb; omega
    obtain ⟨j, hjl, hj, hrv⟩ : ∃ (j : Nat) (hjl : j < b.stack.length), (j : Int) = (b.stack.length : Int) - 1 - i ∧ b.stack.reverse[i]'(by simpa using hlt) = b.stack[j] := ⟨b.stack.length - 1 - i, by omega, by omega, Gg hlt⟩
    have hft := gT (p := kG cs) (l := b.stack.reverse) (i := i) (by simpa using hlt)
    rw [hrv] at hft
    obtain ⟨a, k1, k2, k3, k4, k5⟩ := ((hrs.le hle).rsl O').idx .i64 j (rows[j]'(by omega)) (by simp [hrl, hjl])
    obtain ⟨s, hrow, hs⟩ := hit j (rows[j]'(by omega)) b.stack[j] (by simp [hrl, hjl]) (by simp [hjl])
    have hR : ItR H' [] [iV b.stack[j].player, iV b.stack[j].id, iV b.stack[j].card, iV b.stack[j].trig, s] b.stack[j] := ⟨s, rfl, (hs.le hle).rsl []⟩
    rw [hrow] at k2 k3 k4 k5
    rw [hj] at k1
    have k6 := k3 1 1 (by omega)
    refine ae ?_
    refine ab _ k1 (ap k2 k4 k5 ?_)
    refine CJ (Jy (hk.le hle) hli hR) rfl ⟨rfl, trivial⟩ fun H2 l2 => ak (fun hc => ?_) (fun hc => ?_)
    ·have hc : kG cs b.stack[j] = true := hc
     have hlen : ((b.stack.reverse.take i).filter (kG cs)).length ≤ 1000000 := Nat.le_trans (List.length_filter_le _ _) (by rw [List.length_take, List.length_reverse]; omega)
     refine ae ?_
     refine ab _ k1 ?_
     refine aL rfl ?_
     refine ap (wj k6 l2) rfl ⟨rfl, trivial⟩ (ai fun r3 => ?_)
     refine aI (rows := bA (tgs (((b.stack.reverse.take i).filter (kG cs)).map (fun x : It => x.id)))) (news := [ng b.stack[j].id]) (O1 := O') (O2 := []) (e := ar) (size := 2) (bytes := 16) (by kernel_rfl) (by simp) hy (fun Hf _ hf => Sl.block1 (hf _ List.mem_cons_self) rfl ⟨rfl, rfl, trivial⟩) (by rw [aT, gf, List.length_map, List.length_singleton]; omega) (by rw [aT, gf, List.length_map, List.length_singleton]; omega) ?_
     intro v' A' H6 l6 hA'
     refine ab _ (za (by omega) (by omega)) (tn (by simp [Eqs]) hlt ⟨Heap.le_trans hle (Heap.le_trans l2 l6), ?_⟩)
     have e : bA (tgs (((b.stack.reverse.take (i + 1)).filter (kG cs)).map (fun x : It => x.id))) = bA (tgs (((b.stack.reverse.take i).filter (kG cs)).map (fun x : It => x.id))) ++ [ng b.stack[j].id] := by
      rw [fA, fA, hft, if_pos hc, List.map_append, List.map_append]; rfl
     rw [List.append_nil, e]; exact hA'
    ·have hc : kG cs b.stack[j] = false := hc
     refine ab _ (za (by omega) (by omega)) (tn (by simp [Eqs]) hlt ⟨Heap.le_trans hle l2, ?_⟩)
     rw [hft, if_neg (by rw [hc]; simp), List.append_nil]; exact hy
   ·have hge : b.stack.length ≤ i := by have := of_decide_eq_false hb; omega
    rw [List.take_of_length_le (by rw [List.length_reverse]; exact hge)] at hy
    exact ah (.inl hy)
  have h6 : k ≠ 6 := by simpa using h6
  have en : AR cs b p k = [] := by rw [AR, if_neg h1, if_neg h3, if_neg h2, if_neg h4, if_neg h5, if_neg h6]
  rw [en]
  exact ah (.inl (OSl.nil _ _))
 refine hfz.ghost ?_
 rintro r H' O' _ hc (ho | ⟨ho, rfl⟩)
 ·obtain ⟨H2, g, hs, _⟩ := ho.freeze (X := []) (by simpa using hc)
  exact ⟨H2, [], by simpa using g, hs, rfl⟩
 ·exact ⟨H', [], Ghost.refl _ _, ho, rfl⟩
end Go.Proofs.YtieaihgbjikggaaGreat
