/- Valid lists; deck.Count, the reference's Count; the law's checks, counts. -/
import Derived.Test.YtamgiojcbdbokaaGreatDoorSHA
import Derived.Shelf.SlSortCmp.NoneTotal
import Derived.Shelf.SlicesG.Cmp
import Derived.Shelf.SlGeneric
import Derived.Ground.SlsfProg
import Derived.Ground.SlgcProg
import Derived.Shelf.SlIterI.Sorted
import Derived.Shelf.SortM.Plain
import Derived.Shelf.SortM.SortNone
import Derived.Ground.GgzProg
import Derived.Ground.SlgmProg
import Derived.Test.YtamgiojcbdbokaaGreatDoorProg
import Derived.Test.YtamgiojcbdbokaaGreatDoorFw2
import Derived.RangeFuncNested
import Derived.RangeFuncBound
import Derived.Shelf.Abstract
import Derived.Shelf.RegionOpen
import Derived.OwnWalkIn
import Derived.TacticsInMore
import Derived.LoopNIn
import Derived.LoopIn
import Derived.Shelf.GgSortFunc.InsertionK
namespace Go.Proofs.YtamgiojcbdbokaaGreatDoor
open Go Go.Sx
set_option maxRecDepth 100000
set_option maxHeartbeats 1000000
def lT : List Cp → Int
 | [] => 0
 | x :: l => x.n + lT l
def dz (cs : List CdF) (x : Cp) : Prop := inP cs x.card ∧ 1 ≤ x.n ∧ x.n ≤ 60 ∧ ((eo cs x.card).kind = 1 ∨ x.n ≤ 4)
def xn : Int → List Cp → Prop
 | _, [] => True
 | b, x :: l => b < x.card ∧ xn x.card l
theorem wb {cs : List CdF} : ∀ (l : List Cp) (i : Nat) (n b : Int), (sk cs l i n b).2 = 0 → (∀ x ∈ l, dz cs x) ∧ xn b l ∧ 20 ≤ n + lT l ∧ n + lT l ≤ 60 ∧ (sk cs l i n b).1 = -1
 | [], i, n, b, h => by
  rw [sk] at h ⊢
  rw [lT, Int.add_zero]
  by_cases h1 : n < 20
  ·rw [if_pos h1] at h; cases h
  rw [if_neg h1] at h ⊢
  by_cases h2 : n > 60
  ·rw [if_pos h2] at h; cases h
  rw [if_neg h2] at h ⊢
  exact ⟨fun x hx => (by cases hx), trivial, by omega, by omega, rfl⟩
 | x :: l, i, n, b, h => by
  rw [sk] at h ⊢
  by_cases hw : jt cs x b ≠ 0
  ·rw [if_pos hw] at h
   exact absurd h hw
  rw [if_neg hw] at h ⊢
  obtain ⟨w0, w1, w2, w3, w4⟩ := vd hw
  obtain ⟨h1, h2, h3, h4, h5⟩ := wb l (i + 1) (n + x.n) x.card h
  rw [lT]
  refine ⟨fun y hy => ?_, ⟨w3, h2⟩, by omega, by omega, h5⟩
  rcases List.mem_cons.1 hy with rfl | hy
  ·exact ⟨w0, w1, w2, w4⟩
  ·exact h1 y hy
def Be (cs : List CdF) (l : List Cp) : Prop := (∀ x ∈ l, dz cs x) ∧ xn (-1) l ∧ 20 ≤ lT l ∧ lT l ≤ 60
theorem tL {cs : List CdF} {l : List Cp} (h : (aE cs l).2 = 0) : Be cs l ∧ aE cs l = (-1, 0) := by
 obtain ⟨h1, h2, h3, h4, h5⟩ := wb l 0 0 (-1) h
 refine ⟨⟨h1, h2, by omega, by omega⟩, ?_⟩
 show aE cs l = (-1, 0)
 rw [← show (aE cs l).1 = -1 from h5, ← h]
def kB (cs : List CdF) (k : Int) (x : Cp) : Bool := k == 0 || (eo cs x.card).kind == k
def lP (cs : List CdF) (k : Int) : List Cp → Int
 | [] => 0
 | x :: l => (if kB cs k x = true then x.n else 0) + lP cs k l
theorem wa (cs : List CdF) (k : Int) : ∀ a b : List Cp, lP cs k (a ++ b) = lP cs k a + lP cs k b
 | [], b => by rw [List.nil_append, lP]; omega
 | x :: a, b => by rw [List.cons_append, lP, lP, wa cs k a b]; omega
theorem yW {cs : List CdF} {k : Int} {l : List Cp} {i : Nat} (hi : i < l.length) : lP cs k (l.take (i + 1)) = lP cs k (l.take i) + (if kB cs k l[i] = true then l[i].n else 0) := by
 rw [List.take_add_one, List.getElem?_eq_getElem hi, Option.toList_some, wa, lP, lP, Int.add_zero]
theorem uR {cs : List CdF} {k : Int} : ∀ {l : List Cp}, (∀ x ∈ l, dz cs x) → 0 ≤ lP cs k l ∧ lP cs k l ≤ lT l
 | [], _ => by rw [lP, lT]; omega
 | x :: l, h => by
  obtain ⟨h1, h2⟩ := uR (k := k) (l := l) fun y hy => h y (List.mem_cons_of_mem _ hy)
  obtain ⟨_, h3, _⟩ := h x List.mem_cons_self
  rw [lP, lT]
  split <;> omega
theorem xx {cs : List CdF} {l : List Cp} (h : ∀ x ∈ l, dz cs x) (i : Nat) : ∀ x ∈ l.take i, dz cs x := fun x hx => h x (List.mem_of_mem_take hx)
theorem vk : ∀ a b : List Cp, lT (a ++ b) = lT a + lT b
 | [], b => by rw [List.nil_append, lT]; omega
 | x :: a, b => by rw [List.cons_append, lT, lT, vk a b]; omega
theorem rj {cs : List CdF} : ∀ {l : List Cp}, (∀ x ∈ l, dz cs x) → 0 ≤ lT l ∧ (l.length : Int) ≤ lT l
 | [], _ => by rw [lT]; exact ⟨Int.le_refl _, Int.le_refl _⟩
 | x :: l, h => by
  obtain ⟨h1, h2⟩ := rj (l := l) fun y hy => h y (List.mem_cons_of_mem _ hy)
  obtain ⟨_, h3, _⟩ := h x List.mem_cons_self
  rw [lT, List.length_cons]
  omega
theorem sL {cs : List CdF} {l : List Cp} (h : ∀ x ∈ l, dz cs x) (i : Nat) : lT (l.take i) ≤ lT l := by
 have e := vk (l.take i) (l.drop i)
 rw [List.take_append_drop] at e
 have := (rj (l := l.drop i) fun x hx => h x (List.mem_of_mem_drop hx)).1
 omega
theorem yU {cs : List CdF} {k : Int} {l : List Cp} (h : Be cs l) (i : Nat) : 0 ≤ lP cs k (l.take i) ∧ lP cs k (l.take i) ≤ 60 := by
 obtain ⟨h1, h2⟩ := uR (k := k) (xx h.1 i)
 have := sL h.1 i
 have := h.2.2.2
 omega
def gn (cs : List CdF) (l : List Cp) (k : Int) : Int × Int := if (aE cs l).2 = 0 then (lP cs k l, 0) else (0, (aE cs l).2)
theorem y5 {H : Heap} {p : Value} {cs : List CdF} (h : PoolF H p cs) {v : Value} {l : List Cp} (hl : ol H v l) (hb : l.length ≤ 1000000) (k : Int) : RetO PP od [p, v, iV k] H [] (Dl (gn cs l k)) := by
 refine qx (vs := [p, v, iV k]) (by kernel_rfl) ⟨h.one, hl.one, rfl, trivial⟩ ?_
 simp only [nQ]
 obtain ⟨vlen, _⟩ := lL hl
 refine ak (ni h hl hb) rfl (vs := [iV (aE cs l).1, iV (aE cs l).2]) ⟨rfl, rfl, trivial⟩ fun H1 l1 => ?_
 refine aa _ (dl _ _) (ai (fun hd => ?_) (fun hd => ?_))
 ·have he : (aE cs l).2 ≠ 0 := by simpa using hd
  exact af ⟨by rw [gn, if_neg he]; rfl, rfl⟩
 have he : (aE cs l).2 = 0 := by simpa using hd
 have hval := (tL he).1
 have h := h.le l1
 have hl := hl.le l1
 refine aa _ vlen ?_
 refine fV l.length (fun i x H' O' => x = iV (lP cs k (l.take i)) ∧ O' = [] ∧ Heap.le H1 H') ⟨rfl, rfl, Heap.le_refl _⟩ ?_
 rintro i _ H2 _ hi - ⟨rfl, rfl, l2⟩
 refine aa _ (aF _ _) (ai (fun hlt => ?_) (fun hge => ?_))
 ·have hlt : i < l.length := by have := of_decide_eq_true hlt; omega
  obtain ⟨a, k1, k2, _, _⟩ := wU [] (hl.le l2) hlt
  have hs := yW (cs := cs) (k := k) hlt
  have hf := yU (k := k) hval i
  have hf2 := yU (k := k) hval (i + 1)
  obtain ⟨_, w1, w2, _⟩ := hval.1 _ (List.getElem_mem hlt)
  generalize l[i] = x at *
  refine aa _ k1 (ao k2 rfl ⟨rfl, rfl, trivial⟩ (aj fun r0 => ?_))
  refine ae (ae ?_)
  refine bn (su (h.le l2) x.card) ?_
  rintro _ H3 _ ⟨⟨cells, rfl, c1, c2⟩, rfl⟩ l3
  have hk := c2.nm.2
  refine ⟨cells ++ [iV (iK cs x.card)], oy c1, mg c2.ones ⟨rfl, trivial⟩, aj fun r1 => ?_⟩
  refine ae ?_
  refine aa _ (an _ _) ?_
  refine ae (ab (ab (ab ?_)))
  rw [show g (cells ++ [iV (iK cs x.card)]) 1 = iV (eo cs x.card).kind from (xO c1 (by omega)).trans hk]
  refine aa _ (an _ _) ?_
  refine ab ?_
  refine aa _ (aw _ _) (ai (fun hd => ?_) (fun hd => ?_))
  ·have hd : kB cs k x = true := hd
   rw [if_pos hd] at hs
   refine ae ?_
   refine aa _ (sE (by omega) (by omega)) ?_
   refine aa _ (aD (by omega)) (bO (by simp [Eqs, E]) hlt ⟨?_, rfl, Heap.le_trans l2 l3⟩)
   rw [hs]
  ·have hd : kB cs k x = false := hd
   rw [if_neg (by rw [hd]; simp), Int.add_zero] at hs
   refine aa _ (aD (by omega)) (bO (by simp [Eqs, E]) hlt ⟨?_, rfl, Heap.le_trans l2 l3⟩)
   rw [hs]; rfl
 ·have hge : l.length ≤ i := by have := of_decide_eq_false hge; omega
  rw [List.take_of_length_le hge]
  exact af ⟨by rw [gn, if_pos he]; rfl, rfl⟩
theorem Aq {H : Heap} {p : Value} {cs : List CdF} (h : PoolF H p cs) {v : Value} {l : List Cp} (hl : ol H v l) (hb : l.length ≤ 1000000) (i e : Int) : RetO PP de [p, v, iV i, iV e] H [] (.bool ((aE cs l).1 == i && (aE cs l).2 == e)) := by
 refine iY (vs := [p, v, iV i, iV e]) (by kernel_rfl) ⟨h.one, hl.one, rfl, rfl, trivial⟩ ?_
 simp only [eT]
 refine ak (ni h hl hb) rfl (vs := [iV (aE cs l).1, iV (aE cs l).2]) ⟨rfl, rfl, trivial⟩ fun H1 l1 => ?_
 refine aa _ (an _ _) (ab (ab (aa _ (an _ _) (ab (aa _ (ap _ _) ?_)))))
 exact af ⟨rfl, rfl⟩
theorem we {H : Heap} {p : Value} {cs : List CdF} (h : PoolF H p cs) {v : Value} {l : List Cp} (hl : ol H v l) (hb : l.length ≤ 1000000) (k i e : Int) : RetO PP dc [p, v, iV k, iV i, iV e] H [] (.bool ((gn cs l k).1 == i && (gn cs l k).2 == e)) := by
 refine iW (vs := [p, v, iV k, iV i, iV e]) (by kernel_rfl) ⟨h.one, hl.one, rfl, rfl, rfl, trivial⟩ ?_
 simp only [eS]
 refine ak (y5 h hl hb k) rfl (vs := [iV (gn cs l k).1, iV (gn cs l k).2]) ⟨rfl, rfl, trivial⟩ fun H1 l1 => ?_
 refine aa _ (an _ _) (ab (ab (aa _ (an _ _) (ab (aa _ (ap _ _) ?_)))))
 exact af ⟨rfl, rfl⟩
end Go.Proofs.YtamgiojcbdbokaaGreatDoor
namespace Go.Proofs
open Go.Shelf
def Tryz.sortT_ren : Go.Shelf.Ren := ⟨fun | 6 => 54 | 15 => 88 | 14 => 87 | 28 => 120 | 29 => 121 | 20 => 112 | 21 => 113 | 22 => 114 | 23 => 115 | 24 => 116 | 25 => 117 | 26 => 118 | 27 => 119 | 46 => 157 | 47 => 158 | 48 => 159 | 49 => 160 | 50 => 161 | 57 => 180 | n => n, fun | 22 => 23 | 24 => 77 | 25 => 126 | 3 => 3 | 39 => 127 | 0 => 0 | 53 => 153 | 55 => 156 | 4 => 4 | 46 => 173 | 45 => 172 | 50 => 101 | 5 => 5 | 9 => 9 | 66 => 212 | 70 => 216 | 76 => 244 | 77 => 28 | n => n, fun | n => n⟩
theorem Tryz.sortT : Go.Proofs.SlLaysF0.n6 Tryz.prog Tryz.sortT_ren := {
 mixed := by kernel_rfl
 f6 := ⟨Tryz.f54.name, by decide, Tryz.func54.trans (congrArg some (by kernel_rfl))⟩
 f14 := ⟨Tryz.f87.name, by decide, Tryz.func87.trans (congrArg some (by kernel_rfl))⟩
 f15 := Tryz.func88.trans (congrArg some (by kernel_rfl))
 f20 := ⟨Tryz.f112.name, by decide, Tryz.func112.trans (congrArg some (by kernel_rfl))⟩
 f21 := ⟨Tryz.f113.name, by decide, Tryz.func113.trans (congrArg some (by kernel_rfl))⟩
 f22 := ⟨Tryz.f114.name, by decide, Tryz.func114.trans (congrArg some (by kernel_rfl))⟩
 f23 := ⟨Tryz.f115.name, by decide, Tryz.func115.trans (congrArg some (by kernel_rfl))⟩
 f24 := ⟨Tryz.f116.name, by decide, Tryz.func116.trans (congrArg some (by kernel_rfl))⟩
 f25 := ⟨Tryz.f117.name, by decide, Tryz.func117.trans (congrArg some (by kernel_rfl))⟩
 f26 := ⟨Tryz.f118.name, by decide, Tryz.func118.trans (congrArg some (by kernel_rfl))⟩
 f27 := ⟨Tryz.f119.name, by decide, Tryz.func119.trans (congrArg some (by kernel_rfl))⟩
 f28 := Tryz.func120.trans (congrArg some (by kernel_rfl))
 f29 := Tryz.func121.trans (congrArg some (by kernel_rfl))
 f46 := ⟨Tryz.f157.name, by decide, Tryz.func157.trans (congrArg some (by kernel_rfl))⟩
 f47 := Tryz.func158.trans (congrArg some (by kernel_rfl))
 f48 := Tryz.func159.trans (congrArg some (by kernel_rfl))
 f49 := ⟨Tryz.f160.name, by decide, Tryz.func160.trans (congrArg some (by kernel_rfl))⟩
 f50 := ⟨Tryz.f161.name, by decide, Tryz.func161.trans (congrArg some (by kernel_rfl))⟩
 f57 := ⟨Tryz.f180.name, by decide, Tryz.func180.trans (congrArg some (by kernel_rfl))⟩
 t0 := Tryz.underlying0
 a0 := Tryz.isAgg0
 z0 := Tryz.sizeOf0
 v0 := Tryz.zeroValue0
 t3 := Tryz.underlying3
 a3 := Tryz.isAgg3
 z3 := Tryz.sizeOf3
 v3 := Tryz.zeroValue3
 t4 := Tryz.underlying4
 a4 := Tryz.isAgg4
 z4 := Tryz.sizeOf4
 v4 := Tryz.zeroValue4
 t5 := Tryz.underlying5
 a5 := Tryz.isAgg5
 z5 := Tryz.sizeOf5
 v5 := Tryz.zeroValue5
 t9 := Tryz.underlying9
 a9 := Tryz.isAgg9
 z9 := Tryz.sizeOf9
 v9 := Tryz.zeroValue9
 t22 := Tryz.underlying23
 a22 := Tryz.isAgg23
 z22 := Tryz.sizeOf23
 v22 := Tryz.zeroValue23
 t25 := Tryz.underlying126
 a25 := Tryz.isAgg126
 z25 := Tryz.sizeOf126
 v25 := Tryz.zeroValue126
 t39 := Tryz.underlying127
 a39 := Tryz.isAgg127
 z39 := Tryz.sizeOf127
 v39 := Tryz.zeroValue127
 t45 := Tryz.underlying172
 a45 := Tryz.isAgg172
 z45 := Tryz.sizeOf172
 v45 := Tryz.zeroValue172
 t46 := Tryz.underlying173
 a46 := Tryz.isAgg173
 z46 := Tryz.sizeOf173
 v46 := Tryz.zeroValue173
 t50 := Tryz.underlying101
 a50 := Tryz.isAgg101
 z50 := Tryz.sizeOf101
 v50 := Tryz.zeroValue101
 t53 := Tryz.underlying153
 a53 := Tryz.isAgg153
 z53 := Tryz.sizeOf153
 v53 := Tryz.zeroValue153
 t55 := Tryz.underlying156
 a55 := Tryz.isAgg156
 z55 := Tryz.sizeOf156
 v55 := Tryz.zeroValue156
 t66 := Tryz.underlying212
 a66 := Tryz.isAgg212
 z66 := Tryz.sizeOf212
 v66 := Tryz.zeroValue212
 t70 := Tryz.underlying216
 a70 := Tryz.isAgg216
 z70 := Tryz.sizeOf216
 v70 := Tryz.zeroValue216
 t76 := Tryz.underlying244
 a76 := Tryz.isAgg244
 z76 := Tryz.sizeOf244
 v76 := Tryz.zeroValue244
 t77 := Tryz.underlying28
 a77 := Tryz.isAgg28
 z77 := Tryz.sizeOf28
 v77 := Tryz.zeroValue28 }
def Tryz.cmpInt_ren : Go.Shelf.Ren := ⟨fun | 5 => 56 | 7 => 89 | n => n, fun | 22 => 3 | 3 => 3 | 4 => 4 | n => n, fun | n => n⟩
theorem Tryz.cmpInt : Go.Proofs.SlLaysC2.n5 Tryz.prog Tryz.cmpInt_ren := {
 mixed := by kernel_rfl
 f5 := ⟨Tryz.f56.name, by decide, Tryz.func56.trans (congrArg some (by kernel_rfl))⟩
 f7 := ⟨Tryz.f89.name, by decide, Tryz.func89.trans (congrArg some (by kernel_rfl))⟩
 t3 := Tryz.underlying3
 a3 := Tryz.isAgg3
 z3 := Tryz.sizeOf3
 v3 := Tryz.zeroValue3
 t4 := Tryz.underlying4
 a4 := Tryz.isAgg4
 z4 := Tryz.sizeOf4
 v4 := Tryz.zeroValue4
 t22 := Tryz.underlying3
 a22 := Tryz.isAgg3
 z22 := Tryz.sizeOf3
 v22 := Tryz.zeroValue3 }
def Tryz.sortA_ren : Go.Shelf.Ren := ⟨fun | 5 => 78 | 8 => 88 | 7 => 106 | 19 => 120 | 20 => 121 | 10 => 140 | 11 => 141 | 12 => 142 | 13 => 143 | 14 => 144 | 15 => 145 | 16 => 146 | 17 => 147 | 18 => 148 | 30 => 171 | 31 => 158 | 32 => 159 | 33 => 172 | 34 => 173 | 35 => 89 | 40 => 186 | n => n, fun | 23 => 33 | 25 => 3 | 3 => 3 | 32 => 127 | 22 => 33 | 0 => 0 | 44 => 153 | 46 => 156 | 4 => 4 | 36 => 173 | 35 => 172 | 41 => 101 | 5 => 5 | 9 => 9 | 53 => 212 | 57 => 216 | 63 => 244 | 64 => 28 | n => n, fun | n => n⟩
theorem Tryz.sortA : Go.Proofs.SlLaysM.n5 Tryz.prog Tryz.sortA_ren := {
 mixed := by kernel_rfl
 f5 := ⟨Tryz.f78.name, by decide, Tryz.func78.trans (congrArg some (by kernel_rfl))⟩
 f7 := ⟨Tryz.f106.name, by decide, Tryz.func106.trans (congrArg some (by kernel_rfl))⟩
 f8 := Tryz.func88.trans (congrArg some (by kernel_rfl))
 f10 := ⟨Tryz.f140.name, by decide, Tryz.func140.trans (congrArg some (by kernel_rfl))⟩
 f11 := ⟨Tryz.f141.name, by decide, Tryz.func141.trans (congrArg some (by kernel_rfl))⟩
 f12 := ⟨Tryz.f142.name, by decide, Tryz.func142.trans (congrArg some (by kernel_rfl))⟩
 f13 := ⟨Tryz.f143.name, by decide, Tryz.func143.trans (congrArg some (by kernel_rfl))⟩
 f14 := ⟨Tryz.f144.name, by decide, Tryz.func144.trans (congrArg some (by kernel_rfl))⟩
 f15 := ⟨Tryz.f145.name, by decide, Tryz.func145.trans (congrArg some (by kernel_rfl))⟩
 f16 := ⟨Tryz.f146.name, by decide, Tryz.func146.trans (congrArg some (by kernel_rfl))⟩
 f17 := ⟨Tryz.f147.name, by decide, Tryz.func147.trans (congrArg some (by kernel_rfl))⟩
 f18 := ⟨Tryz.f148.name, by decide, Tryz.func148.trans (congrArg some (by kernel_rfl))⟩
 f19 := Tryz.func120.trans (congrArg some (by kernel_rfl))
 f20 := Tryz.func121.trans (congrArg some (by kernel_rfl))
 f30 := ⟨Tryz.f171.name, by decide, Tryz.func171.trans (congrArg some (by kernel_rfl))⟩
 f31 := Tryz.func158.trans (congrArg some (by kernel_rfl))
 f32 := Tryz.func159.trans (congrArg some (by kernel_rfl))
 f33 := ⟨Tryz.f172.name, by decide, Tryz.func172.trans (congrArg some (by kernel_rfl))⟩
 f34 := ⟨Tryz.f173.name, by decide, Tryz.func173.trans (congrArg some (by kernel_rfl))⟩
 f35 := ⟨Tryz.f89.name, by decide, Tryz.func89.trans (congrArg some (by kernel_rfl))⟩
 f40 := ⟨Tryz.f186.name, by decide, Tryz.func186.trans (congrArg some (by kernel_rfl))⟩
 t0 := Tryz.underlying0
 a0 := Tryz.isAgg0
 z0 := Tryz.sizeOf0
 v0 := Tryz.zeroValue0
 t3 := Tryz.underlying3
 a3 := Tryz.isAgg3
 z3 := Tryz.sizeOf3
 v3 := Tryz.zeroValue3
 t4 := Tryz.underlying4
 a4 := Tryz.isAgg4
 z4 := Tryz.sizeOf4
 v4 := Tryz.zeroValue4
 t5 := Tryz.underlying5
 a5 := Tryz.isAgg5
 z5 := Tryz.sizeOf5
 v5 := Tryz.zeroValue5
 t9 := Tryz.underlying9
 a9 := Tryz.isAgg9
 z9 := Tryz.sizeOf9
 v9 := Tryz.zeroValue9
 t22 := Tryz.underlying33
 a22 := Tryz.isAgg33
 z22 := Tryz.sizeOf33
 v22 := Tryz.zeroValue33
 t23 := Tryz.underlying33
 a23 := Tryz.isAgg33
 z23 := Tryz.sizeOf33
 v23 := Tryz.zeroValue33
 t25 := Tryz.underlying3
 a25 := Tryz.isAgg3
 z25 := Tryz.sizeOf3
 v25 := Tryz.zeroValue3
 t32 := Tryz.underlying127
 a32 := Tryz.isAgg127
 z32 := Tryz.sizeOf127
 v32 := Tryz.zeroValue127
 t35 := Tryz.underlying172
 a35 := Tryz.isAgg172
 z35 := Tryz.sizeOf172
 v35 := Tryz.zeroValue172
 t36 := Tryz.underlying173
 a36 := Tryz.isAgg173
 z36 := Tryz.sizeOf173
 v36 := Tryz.zeroValue173
 t41 := Tryz.underlying101
 a41 := Tryz.isAgg101
 z41 := Tryz.sizeOf101
 v41 := Tryz.zeroValue101
 t44 := Tryz.underlying153
 a44 := Tryz.isAgg153
 z44 := Tryz.sizeOf153
 v44 := Tryz.zeroValue153
 t46 := Tryz.underlying156
 a46 := Tryz.isAgg156
 z46 := Tryz.sizeOf156
 v46 := Tryz.zeroValue156
 t53 := Tryz.underlying212
 a53 := Tryz.isAgg212
 z53 := Tryz.sizeOf212
 v53 := Tryz.zeroValue212
 t57 := Tryz.underlying216
 a57 := Tryz.isAgg216
 z57 := Tryz.sizeOf216
 v57 := Tryz.zeroValue216
 t63 := Tryz.underlying244
 a63 := Tryz.isAgg244
 z63 := Tryz.sizeOf244
 v63 := Tryz.zeroValue244
 t64 := Tryz.underlying28
 a64 := Tryz.isAgg28
 z64 := Tryz.sizeOf28
 v64 := Tryz.zeroValue28 }
end Go.Proofs
namespace Go.Proofs.YtamgiojcbdbokaaGreatDoor
open Go Go.Sx
open Go.Sx (Own)
set_option maxRecDepth 100000
set_option maxHeartbeats 1000000
def lV : Code → Code | .seq x _ => x | c => c
def eW : Code → Code | .seq _ x => x | c => c
def A7 : Code → Code | .block _ c => c | c => c
def rfA : Code → Code | .rangeFunc _ _ a _ => a | c => c
def rfB : Code → Code | .rangeFunc _ _ _ b => b | c => c
def rOf (s : SS) (t : Nat) : Nat := match s.tmps t with | .s (.at (.p _ r _)) => r | _ => 0
abbrev opK : xp := vL okL [] [] []
theorem mf : ∀ f, opK.okf f = true → mN PP f := pg ju _ _ _
noncomputable def uh : Code := (Tryz.f105.body).getD .skip
def Do (r : Nat) (fv : Value) : SS := { sz := 13, tmps := fun t => if t = 2 then .s (.at (.p 0 r 0)) else if t = 6 then .s (.at (.v fv)) else .s (.at .any), mem := fun n => if n = 0 then some ⟨r, 33, [.any]⟩ else none, next := 50 }
abbrev Ad (r : Nat) : List (Nat × Bx × List Nat × Nat) := [(0, ⟨r, 33, [.any]⟩, [0], 0)]
noncomputable def AM (vs : List Value) (C : List Value → Heap → Go.Sx.Own → Prop) : Tree := sx PP opK (lV uh) (gk PP Tryz.f105 vs) (fun s => sx PP opK (lV (lV (eW uh))) s (fun s => dH 0 C [] [2, 6] (Ad (rOf s 2)) (Do (rOf s 2) (g vs 1)) s) (fun _ => none) (fun _ => .stuck 1)) (fun _ => none) (fun _ => .stuck 1)
noncomputable def Fh (r : Nat) (fv : Value) (Rel : List Int → List Value → Heap → Go.Sx.Own → Prop) : RangeLoop PP opK Int := { h := Do r fv, keep := [2, 6], hb := Ad r, p := 7, enc := fun x => .int .i64 x, assign := rfA (A7 (eW (lV (eW uh)))), body := rfB (A7 (eW (lV (eW uh)))), Rel, RelX := fun _ _ _ => False }
noncomputable def yd (r : Nat) (fv : Value) (v : List Value) : Tree := sx PP opK (eW (eW uh)) (gi (Do r fv) [] [2, 6] (Ad r) v) (dW PP Tryz.f105) (fun _ => none) (dW PP Tryz.f105)
theorem yb (vs : List Value) (C : List Value → Heap → Go.Sx.Own → Prop) : AM vs C = .newbox fun r => .cont 0 C [g vs 0] [([.pointer (some ⟨r, 0, none⟩)], [.pointer (some ⟨r, 0, none⟩)]), ([g vs 1], [g vs 1]), ([.pointer (some ⟨r, 0, none⟩), .tuple #[]], [.pointer (some ⟨r, 0, none⟩), .tuple #[]])] := by kernel_rfl
theorem ux (r : Nat) (fv : Value) (Rel : List Int → List Value → Heap → Go.Sx.Own → Prop) (pre : List Int) (x : Int) (v : List Value) : (Fh r fv Rel).round pre x v = .chk (.eqN r r) (.newbox fun q => .prim (.bi .append #[33, 33] 33) [g v 0, .slice (some ⟨q, 0, none⟩) 1 1] [⟨q, 3, [iV x]⟩] [] .one fun l _ =>
  .chk (.eqN r r) (.cont 0 (fun vs H O => Cons H O → ∃ H3 O3, Ghost H O H3 O3 ∧ Rel (pre ++ [x]) vs H3 O3) [g l 0] [([.pointer (some ⟨r, 0, none⟩)], [.pointer (some ⟨r, 0, none⟩)]), ([fv], [fv]), ([.pointer (some ⟨r, 0, none⟩), .tuple #[]], [.pointer (some ⟨r, 0, none⟩), .tuple #[]])])) := by kernel_rfl
theorem wy (r : Nat) (fv : Value) (v : List Value) : yd r fv v = .chk (.eqN r r) (.ret (g v 0) []) := by kernel_rfl
def BZ : Code → Code → Code → Code → Code → Code := fun A B ax bd post => .seq A (.seq (.seq B (.block 0 (.rangeFunc (.tmp 6) #[7] ax bd))) post)
theorem CN : uh = BZ (lV uh) (lV (lV (eW uh))) (rfA (A7 (eW (lV (eW uh))))) (rfB (A7 (eW (lV (eW uh))))) (eW (eW uh)) := by kernel_rfl
section
open Go.RowKit Go.Shelf
attribute [local go_sem] Oper.semAt_some
theorem zC {H0 : Heap} {sv : Value} {zs : List Int} (hs : Sl H0 1 sv (aO zs)) (hne : zs ≠ []) : ∃ b off cap, sv = .slice (some ⟨b, off, none⟩) zs.length cap ∧ ∀ k, k < zs.length → H0.cell? ⟨b, off + k, none⟩ = some (.int .i64 (zs[k]?.getD 0)) := by
 obtain ⟨a, cap, rfl, h1, h2, h3⟩ := hs
 have hl : (aO zs).length = zs.length := by simp [aO]
 obtain ⟨ad, rfl, hA⟩ := h3 (by intro e; apply hne; have := congrArg List.length e; rw [hl] at this; exact List.eq_nil_of_length_eq_zero this)
 have key : ∀ k, k < zs.length → H0.cell? (ad.add k) = some (.int .i64 (zs[k]?.getD 0)) := by
  intro k hk
  obtain ⟨r1, _, _⟩ := hA k [iV zs[k]] (by simp [aO, hk])
  rw [Nat.mul_one] at r1
  simp only [Heap.read] at r1
  obtain ⟨j, hj, hc⟩ := kK r1 0 (iV zs[k]) rfl
  have : j = 0 := by simpa using hj.symm
  subst this
  rw [nl, Nat.add_zero] at hc
  rw [hc]; simp [hk]
 have h0 := key 0 (List.length_pos_iff.2 hne)
 obtain ⟨b, off, sp⟩ := ad
 have hsp : sp = none := by
  cases sp with
  | none => rfl
  | some x =>
   exfalso
   simp only [Heap.cell?, Addr.add] at h0
   split at h0 <;> simp at h0
 subst hsp
 exact ⟨b, off, cap, by rw [hl], fun k hk => by have := key k hk; rwa [bm] at this⟩
set_option maxHeartbeats 2000000 in
theorem zm (l k1 len cap b off : Nat) (f : Nat → Int) (h8 : len * 8 ≤ 140737488351232) (K : Nat → World → Prop) (Kx : World → Prop)
  (hbox : ∀ k W, K k W → W.cell? ⟨k1, 0, none⟩ = some (.slice (some ⟨b, off, none⟩) len cap)) (hc : ∀ k0 W, K k0 W → ∀ k, k < len → W.cell? ⟨b, off + k, none⟩ = some (.int .i64 (f k)))
  (hY : ∀ k W, k < len → K k W → YieldAt Fence.wide (1 - 1) Tryz.prog l #[.int .i64 (f k)] W fun e W' => (e = .returned (.bool true) ∧ K (k + 1) W') ∨ (e = .returned (.bool false) ∧ Kx W')) (W : World) (h0 : K 0 W) :
  CallsIn Fence.wide 1 Tryz.prog 79 #[.func (.yield l) #[] #[], .pointer (some ⟨k1, 0, none⟩)] W fun e W' => (∃ v, e = .returned v) ∧ (K len W' ∨ Kx W') := by
 have hn : 1 ≤ 1 := Nat.le_refl 1
 have hb0 := hbox 0 W h0
 refine callsIn_of_wp Tryz.func79 rfl trivial ?_ rfl
 simp only [Tryz.ntmps79, List.size_toArray, List.length_cons, List.length_nil, Nat.reduceAdd, Nat.reduceSub, Array.replicate_succ, Array.replicate_zero, List.push_toArray, List.append_toArray, List.nil_append, List.cons_append]
 gi_wp2
 gi_loopw [7] (fun i wr => ∃ k : Nat, k ≤ len ∧ i = .int .i64 k ∧ K k wr)
  (fun i _ => len - (intOf i).toNat)
 case atStart => exact ⟨0, Nat.zero_le _, rfl, h0⟩
 case round =>
  obtain ⟨k, hk, rfl, hJs⟩ := hrel
  have hcx : k < len → wr.cell? ⟨b, off + k, none⟩ = some (.int .i64 (f k)) := fun h => hc _ wr hJs k h
  by_cases hlt : k < len
  ·obtain ⟨fn, tmps, assign, body, hy, hR⟩ := hY k wr hlt hJs
   have hcx' := hcx hlt
   gi_wp2
   refine hR.mono ?_
   rintro e W3 (⟨rfl, hJ3⟩ | ⟨rfl, hJx3⟩)
   ·gi_wp2
    go_roundw
    case rel => exact ⟨k + 1, by omega, by simp, hJ3⟩
    case measure => simp [intOf]; omega
   ·gi_wp2
    refine bodyPost_ret (results_none rfl _ _ _) rfl ?_
    exact ⟨⟨_, rfl⟩, .inr hJx3⟩
  ·obtain rfl : k = len := by omega
   gi_wp2
   go_end0
   exact ⟨⟨_, rfl⟩, .inl hJs⟩
set_option maxHeartbeats 2000000 in
theorem xr (l k1 cap : Nat) (a : Option Addr) (K : Nat → World → Prop) (hbox : ∀ k W, K k W → W.cell? ⟨k1, 0, none⟩ = some (.slice a 0 cap)) (W : World) (h0 : K 0 W) :
  CallsIn Fence.wide 1 Tryz.prog 79 #[.func (.yield l) #[] #[], .pointer (some ⟨k1, 0, none⟩)] W fun e W' => (∃ v, e = .returned v) ∧ K 0 W' := by
 have hb0 := hbox 0 W h0
 refine callsIn_of_wp Tryz.func79 rfl trivial ?_ rfl
 simp only [Tryz.ntmps79, List.size_toArray, List.length_cons, List.length_nil, Nat.reduceAdd, Nat.reduceSub, Array.replicate_succ, Array.replicate_zero, List.push_toArray, List.append_toArray, List.nil_append, List.cons_append]
 gi_wp2
 gi_loopw [7] (fun i wr => i = .int .i64 0 ∧ K 0 wr) (fun _ _ => 0)
 case atStart => exact ⟨rfl, h0⟩
 case round =>
  obtain ⟨rfl, hJs⟩ := hrel
  gi_wp2
  go_end0
  exact ⟨⟨_, rfl⟩, hJs⟩
end
theorem B5 {H H' : Heap} {a : Addr} {v : Value} (hl : Heap.le H H') (h : H.cell? a = some v) : H'.cell? a = some v := by
 simp only [Heap.cell?] at h ⊢
 split at h
 ·rename_i heq
  rw [hl.1 _ _ heq]
  exact h
 ·cases h
theorem pQ {f : FuncId} {args : Array Value} {w : World} {R : Ending → World → Prop} {n m : Nat} (h : CallsIn Fence.wide n PP f args w R) : CallsIn (Fr none) m PP f args w R := mB (callsIn_wide.1 h)
theorem u7 {H0 : Heap} {sv : Value} {zs : List Int} (hs : Sl H0 1 sv (aO zs)) (hlen : zs.length ≤ 1000) (k1 : Nat) (T : TypeId) :
  Triple PP 105 [.slice none 0 0, .func (.func 79) #[] #[.pointer (some ⟨k1, 0, none⟩)]] H0 [(k1, .cells #[sv] T (0, 0))] fun r _ O' => OSl dR 1 r (aO zs) O' := by
 intro w F hm
 refine (callsIn_wide (n := 0)).1 ?_
 let fv : Value := .func (.func 79) #[] #[.pointer (some ⟨k1, 0, none⟩)]
 let vs : List Value := [.slice none 0 0, fv]
 let o0 : Obj := .cells #[sv] T (0, 0)
 refine callsIn_of_wp_marks (F := Fr none) Tryz.func105 (c := uh) rfl trivial ?_ rfl
 have hC : Conc F (gk PP Tryz.f105 vs) H0 [(k1, o0)] (Act.mk (vs.toArray ++ Array.replicate (Tryz.f105.ntmps - vs.toArray.size) undef) []) w := na (args := vs) (vs := vs) (by kernel_rfl) ⟨rfl, rfl, trivial⟩ hm
 have hpre : (AM vs fun v H O => v = [.slice none 0 0] ∧ H = H0 ∧ O = [(k1, o0)]).den PP (fun _ _ _ => True) H0 [(k1, o0)] := by
  rw [yb]
  exact fun r => ⟨by simp [Eqs], rfl, rfl, rfl⟩
 have hout : ∀ a w', ¬ bodyPostM (Fr none) 0 PP Tryz.f105 (fun e w' => ∃ v H' O', e = .returned v ∧ OSl dR 1 v (aO zs) O' ∧ Heap.le H0 H' ∧ Models w' H' (O' ++ F)) .outgrown a w' := by
  rintro a w' ⟨v, H', O', e, _⟩
  cases e
 rw [CN]
 refine wpIn_seq ?_
 rw [← jX (Act.mk _ _)]
 refine di (ro := none) (d := []) mixed mf (lV uh) (by kernel_rfl) (fun a w h => hout a w h) hpre hC ⟨?_⟩ (fun id kx he => by cases he) ⟨fun s' H' O' a' w' _ _ hd' => hd'.elim⟩
 intro s1 H1 O1 a1 w1 hC1 l1 hd1
 refine wpIn_seq (wpIn_seq ?_)
 refine di (ro := none) (d := []) mixed mf (lV (lV (eW uh))) (by kernel_rfl) (fun a w h => hout a w h) hd1 hC1 ⟨?_⟩ (fun id kx he => by cases he) ⟨fun s' H' O' a' w' _ _ hd' => hd'.elim⟩
 intro s2 H2 O2 a2 w2 hC2 l2 hd2
 have hokh : ∀ r, (Do r fv).Ok := fun r => ⟨fun t => by
   simp only [Do]
   split
   ·intro b hb; simp [S1.cells] at hb; subst hb; trivial
   ·split
    ·intro b hb; simp [S1.cells] at hb; subst hb; rfl
    ·intro b hb; simp [S1.cells] at hb; subst hb; trivial, fun n b hb a ha => by
   simp only [Do] at hb
   split at hb
   ·cases hb; simp at ha; subst ha; trivial
   ·cases hb⟩
 obtain ⟨⟨b1, rfl, rfl⟩, b2, b3, b4⟩ := eK hd2 hC2 (hokh _) (by
  intro n b cells i hmem
  simp only [List.mem_singleton, Prod.mk.injEq] at hmem
  obtain ⟨rfl, rfl, rfl, rfl⟩ := hmem
  rfl)
 let r := rOf s2 2
 have hrow1 : ∀ x : Int, Ones [iV x] := fun _ => ⟨rfl, trivial⟩
 rw [b1] at b2
 have hCL := tJ b2
 let R := Fh r fv fun pre v H O => ∃ x, v = [x] ∧ OSl dR 1 x (aO pre) O
 have hg : a2.eval (.tmp 6) = fv := by
  have h6 : SV.rel (.s (.at (.v fv))) (a2.tmps.getD 6 undef) := hCL.tm 6
  exact h6
 rw [jX]
 refine wpIn_block (sX (opts := opK) mixed mf R (fun _ _ _ => True) (by kernel_rfl) (by kernel_rfl) (hokh r) ?_ (by show 7 < 13; omega) (fun _ => rfl) (F := F) (k1 := k1) (o0 := o0) (H0 := H2) (O0 := []) (v0 := [.slice none 0 0]) hCL ⟨_, rfl, OSl.nil _ _⟩ (Nx := fun pre x => ∃ k, k < zs.length ∧ pre = zs.take k ∧ x = zs[k]?.getD 0) ?_ ⟨⟨rfl, trivial⟩, rfl⟩ hg (enters_of Tryz.func79 (by kernel_rfl) rfl) (S := fun xs => xs = zs) ?_ ?_ ?_)
 ·intro n b cells i hmem
  have hmem : (n, b, cells, i) ∈ Ad r := hmem
  simp only [List.mem_singleton, Prod.mk.injEq] at hmem
  obtain ⟨rfl, rfl, rfl, rfl⟩ := hmem
  rfl
 ·
  rintro pre x v H O ⟨k, hk, rfl, rfl⟩ hv1 hv2 hle ⟨y, rfl, hy⟩
  rw [ux]
  have hkl : (aO (zs.take k)).length = k := by simp [aO]; omega
  refine ae (aj fun q => ?_)
  refine cB (rows := aO (zs.take k)) (news := [[iV (zs[k]?.getD 0)]]) (O1 := O) (O2 := []) (e := dR) (size := 1) (bytes := 8) (by kernel_rfl) (by simp) hy (fun Hf _ hf => Sl.block1 (hf _ List.mem_cons_self) rfl ⟨rfl, trivial⟩) (by rw [hkl]; simp; omega) (by rw [hkl]; simp; omega) ?_
  intro v' O1' H' l' hO
  refine ae ⟨by simp [Eqs], fun _ => ⟨H', O1' ++ [], Ghost.refl _ _, v', rfl, ?_⟩⟩
  rw [List.append_nil]
  have e : aO (zs.take k ++ [zs[k]?.getD 0]) = aO (zs.take k) ++ [[iV (zs[k]?.getD 0)]] := by simp [aO]
  rw [e]; exact hO
 ·
  intro l K Kx hput hmod hY W hK0
  have hbox : ∀ pre o W, K pre o W → W.heap[k1]? = some o := fun pre o W hK => by
   obtain ⟨H, O, _, hm', hin⟩ := hmod pre o W hK
   exact (hm'.own _ hin).1
  by_cases hne : zs = []
  ·subst hne
   obtain ⟨a, cap, rfl, _⟩ := hs
   refine (pQ (xr l k1 cap a (fun _ W => K [] o0 W) (fun k W hK => by simp [World.cell?, hbox _ _ _ hK, o0]; rfl) W hK0)).mono ?_
   rintro e W' ⟨he, hK⟩
   exact ⟨he, .inl ⟨_, _, rfl, hK⟩⟩
  ·obtain ⟨b, off, cap, rfl, hcs⟩ := zC hs hne
   refine (pQ (zm l k1 zs.length cap b off (fun k => zs[k]?.getD 0) (by omega) (fun k W => K (zs.take k) o0 W) Kx (fun k W hK => by simp [World.cell?, hbox _ _ _ hK, o0]) (fun k0 W hK k hk => by
    obtain ⟨H, O, hle, hm', _⟩ := hmod _ _ _ hK
    exact hm'.cell? (B5 hle (hcs k hk))) (fun k W hk hK => by
    obtain ⟨fn, tmps, asg, bod, hy, hR⟩ := hY (zs.take k) (zs[k]?.getD 0) o0 W ⟨k, hk, rfl, rfl⟩ hK
    refine ⟨fn, tmps, asg, bod, hy, RoundIn.mono hR ?_⟩
    have e : zs.take (k + 1) = zs.take k ++ [zs[k]?.getD 0] := by rw [List.take_add_one, List.getElem?_eq_getElem hk]; rfl
    rw [e]
    exact fun _ _ h => h) W (by simpa using hK0))).mono ?_
   rintro e W' ⟨he, hK | hK⟩
   ·exact ⟨he, .inl ⟨_, _, rfl, by simpa using hK⟩⟩
   ·exact ⟨he, .inr hK⟩
 ·
  rintro D xs v H O W F' hS hv1 hv2 hle ⟨y, rfl, hy⟩ hCd
  rw [hS] at hy
  have hpost : (yd r fv [y]).den PP (fun r _ O' => OSl dR 1 r (aO zs) O') H O := by
   rw [wy]
   exact ae (af hy)
  refine (show (eW (eW uh)).wpIn (Fr none) 0 PP _ (shift [Go.Sx.mark D] a2) W from ?_)
  refine di (ro := none) (d := [Go.Sx.mark D]) mixed mf (eW (eW uh)) (by kernel_rfl) hout hpost hCd ⟨?_⟩ (fun id kx he => by cases he) ⟨?_⟩
  ·intro s' H' O' a' w' hC' hle' hd'
   refine jj hC' hd' ?_
   intro v H'' O'' w'' hq hl' hm'
   exact ⟨v, H'', O'', rfl, hq, Heap.le_trans hle (Heap.le_trans hle' hl'), hm'.sub (List.Sublist.append_left (List.sublist_append_right _ _) _)⟩
  ·intro s' H' O' a' w' hC' hle' hd'
   refine jj hC' hd' ?_
   intro v H'' O'' w'' hq hl' hm'
   exact ⟨v, H'', O'', rfl, hq, Heap.le_trans hle (Heap.le_trans hle' hl'), hm'.sub (List.Sublist.append_left (List.sublist_append_right _ _) _)⟩
 ·rintro D v H O W F' _ _ _ h
  exact h.elim
end Go.Proofs.YtamgiojcbdbokaaGreatDoor
namespace Go.Sx
open Go
theorem kf {w : World} {H : Heap} {O : Go.Sx.Own} (h : Models w H O) (os : Array Obj) : Models (Sort.grow w os) H O := by
 have keep : ∀ b (x : Obj), w.heap[b]? = some x → (w.heap ++ os)[b]? = some x := fun b x hb => by
  have hlt : b < w.heap.size := (Array.getElem?_eq_some_iff.1 hb).1
  rw [Array.getElem?_append_left hlt]; exact hb
 exact ⟨fun b x hb => keep b x (h.pers b x hb), fun p hp => ⟨keep _ _ (h.own p hp).1, (h.own p hp).2⟩, h.nodup, h.env⟩
theorem pr (d : List Int) : (d.map fun n => [iV n]).flatten.length = d.length := by
 have := aI (rows := d.map fun n => [iV n]) (size := 1) (by simp)
 rwa [List.length_map, Nat.mul_one] at this
theorem tu {d : List Int} {k : Nat} (h : k < d.length) : (d.map fun n => [iV n]).flatten[k]? = some (iV d[k]) := by
 have p := cw (rows := d.map fun n => [iV n]) (size := 1) (i := k) (row := [iV d[k]]) (by simp) (by simp [h])
 rw [Nat.mul_one] at p
 have := congrArg (fun l => l[0]?) p
 simpa [List.getElem?_take, List.getElem?_drop] using this
theorem uA (d : List Int) (cs : List Value) (h : d.length ≤ cs.length) : Sort.putCells (Value.int .i64) 0 d.toArray cs.toArray = ((d.map fun n => [iV n]).flatten ++ cs.drop d.length).toArray := by
 refine Array.ext' (List.ext_getElem? fun k => ?_)
 have hl := pr d
 simp only [Sort.putCells, Array.toList_mapIdx, List.getElem?_mapIdx, List.getElem?_append, List.size_toArray]
 by_cases hk : k < d.length
 ·rw [if_pos (by omega), List.getElem?_eq_getElem (by omega : k < cs.length), tu hk]
  simp only [Option.map_some, Option.some.injEq]
  rw [if_pos ⟨Nat.zero_le _, by omega⟩, Nat.sub_zero, getElem!_pos _ k (by simpa using hk)]
  rfl
 ·rw [if_neg (by omega), List.getElem?_drop, show d.length + (k - (d.map fun n => [iV n]).flatten.length) = k by omega]
  rcases Nat.lt_or_ge k cs.length with hc | hc
  ·rw [List.getElem?_eq_getElem hc, Option.map_some, if_neg (by omega)]
  ·rw [List.getElem?_eq_none hc]; rfl
theorem sO {w : World} {H : Heap} {r : Nat} {cs : List Value} {T : TypeId} {O : Go.Sx.Own} (hm : Models w H ((r, .cells cs.toArray T (0, 0)) :: O)) {d : List Int} (hl : d.length ≤ cs.length) (n : Nat) (os : Array Obj) :
  Models (Sort.grow (Sort.putRow (Value.int .i64) (Sort.ahead w n) r 0 d.toArray) os) H ((r, .cells ((d.map fun n => [iV n]).flatten ++ cs.drop d.length).toArray T (0, 0)) :: O) := by
 have hrow := (hm.own (r, .cells cs.toArray T (0, 0)) (by simp)).1
 refine kf (Models.update (w := w) (w' := Sort.putRow (Value.int .i64) (Sort.ahead w n) r 0 d.toArray) (o' := .cells ((d.map fun n => [iV n]).flatten ++ cs.drop d.length).toArray T (0, 0)) hm (fun b hb => ?_) ?_ rfl) os
 ·simp [Sort.putRow, Sort.mapBlock, Sort.ahead, Array.getElem?_modify, Ne.symm hb]
 ·simp only [Sort.putRow, Sort.mapBlock, Sort.ahead, Array.getElem?_modify, if_true, hrow, Option.map_some, Sort.onCells]
  rw [uA _ _ hl]
theorem um {w : World} {H : Heap} {r : Nat} {cs : List Value} {T : TypeId} {O : Go.Sx.Own} (hm : Models w H ((r, .cells cs.toArray T (0, 0)) :: O)) {d : List Int} (hd : (d.map fun n => [iV n]).flatten = cs.take d.length) (hl : d.length ≤ cs.length) :
  Sort.Holds (Value.int .i64) w r 0 d.toArray ∧ r < w.heap.size := by
 have hrow := (hm.own (r, .cells cs.toArray T (0, 0)) (by simp)).1
 have hlt : r < w.heap.size := (Array.getElem?_eq_some_iff.1 hrow).1
 refine ⟨fun j hj => ?_, hlt⟩
 have hj' : j < d.length := by simpa using hj
 have hv : cs[j]? = some (iV d[j]) := by
  have := congrArg (fun l => l[j]?) hd
  simp only [List.getElem?_take, if_pos hj'] at this
  rw [← this, tu hj']
 constructor
 ·rw [getElem!_pos _ j hj]
  simp only [World.cell?, hrow, Nat.zero_add]
  simpa using hv
 ·rw [Nat.zero_add]; exact frozen_of_row w r j _ T hrow
end Go.Sx
namespace Go.Proofs.YtamgiojcbdbokaaGreatDoor
open Go Go.Sx
open Go.Sx (Own)
set_option maxRecDepth 100000
set_option maxHeartbeats 1000000
def cR (l : List Int) : List Int := l.mergeSort fun x y => decide (x ≤ y)
theorem lU (l : List Int) : (cR l).length = l.length := List.length_mergeSort l
theorem CB {H : Heap} {v : Value} {l : List Int} {O : Go.Sx.Own} (h : OSl dR 1 v (aO l) O) (hlen : l.length ≤ 4000000) :
  Triple PP 78 [v] H O fun r _ O' => r = .tuple #[] ∧ OSl dR 1 v (aO (cR l)) O' := by
 have hil : (aO l).length = l.length := by simp [aO]
 rcases h with ⟨⟨a, rfl⟩, hrows, rfl⟩ | ⟨r, cs, cap, rfl, rfl, hcl, hlc, hcap, hl, ho, ht⟩
 ·have hnil : l = [] := by simpa [aO] using hrows
  subst hnil
  intro w F hm
  have hcon := AnyM.slices_Sort_int_none Tryz.sortA a 0 w
  change Calls PP 78 _ _ _ at hcon
  refine hcon.mono ?_
  rintro _ _ ⟨rfl, rfl⟩
  exact ⟨_, H, [], rfl, ⟨rfl, .inl ⟨⟨a, rfl⟩, by simp [cR, aO], rfl⟩⟩, Heap.le_refl H, hm⟩
 ·intro w F hm
  rw [hil] at hlc ht ⊢
  have hfit : l.length ≤ cs.length := by rw [hcl]; omega
  have hm' : Models w H ((r, .cells cs.toArray dR (0, 0)) :: F) := by simpa using hm
  obtain ⟨hH, hblk⟩ := um hm' (d := l) (by rw [Nat.mul_one] at ht; exact ht.symm) hfit
  have hcon := AnyM.slices_Sort_int Tryz.sortA r 0 cap l w hH hblk (by omega)
  change Calls PP 78 _ _ _ at hcon
  refine hcon.mono ?_
  rintro _ _ ⟨rfl, n, os, rfl⟩
  have hsl := lU l
  have hmm := sO hm' (d := cR l) (by rw [hsl]; exact hfit) n os
  refine ⟨_, H, [(r, .cells ((aO (cR l)).flatten ++ cs.drop (cR l).length).toArray dR (0, 0))], rfl, ⟨rfl, .inr ⟨r, (aO (cR l)).flatten ++ cs.drop (cR l).length, cap, ?_, rfl, ?_, ?_, hcap, ?_, ?_, ?_⟩⟩, Heap.le_refl H, by rw [List.singleton_append]; exact hmm⟩
  ·simp [aO, hsl]
  ·rw [List.length_append, List.length_drop, show (aO (cR l)).flatten.length = (cR l).length from pr _, hsl, hcl]; omega
  ·simp [aO, hsl]; exact hlc
  ·intro x hx; obtain ⟨y, _, rfl⟩ := List.mem_map.1 hx; rfl
  ·intro x hx; obtain ⟨y, _, rfl⟩ := List.mem_map.1 hx; exact ⟨rfl, trivial⟩
  ·have e : (aO (cR l)).length * 1 = (aO (cR l)).flatten.length := by rw [show (aO (cR l)).flatten.length = (cR l).length from pr _]; simp [aO]
   rw [e, List.take_left]
theorem Au {H : Heap} {sv : Value} {zs : List Int} (hs : Sl H 1 sv (aO zs)) (hlen : zs.length ≤ 1000) (k1 : Nat) (T : TypeId) :
  Triple PP dM [.func (.func 79) #[] #[.pointer (some ⟨k1, 0, none⟩)]] H [(k1, .cells #[sv] T (0, 0))] fun r _ O' => OSl dR 1 r (aO (cR zs)) O' := by
 refine j4 (vs := [.func (.func 79) #[] #[.pointer (some ⟨k1, 0, none⟩)]]) (by kernel_rfl) ⟨rfl, trivial⟩ ?_
 simp only [gx]
 have hcol : Triple PP fF [.func (.func 79) #[] #[.pointer (some ⟨k1, 0, none⟩)]] H [(k1, .cells #[sv] T (0, 0))] fun r _ O' => OSl dR 1 r (aO zs) O' := by
  refine jO (vs := [.func (.func 79) #[] #[.pointer (some ⟨k1, 0, none⟩)]]) (by kernel_rfl) ⟨rfl, trivial⟩ ?_
  simp only [fu]
  refine cI (O1 := [(k1, .cells #[sv] T (0, 0))]) (O2 := []) (by simp) (u7 hs hlen k1 T) ?_
  intro v H1 O3 hr l1
  exact ⟨[v], rfl, ⟨hr.one, trivial⟩, af (by rw [List.append_nil]; exact hr)⟩
 refine cI (O1 := [(k1, .cells #[sv] T (0, 0))]) (O2 := []) (by simp) hcol ?_
 intro v H1 O3 hr l1
 refine ⟨[v], rfl, ⟨hr.one, trivial⟩, ?_⟩
 rw [List.append_nil]
 refine cI (O1 := O3) (O2 := []) (by simp) (CB hr (by omega)) ?_
 rintro _ H2 O4 ⟨rfl, hr2⟩ l2
 exact ⟨[], rfl, trivial, af (by rw [List.append_nil]; exact hr2)⟩
theorem As (v : Value) (h1 : v.oneCell' = true) (H : Heap) : Triple PP ej [v] H [] fun r _ O' => ∃ k, r = .func (.func 79) #[] #[.pointer (some ⟨k, 0, none⟩)] ∧ O' = [(k, .cells #[v] 33 (0, 0))] := by
 refine ib (vs := [v]) (by kernel_rfl) ⟨h1, trivial⟩ ?_
 simp only [ef]
 intro r0 _
 exact ⟨H, _, Ghost.refl _ _, r0, rfl, rfl⟩
end Go.Proofs.YtamgiojcbdbokaaGreatDoor
namespace Go.Proofs.YtamgiojcbdbokaaGreatDoor
open Go Go.Sx
open Go.Sx (Own)
set_option maxRecDepth 100000
set_option maxHeartbeats 1000000
def E8 (w : World) : Prop := Go.Lib.TabIs PP w "internal/strconv.uint64pow10" .u64 Go.Lib.pow10Tab ∧ (∃ m : Int, w.cell? ⟨1, 0, none⟩ = some (.int .i64 m)) ∧
 (∃ ev, w.cell? ⟨2, 0, none⟩ = some ev ∧ (ev = .nilIface ∨ ∃ te pe, ev = .iface te pe)) ∧ (∃ ev, w.cell? ⟨3, 0, none⟩ = some ev ∧ (ev = .nilIface ∨ ∃ te pe, ev = .iface te pe))
def GlobOk (H : Heap) : Prop := ∀ w O, Models w H O → E8 w
theorem yq {w : World} {H H' : Heap} {O : Go.Sx.Own} (h : Models w H' O) (hl : Heap.le H H') : Models w H O :=
 ⟨fun b o hb => h.pers b o (hl.1 _ _ hb), fun p hp => ⟨(h.own p hp).1, by
  cases hH : H p.1 with
  | none => rfl
  | some o => have := hl.1 _ _ hH; rw [(h.own p hp).2] at this; cases this⟩, h.nodup, h.env.trans hl.2⟩
theorem GlobOk.le {H H' : Heap} (h : GlobOk H) (hl : Heap.le H H') : GlobOk H' := fun w O hm => h w O (yq hm hl)
theorem u5 (s : List UInt8) (hs : s.length < 2 ^ 62) (H : Heap) (O : Go.Sx.Own) : RetO PP 82 [Str s, .string ⟨#[10]⟩] H O (.tuple #[Str (Go.Lib.trimSuffix s [10]), .bool (Go.Lib.hasSuffix s [10])]) := by
 refine dN fun w F hm => ?_
 refine (Tryz.strings_CutSuffix ⟨s.toArray⟩ ⟨#[10]⟩ w (by rw [fh]; omega)).mono ?_
 rintro e w' ⟨rfl, rfl⟩
 exact ⟨rfl, fun _ _ => rfl, rfl⟩
theorem E3 {H : Heap} (hG : GlobOk H) (s : List UInt8) (hs : s.length < 4294967281) (O : Go.Sx.Own) : RetO PP 83 [Str s, .string ⟨#[32]⟩] H O (.tuple #[Str (Go.Lib.cut s [32]).1, Str (Go.Lib.cut s [32]).2.1, .bool (Go.Lib.cut s [32]).2.2]) := by
 refine dN fun w F hm => ?_
 obtain ⟨_, ⟨m, hmm⟩, _⟩ := hG w _ hm
 refine (Tryz.strings_Cut ⟨s.toArray⟩ ⟨#[32]⟩ m w (by rw [fh]; omega) hmm).mono ?_
 rintro e w' ⟨rfl, n, rfl⟩
 exact ⟨rfl, fun _ _ => rfl, rfl⟩
theorem DZ {H : Heap} (hG : GlobOk H) (n : Int) (h0 : -9223372036854775808 ≤ n) (h1 : n ≤ 9223372036854775807) (O : Go.Sx.Own) : RetO PP 40 [iV n] H O (Str (Go.Lib.itoa n)) := by
 intro w F hm
 obtain ⟨ht, _⟩ := hG w _ hm
 refine (Tryz.strconv_Itoa n h0 h1 w ht).mono ?_
 rintro e w' ⟨rfl, k, os, rfl⟩
 exact ⟨_, H, O, rfl, ⟨rfl, rfl⟩, Heap.le_refl H, kf (hm.same (w' := w.drewN k) rfl rfl) os⟩
def xh (l : List UInt8) (r : Value) : Prop := match Go.Lib.atoiAll l with
 | .ok v => r = .tuple #[iV v, .nilIface]
 | _ => ∃ n q, r = .tuple #[iV n, .iface 209 q]
theorem q9 {w w' : World} {H : Heap} {O : Go.Sx.Own} (hm : Models w H O) (hb : Go.RowKit.Below w.heap.size w w') : Models w' H O :=
 yr hm (fun j hj => hb.block j hj) (by simp only [cU, hb.os, hb.tape, hb.output])
theorem Eh {H : Heap} (hG : GlobOk H) (l : List UInt8) (hs : l.length < 100000) : Triple PP 84 [Str l] H [] fun r _ O' => xh l r ∧ O' = [] := by
 intro w F hm
 obtain ⟨_, _, ⟨e2, h2, k2⟩, ⟨e3, h3, k3⟩⟩ := hG w _ hm
 rcases ha : Go.Lib.atoiAll l with v | _ | _
 ·refine (Tryz.strconv_Atoi_ok ⟨l.toArray⟩ (by rw [fh]; omega) v ha w).mono ?_
  rintro e w' ⟨rfl, rfl | ⟨t, rfl⟩⟩
  ·exact ⟨_, H, [], rfl, ⟨by rw [xh, ha], rfl⟩, Heap.le_refl H, hm⟩
  ·exact ⟨_, H, [], rfl, ⟨by rw [xh, ha], rfl⟩, Heap.le_refl H, yr hm (fun j hj => Go.Lib.bytesWorld_at_old w _ t j hj) rfl⟩
 ·refine (Tryz.strconv_Atoi_syntax ⟨l.toArray⟩ (by rw [fh]; omega) ha e2 w h2 k2).mono ?_
  rintro e w' ⟨N, rfl, _, _, hb⟩
  exact ⟨_, H, [], rfl, ⟨by rw [xh, ha]; exact ⟨_, _, rfl⟩, rfl⟩, Heap.le_refl H, q9 hm hb⟩
 ·refine (Tryz.strconv_Atoi_range ⟨l.toArray⟩ (by rw [fh]; omega) ha e3 w h3 k3).mono ?_
  rintro e w' ⟨N, rfl, _, _, hb⟩
  exact ⟨_, H, [], rfl, ⟨by rw [xh, ha]; exact ⟨_, _, rfl⟩, rfl⟩, Heap.le_refl H, q9 hm hb⟩
def A8 : (Int × Int) × Int := ((0, 0), 6)
def du (cs : List CdF) (s : List UInt8) : (Int × Int) × Int :=
 if Go.Lib.hasSuffix s [10] = false ∨ (Go.Lib.cut (Go.Lib.trimSuffix s [10]) [32]).2.2 = false ∨ (Go.Lib.cut (Go.Lib.trimSuffix s [10]) [32]).2.1 = [] then A8
 else match Go.Lib.atoiAll (Go.Lib.cut (Go.Lib.trimSuffix s [10]) [32]).1 with
  | .ok n => if Go.Lib.itoa n ≠ (Go.Lib.cut (Go.Lib.trimSuffix s [10]) [32]).1 ∨ n < 1 ∨ n > 60 then A8 else (((mZ cs (Go.Lib.cut (Go.Lib.trimSuffix s [10]) [32]).2.1).1, n), (mZ cs (Go.Lib.cut (Go.Lib.trimSuffix s [10]) [32]).2.1).2)
  | _ => A8
def ER (q : (Int × Int) × Int) : Value := .tuple #[.agg #[iV q.1.1, iV q.1.2], iV q.2]
theorem AQ {t : TypeId} {v : Value} : ∀ w, ((PrimOp.eqv .neq 96 true).sem [.iface t v, .nilIface]).run PP w = .ok (.value (.bool true)) w := fun w => by kernel_rfl
theorem BC : ∀ w, ((PrimOp.eqv .neq 96 true).sem [.nilIface, .nilIface]).run PP w = .ok (.value (.bool false)) w := fun w => by kernel_rfl
theorem zr (s : List UInt8) : (Go.Lib.trimSuffix s [10]).length ≤ s.length := by
 rw [Go.Lib.trimSuffix]
 split
 ·rw [List.length_take]; omega
 ·exact Nat.le_refl _
theorem BW (s : List UInt8) : (Go.Lib.cut s [32]).1.length ≤ s.length ∧ (Go.Lib.cut s [32]).2.1.length ≤ s.length := by
 rw [Go.Lib.cut]
 split
 ·exact ⟨by rw [List.length_take]; omega, by rw [List.length_drop]; omega⟩
 ·exact ⟨Nat.le_refl _, Nat.zero_le _⟩
theorem Da {l : List UInt8} {n : Int} (h : Go.Lib.atoiAll l = .ok n) : -9223372036854775808 ≤ n ∧ n ≤ 9223372036854775807 := by
 unfold Go.Lib.atoiAll at h
 split at h
 ·cases h
 ·simp only [] at h
  split at h
  ·cases h
  ·cases h
  ·split at h
   ·cases h
   ·rename_i h1
    split at h
    ·cases h
    ·rename_i h2
     injection h with h
     split at h <;> omega
theorem DV {H : Heap} {p : Value} {cs : List CdF} (h : PoolF H p cs) (hG : GlobOk H) (s : List UInt8) (hs : s.length ≤ 5000) : RetO PP qn [p, Str s] H [] (ER (du cs s)) := by
 refine rA (vs := [p, Str s]) (by kernel_rfl) ⟨h.one, rfl, trivial⟩ ?_
 simp only [qg]
 refine aj fun r0 => ?_
 have hl1 := zr s
 obtain ⟨hl2, hl3⟩ := BW (Go.Lib.trimSuffix s [10])
 refine ak (u5 s (by omega) _ _) rfl (vs := [Str (Go.Lib.trimSuffix s [10]), .bool (Go.Lib.hasSuffix s [10])]) ⟨rfl, rfl, trivial⟩ fun H1 l1 => ?_
 have hV : du cs s = if Go.Lib.hasSuffix s [10] = false ∨ (Go.Lib.cut (Go.Lib.trimSuffix s [10]) [32]).2.2 = false ∨ (Go.Lib.cut (Go.Lib.trimSuffix s [10]) [32]).2.1 = [] then A8
   else match Go.Lib.atoiAll (Go.Lib.cut (Go.Lib.trimSuffix s [10]) [32]).1 with
    | .ok n => if Go.Lib.itoa n ≠ (Go.Lib.cut (Go.Lib.trimSuffix s [10]) [32]).1 ∨ n < 1 ∨ n > 60 then A8 else (((mZ cs (Go.Lib.cut (Go.Lib.trimSuffix s [10]) [32]).2.1).1, n), (mZ cs (Go.Lib.cut (Go.Lib.trimSuffix s [10]) [32]).2.1).2)
    | _ => A8 := rfl
 generalize Go.Lib.trimSuffix s [10] = line at *
 generalize Go.Lib.hasSuffix s [10] = whole at *
 refine ak (E3 (hG.le l1) line (by omega) _) rfl (vs := [Str (Go.Lib.cut line [32]).1, Str (Go.Lib.cut line [32]).2.1, .bool (Go.Lib.cut line [32]).2.2]) ⟨rfl, rfl, rfl, trivial⟩ fun H2 l2 => ?_
 generalize (Go.Lib.cut line [32]).1 = num at *
 generalize (Go.Lib.cut line [32]).2.1 = nam at *
 generalize (Go.Lib.cut line [32]).2.2 = two at *
 have hG2 := hG.le (Heap.le_trans l1 l2)
 have h2 := h.le (Heap.le_trans l1 l2)
 refine bn (Eh hG2 num (by omega)) ?_
 rintro rr H3 _ ⟨hr, rfl⟩ l3
 have hq : ∃ (n : Int) (ev : Value) (bad : Bool), rr = .tuple #[iV n, ev] ∧ ev.oneCell' = true ∧ (∀ w, ((PrimOp.eqv .neq 96 true).sem [ev, .nilIface]).run PP w = .ok (.value (.bool bad)) w) ∧ (bad = true → ∀ m, Go.Lib.atoiAll num ≠ .ok m) ∧ (bad = false → Go.Lib.atoiAll num = .ok n) := by
  rw [xh] at hr
  rcases ha : Go.Lib.atoiAll num with v | _ | _
  ·rw [ha] at hr; exact ⟨v, .nilIface, false, hr, rfl, BC, fun e => (by cases e), fun _ => rfl⟩
  ·rw [ha] at hr; obtain ⟨n, q, e⟩ := hr; exact ⟨n, _, true, e, rfl, AQ, fun _ m e => (by cases e), fun e => (by cases e)⟩
  ·rw [ha] at hr; obtain ⟨n, q, e⟩ := hr; exact ⟨n, _, true, e, rfl, AQ, fun _ m e => (by cases e), fun e => (by cases e)⟩
 obtain ⟨n, ev, bad, rfl, hev, hrun, hbad, hgood⟩ := hq
 refine ⟨[iV n, ev], rfl, ⟨rfl, hev, trivial⟩, ?_⟩
 refine aa _ (av _) ?_
 refine ab ?_
 refine aa _ (av _) ?_
 refine ab ?_
 refine aa _ (aw _ _) ?_
 refine ab ?_
 refine aa _ (uk _ []) ?_
 refine ab ?_
 refine aa _ (aw _ _) ?_
 refine ab ?_
 refine ⟨.bool bad, fun _ => hrun, rfl, ?_⟩
 refine ab ?_
 refine aa _ (aw _ _) (ai (fun hd => ?_) (fun hd => ?_))
 ·refine ae (ae ?_)
  refine af ⟨?_, by simp⟩
  have : du cs s = A8 := by
   rw [hV]
   split
   ·rfl
   ·rename_i hc
    simp only [not_or] at hc
    obtain ⟨c1, c2, c3⟩ := hc
    have hb : bad = true := by
     have hd : (((!whole || !two) || (nam == [])) || bad) = true := hd
     have e3 : (nam == []) = false := by simpa using c3
     rw [Bool.not_eq_false] at c1 c2
     rw [c1, c2, e3] at hd
     simpa using hd
    split
    ·rename_i m hm; exact absurd hm (hbad hb m)
    ·rfl
  rw [this]; rfl
 have hd : (((!whole || !two) || (nam == [])) || bad) = false := hd
 simp only [Bool.or_eq_false_iff, Bool.not_eq_false'] at hd
 obtain ⟨⟨⟨c1, c2⟩, c3⟩, c4⟩ := hd
 have ha := hgood c4
 obtain ⟨n0, n1⟩ := Da ha
 have hV : du cs s = if Go.Lib.itoa n ≠ num ∨ n < 1 ∨ n > 60 then A8 else (((mZ cs nam).1, n), (mZ cs nam).2) := by
  rw [hV, if_neg (by rw [c1, c2]; simp; simpa using c3), ha]
 rw [hV]
 refine ak (DZ (hG2.le l3) n n0 n1 _) rfl ⟨rfl, trivial⟩ fun H4 l4 => ?_
 refine aa _ (xF _ _) ?_
 refine ab ?_
 refine aa _ (aF _ _) ?_
 refine ab ?_
 refine aa _ (aw _ _) ?_
 refine ab ?_
 refine aa _ (cH _ _) ?_
 refine ab ?_
 refine aa _ (aw _ _) (ai (fun hd => ?_) (fun hd => ?_))
 ·refine ae (ae ?_)
  refine af ⟨?_, by simp⟩
  rw [if_pos]
  ·rfl
  have hd : ((!(Go.Lib.itoa n == num) || decide (n < 1)) || decide (n > 60)) = true := hd
  simp only [Bool.or_eq_true, decide_eq_true_eq, Bool.not_eq_true', beq_eq_false_iff_ne] at hd
  rcases hd with (hd | hd) | hd
  ·exact .inl hd
  ·exact .inr (.inl hd)
  ·exact .inr (.inr hd)
 ·have hd : ((!(Go.Lib.itoa n == num) || decide (n < 1)) || decide (n > 60)) = false := hd
  simp only [Bool.or_eq_false_iff, decide_eq_false_iff_not, Bool.not_eq_false', beq_iff_eq] at hd
  rw [if_neg (by rintro (h | h | h); exact h hd.1.1; exact hd.1.2 h; exact hd.2 h)]
  refine ak (Ec (h2.le (Heap.le_trans l3 l4)) nam _) rfl (vs := [iV (mZ cs nam).1, iV (mZ cs nam).2]) ⟨rfl, rfl, trivial⟩ fun H5 l5 => ?_
  refine ae (ae ?_)
  exact af ⟨rfl, by simp⟩
def dK (s : List UInt8) : Nat := if 0 ≤ Go.Lib.indexByte s 10 then (Go.Lib.indexByte s 10).toNat + 1 else s.length
def cq : Nat → List UInt8 → List (List UInt8)
 | 0, _ => []
 | n + 1, s => if s = [] then [] else s.take (dK s) :: cq n (s.drop (dK s))
theorem kL {s : List UInt8} (h : s ≠ []) : 1 ≤ dK s ∧ dK s ≤ s.length := by
 have hp := List.length_pos_iff.2 h
 rw [dK]
 split
 ·rename_i h0
  have h1 := (Go.Lib.indexByte_some (l := s) (c := 10) (o := (Go.Lib.indexByte s 10).toNat) (by omega)).1
  have h2 : (Go.Lib.indexByte s 10).toNat < s.length := (List.getElem?_eq_some_iff.1 h1).1
  omega
 ·omega
theorem lE : ∀ (m : Nat) (s : List UInt8), s.length ≤ m → cq m s = cq s.length s
 | 0, s, h => by rw [List.eq_nil_of_length_eq_zero (Nat.le_zero.1 h)]; rfl
 | m + 1, s, h => by
  by_cases hs : s = []
  ·subst hs; rfl
  ·obtain ⟨h1, h2⟩ := kL hs
   have hp := List.length_pos_iff.2 hs
   obtain ⟨k, hk⟩ : ∃ k, s.length = k + 1 := ⟨s.length - 1, by omega⟩
   rw [hk, cq, cq, if_neg hs, if_neg hs, lE m _ (by rw [List.length_drop]; omega), lE k _ (by rw [List.length_drop]; omega)]
theorem lF {s : List UInt8} (h : s ≠ []) : cq s.length s = s.take (dK s) :: cq (s.drop (dK s)).length (s.drop (dK s)) := by
 obtain ⟨h1, h2⟩ := kL h
 have hp := List.length_pos_iff.2 h
 obtain ⟨k, hk⟩ : ∃ k, s.length = k + 1 := ⟨s.length - 1, by omega⟩
 rw [hk, cq, if_neg h, lE k _ (by rw [List.length_drop]; omega)]
theorem Eo {b : ByteArray} {l : List UInt8} (h : b.toList = l) : b = ⟨l.toArray⟩ := by
 rw [ByteArray.toList_eq] at h
 obtain ⟨d⟩ := b
 simp only at h
 rw [← h, Array.toArray_toList]
theorem Ag (s : List UInt8) (n : Nat) : (⟨s.toArray⟩ : ByteArray).extract 0 n = ⟨(s.take n).toArray⟩ := by
 refine Eo ?_
 rw [Go.Lib.extract_toList]
 simp
theorem Ah (s : List UInt8) (n : Nat) : (⟨s.toArray⟩ : ByteArray).extract n s.length = ⟨(s.drop n).toArray⟩ := by
 refine Eo ?_
 rw [Go.Lib.extract_toList, List.take_of_length_le (by simp)]
section
open Go.RowKit Go.Shelf
attribute [local go_sem] Oper.semAt_some
set_option maxHeartbeats 2000000 in
theorem Ba (l k1 : Nat) (K : List (List UInt8) → List UInt8 → World → Prop) (Kx : World → Prop)
  (hbox : ∀ pre rest W, K pre rest W → W.cell? ⟨k1, 0, none⟩ = some (.string ⟨rest.toArray⟩) ∧ W.frozen? ⟨k1, 0, none⟩ = false ∧ rest.length < 100000)
  (hset : ∀ pre rest rest' W, K pre rest W → rest'.length ≤ rest.length → K pre rest' (W.setCell ⟨k1, 0, none⟩ (.string ⟨rest'.toArray⟩))) (hdrew : ∀ pre rest W, K pre rest W → K pre rest W.drew)
  (all : List (List UInt8)) (hY : ∀ pre x rest W, (pre ++ [x]) <+: all → K pre rest W → YieldAt Fence.wide (1 - 1) Tryz.prog l #[.string ⟨x.toArray⟩] W fun e W' => (e = .returned (.bool true) ∧ K (pre ++ [x]) rest W') ∨ (e = .returned (.bool false) ∧ Kx W'))
  (s : List UInt8) (hall : all = cq s.length s) (W : World) (h0 : K [] s W) :
  CallsIn Fence.wide 1 Tryz.prog 80 #[.func (.yield l) #[] #[], .pointer (some ⟨k1, 0, none⟩)] W fun e W' => (∃ v, e = .returned v) ∧ ((∃ rest, K all rest W') ∨ Kx W') := by
 have hn : 1 ≤ 1 := Nat.le_refl 1
 have hmix : Tryz.prog.follows .mixedOrders = true := mixed
 refine callsIn_of_wp Tryz.func80 rfl trivial ?_ rfl
 simp only [Tryz.ntmps80, List.size_toArray, List.length_cons, List.length_nil, Nat.reduceAdd, Nat.reduceSub, Array.replicate_succ, Array.replicate_zero, List.push_toArray, List.append_toArray, List.nil_append, List.cons_append]
 gi_wp2
 gi_loopw [] (fun wr => ∃ pre rest, K pre rest wr ∧ all = pre ++ cq rest.length rest)
  (fun wr => match wr.cell? ⟨k1, 0, none⟩ with | some (.string b) => b.size | _ => 0)
 case atStart => exact ⟨[], s, h0, by simpa using hall⟩
 case round =>
  obtain ⟨pre, rest, hK, hsp⟩ := hrel
  obtain ⟨hb, hfz, hlen⟩ := hbox _ _ _ hK
  have hidx : ∀ W', Calls Tryz.prog 81 #[.string ⟨rest.toArray⟩, .int .u8 10] W' fun e w' => e = .returned (.int .i64 (Go.Lib.indexByte rest 10)) ∧ w' = W' := fun W' => Tryz.strings_IndexByte ⟨rest.toArray⟩ 10 W'
  by_cases hr : rest = []
  ·subst hr
   have hK' : K all [] wr := by
    have e : all = pre := by rw [hsp]; simp [cq]
    rw [e]; exact hK
   gi_wp2
   go_end0
   exact ⟨⟨_, rfl⟩, .inl ⟨[], hK'⟩⟩
  ·have hsz : 0 < rest.length := List.length_pos_iff.2 hr
   generalize hi : Go.Lib.indexByte rest 10 = ix at *
   by_cases h0 : 0 ≤ ix
   ·obtain ⟨n, rfl⟩ : ∃ n : Nat, ix = (n : Int) := ⟨ix.toNat, by omega⟩
    have hle : dK rest = n + 1 := by rw [dK, hi, if_pos (by omega)]; omega
    have hn1 : n + 1 ≤ rest.length := by rw [← hle]; exact (kL hr).2
    have hn2 : ((n : Int) + 1) ≤ (rest.length : Int) := by omega
    have hall2 := lF hr
    rw [hle] at hall2
    rw [hall2] at hsp
    obtain ⟨fn, tmps, assign, body, hy, hR⟩ := hY pre (rest.take (n + 1)) (rest.drop (n + 1)) _ (by rw [hsp]; exact ⟨_, by rw [List.append_assoc]; rfl⟩) (hdrew _ _ _ (hset pre rest (rest.drop (n + 1)) wr hK (by rw [List.length_drop]; omega)))
    gi_wp2_with (refine ⟨trivial, ?_⟩; gi_at_call 81; refine (callsIn_wide.2 (hidx _)).mono ?_; rintro e w' ⟨rfl, rfl⟩)
    gi_region_o
    rw [Ag, Ah]
    gi_wp2
    refine hR.mono ?_
    rintro e W3 (⟨rfl, hJ3⟩ | ⟨rfl, hJx3⟩)
    ·obtain ⟨hb3, _, _⟩ := hbox _ _ _ hJ3
     gi_wp2
     go_roundw
     case rel => exact ⟨_, _, hJ3, by rw [hsp, List.append_assoc]; rfl⟩
     case measure => rw [hb3, hb]; simp [ByteArray.size]; omega
    ·gi_wp2
     refine bodyPost_ret (results_none rfl _ _ _) rfl ?_
     exact ⟨⟨_, rfl⟩, .inr hJx3⟩
   ·have hle : dK rest = rest.length := by rw [dK, hi, if_neg h0]
    have hall2 := lF hr
    rw [hle, List.take_length, List.drop_length] at hall2
    rw [hall2] at hsp
    have hix : ix < 0 := by omega
    obtain ⟨fn, tmps, assign, body, hy, hR⟩ := hY pre rest [] _ (by rw [hsp]; exact ⟨_, by rw [List.append_assoc]; rfl⟩) (hset pre rest [] wr hK (Nat.zero_le _))
    gi_wp2_with (refine ⟨trivial, ?_⟩; gi_at_call 81; refine (callsIn_wide.2 (hidx _)).mono ?_; rintro e w' ⟨rfl, rfl⟩)
    refine hR.mono ?_
    rintro e W3 (⟨rfl, hJ3⟩ | ⟨rfl, hJx3⟩)
    ·obtain ⟨hb3, _, _⟩ := hbox _ _ _ hJ3
     gi_wp2
     go_roundw
     case rel => exact ⟨_, _, hJ3, by rw [hsp, List.append_assoc]; rfl⟩
     case measure => rw [hb3, hb]; simp [ByteArray.size]; omega
    ·gi_wp2
     refine bodyPost_ret (results_none rfl _ _ _) rfl ?_
     exact ⟨⟨_, rfl⟩, .inr hJx3⟩
end
noncomputable def c33 : Code := (Tryz.f33.body).getD .skip
noncomputable abbrev f33 : Func := Tryz.f33
def h33 (r0 r1 r2 r3 : Nat) (p fv : Value) : SS := { sz := 52, tmps := fun t => if t = 2 then .s (.at (.p 0 r0 0)) else if t = 4 then .s (.at (.p 1 r1 0)) else if t = 5 then .s (.at (.p 2 r2 0)) else if t = 6 then .s (.at (.p 3 r3 0)) else if t = 15 then .s (.at (.v fv)) else .s (.at .any), mem := fun n => if n = 0 then some ⟨r0, 24, [.v p]⟩ else if n = 1 then some ⟨r1, 23, [.any]⟩ else if n = 2 then some ⟨r2, 3, [.any]⟩ else if n = 3 then some ⟨r3, 31, [.any]⟩ else none, next := 50 }
abbrev BP (r0 r1 r2 r3 : Nat) (p : Value) : List (Nat × Bx × List Nat × Nat) := [(0, ⟨r0, 24, [.v p]⟩, [], 0), (1, ⟨r1, 23, [.any]⟩, [0], 0), (2, ⟨r2, 3, [.any]⟩, [0], 1), (3, ⟨r3, 31, [.any]⟩, [0], 2)]
def EB (s : SS) : Value := match s.tmps 15 with | .s x => x.den | _ => .nilIface
noncomputable def Dz (vs : List Value) (QC : Nat → Nat → Nat → Nat → Value → List Value → Heap → Go.Sx.Own → Prop) : Tree := sx PP opK (lV c33) (gk PP f33 vs) (fun s => sx PP opK (lV (eW c33)) s (fun s => sx PP opK (lV (lV (eW (eW c33)))) s
 (fun s => dH 0 (QC (rOf s 2) (rOf s 4) (rOf s 5) (rOf s 6) (EB s)) [] [2, 4, 5, 6, 15] (BP (rOf s 2) (rOf s 4) (rOf s 5) (rOf s 6) (g vs 0)) (h33 (rOf s 2) (rOf s 4) (rOf s 5) (rOf s 6) (g vs 0) (EB s)) s) (fun _ => none) (fun _ => .stuck 1)) (fun _ => none) (dW PP f33)) (fun _ => none) (fun _ => .stuck 1)
noncomputable def R33 (r0 r1 r2 r3 : Nat) (p fv : Value) (Rel : List (List UInt8) → List Value → Heap → Go.Sx.Own → Prop) (RelX : List Value → Heap → Go.Sx.Own → Prop) : RangeLoop PP opK (List UInt8) := { h := h33 r0 r1 r2 r3 p fv, keep := [2, 4, 5, 6, 15], hb := BP r0 r1 r2 r3 p, p := 16, enc := fun x => .string ⟨x.toArray⟩, assign := rfA (A7 (eW (lV (eW (eW c33))))), body := rfB (A7 (eW (lV (eW (eW c33))))), Rel, RelX }
noncomputable def AN (r0 r1 r2 r3 : Nat) (p fv : Value) (v : List Value) : Tree := sx PP opK (eW (eW (eW c33))) (gi (h33 r0 r1 r2 r3 p fv) [] [2, 4, 5, 6, 15] (BP r0 r1 r2 r3 p) v) (dW PP f33) (fun _ => none) (dW PP f33)
def pP (r : Nat) : Value := .pointer (some ⟨r, 0, none⟩)
def EE (r0 r1 r2 r3 : Nat) (p fv : Value) : List (List Value × List Value) := [([pP r0], [pP r0]), ([pP r1], [pP r1]), ([pP r2], [pP r2]), ([pP r3], [pP r3]), ([fv], [fv]), ([pP r0, p], [pP r0, p]), ([pP r1, .tuple #[]], [pP r1, .tuple #[]]), ([pP r2, .tuple #[]], [pP r2, .tuple #[]]), ([pP r3, .tuple #[]], [pP r3, .tuple #[]])]
def k3 (r1 r2 r3 : Nat) (t : Tree) : Tree := .chk (.eqN r1 r1) (.chk (.eqN r2 r2) (.chk (.eqN r3 r3) t))
theorem zM (vs : List Value) (QC : Nat → Nat → Nat → Nat → Value → List Value → Heap → Go.Sx.Own → Prop) : Dz vs QC = .newbox fun r0 => .newbox fun r1 => .newbox fun r2 => .newbox fun r3 => .chk (.eqN r0 r0) (.call false 36 [g vs 0] [] [] .one fun l _ => .br (g l 0)
  (k3 r1 r2 r3 (k3 r1 r2 r3 (.ret (.tuple #[.slice none 0 0, iV 0, iV 1]) [])))
  (.call false 50 [g vs 1] [] [] .one fun m _ => .cont 0 (QC r0 r1 r2 r3 (g m 0)) [.slice none 0 0, iV 0, iV 0] (EE r0 r1 r2 r3 (g vs 0) (g m 0)))) := by kernel_rfl
def yx (r0 r1 r2 r3 : Nat) (p fv : Value) (Rl : List Value → Heap → Go.Sx.Own → Prop) (vals : List Value) : Tree := .cont 0 (fun vs H O => Cons H O → ∃ H3 O3, Ghost H O H3 O3 ∧ Rl vs H3 O3) vals (EE r0 r1 r2 r3 p fv)
def vm (r0 r1 r2 r3 : Nat) (p fv : Value) (Rl RX : List Value → Heap → Go.Sx.Own → Prop) (v : List Value) (n e : Value) (q : Nat) (c d : Value) : Tree :=
 .pure [] (.bin .neq .int) [e, iV 0] fun b => .br b (.chk (.eqN r2 r2) (k3 r1 r2 r3 (yx r0 r1 r2 r3 p fv RX [.slice none 0 0, n, e])))
  (.chk (.eqN r1 r1) (.chk (.eqN q q) (.newbox fun r => .prim (.bi .append #[23, 23] 23) [g v 0, .slice (some ⟨r, 0, none⟩) 1 1] [⟨r, 77, [c, d]⟩] [] .one fun y _ => .chk (.eqN r1 r1) (yx r0 r1 r2 r3 p fv Rl [g y 0, n, g v 2]))))
theorem wu (r0 r1 r2 r3 : Nat) (p fv : Value) (Rel : List (List UInt8) → List Value → Heap → Go.Sx.Own → Prop) (RelX : List Value → Heap → Go.Sx.Own → Prop) (pre : List (List UInt8)) (x : List UInt8) (v : List Value) :
  (R33 r0 r1 r2 r3 p fv Rel RelX).round pre x v = .chk (.eqN r2 r2) (.pure [] (.bin .add .int) [g v 1, iV 1] fun n => .chk (.eqN r2 r2) (.chk (.eqN r0 r0) (.call false 51 [p, Str x] [] [] (.tup [some 2, none]) fun l _ => .newbox fun q => .chk (.eqN q q) (.pure [] (.bin .eql .int) [g l 2, iV 0] fun e0 => .br e0
   (.chk (.eqN r1 r1) (.call false 52 [g v 0, .func (.func 53) #[] #[pP q]] [] [⟨q, 77, [g l 0, g l 1]⟩] .one fun m cs => .br (g m 0)
    (.chk (.eqN r2 r2) (k3 r1 r2 r3 (yx r0 r1 r2 r3 p fv RelX [.slice none 0 0, n, iV 11])))
    (vm r0 r1 r2 r3 p fv (Rel (pre ++ [x])) RelX v n (g l 2) q (g (cs.getD 0 []) 0) (g (cs.getD 0 []) 1))))
   (vm r0 r1 r2 r3 p fv (Rel (pre ++ [x])) RelX v n (g l 2) q (g l 0) (g l 1)))))) := by kernel_rfl
theorem yc (r0 r1 r2 r3 : Nat) (p fv : Value) (v : List Value) : AN r0 r1 r2 r3 p fv v = .chk (.eqN r1 r1) (.call false 54 [g v 0, .func (.func 55) #[] #[]] [] [] (.tup []) fun _ _ => .chk (.eqN r0 r0) (.chk (.eqN r1 r1) (.call false 24 [p, g v 0] [] [] (.tup [none, none]) fun l _ =>
  .pure [] (.bin .neq .int) [g l 1, iV 0] fun b => .br b (k3 r1 r2 r3 (k3 r1 r2 r3 (.ret (.tuple #[.slice none 0 0, iV 0, g l 1]) []))) (.chk (.eqN r1 r1) (k3 r1 r2 r3 (k3 r1 r2 r3 (.ret (.tuple #[g v 0, iV 0, iV 0]) []))))))) := by kernel_rfl
def DO : Code → Code → Code → Code → Code → Code → Code := fun A B C ax bd post => .seq A (.seq B (.seq (.seq C (.block 0 (.rangeFunc (.tmp 15) #[16] ax bd))) post))
theorem Ek : c33 = DO (lV c33) (lV (eW c33)) (lV (lV (eW (eW c33)))) (rfA (A7 (eW (lV (eW (eW c33)))))) (rfB (A7 (eW (lV (eW (eW c33)))))) (eW (eW (eW c33))) := by kernel_rfl
end Go.Proofs.YtamgiojcbdbokaaGreatDoor
namespace Go.Sx
open Go
section
variable (enc : Int → List Value) (he : ∀ x, (enc x).length = 2)
include he
theorem iC (d : List Int) : (d.map enc).flatten.length = d.length * 2 := by
 have := aI (rows := d.map enc) (size := 2) (by simp [he])
 rwa [List.length_map] at this
theorem qQ (d : List Int) : (Sort.flatK enc 2 d.toArray).toList = (d.map enc).flatten := by
 refine List.ext_getElem? fun t => ?_
 have hl := iC enc he d
 rcases Nat.lt_or_ge t (d.length * 2) with h | h
 ·have h1 := Sort.get_flatK enc 2 d.toArray t (by simpa using h)
  rw [getElem!_pos _ t (by simpa using h)] at h1
  have hd : t / 2 < d.length := by omega
  rw [getElem!_pos _ (t / 2) (by simpa using hd)] at h1
  rw [List.getElem?_eq_getElem (by simpa using h), Array.getElem_toList, h1]
  have hg : (d.map enc)[t / 2]? = some (enc d[t / 2]) := by simp [hd]
  have p := cw (rows := d.map enc) (size := 2) (by simp [he]) hg
  have e : (d.map enc).flatten[t]? = (enc d[t / 2])[t % 2]? := by
   rw [← p, List.getElem?_take, if_pos (by omega), List.getElem?_drop]
   congr 1; omega
  rw [e]
  have h2 : t % 2 < (enc d[t / 2]).length := by rw [he]; omega
  rw [List.getElem?_eq_getElem h2, ← getElem!_pos (enc d[t / 2]) (t % 2) h2]
  simp
 ·rw [List.getElem?_eq_none (by simpa using h), List.getElem?_eq_none (by omega)]
theorem uB {w : World} {H : Heap} {r : Nat} {cs : List Value} {T : TypeId} {O : Go.Sx.Own} (hm : Models w H ((r, .cells cs.toArray T (0, 0)) :: O)) {d : List Int} (hl : d.length * 2 ≤ cs.length) (n : Nat) (os : Array Obj) :
  Models (Go.Proofs.sortWorldK enc 2 w r 0 n d.toArray os) H ((r, .cells ((d.map enc).flatten ++ cs.drop (d.length * 2)).toArray T (0, 0)) :: O) := by
 have hrow := (hm.own (r, .cells cs.toArray T (0, 0)) (by simp)).1
 have hall : ∀ (F : List Value) (cs : List Value), F.length ≤ cs.length → Sort.putCells id 0 F.toArray cs.toArray = (F ++ cs.drop F.length).toArray := by
  intro F cs h
  refine Array.ext' (List.ext_getElem? fun k => ?_)
  simp only [Sort.putCells, Array.toList_mapIdx, List.getElem?_mapIdx, List.getElem?_append, List.size_toArray, id]
  by_cases hk : k < F.length
  ·rw [if_pos hk, List.getElem?_eq_getElem (by omega : k < cs.length), List.getElem?_eq_getElem hk]
   simp only [Option.map_some, Option.some.injEq]
   rw [if_pos ⟨Nat.zero_le _, by omega⟩, Nat.sub_zero, getElem!_pos _ k (by simpa using hk)]
   rfl
  ·rw [if_neg hk, List.getElem?_drop, show F.length + (k - F.length) = k by omega]
   rcases Nat.lt_or_ge k cs.length with hc | hc
   ·rw [List.getElem?_eq_getElem hc, Option.map_some, if_neg (by omega)]
   ·rw [List.getElem?_eq_none hc]; rfl
 unfold Go.Proofs.sortWorldK
 refine kf (Models.update (w := w) (w' := Sort.putRowK enc 2 (Sort.ahead w n) r 0 d.toArray) (o' := .cells ((d.map enc).flatten ++ cs.drop (d.length * 2)).toArray T (0, 0)) hm (fun b hb => ?_) ?_ rfl) os
 ·simp [Sort.putRowK, Sort.putRow, Sort.mapBlock, Sort.ahead, Array.getElem?_modify, Ne.symm hb]
 ·have hF := qQ enc he d
  have e : Sort.flatK enc 2 d.toArray = ((d.map enc).flatten).toArray := by rw [← hF]
  simp only [Sort.putRowK, Sort.putRow, Sort.mapBlock, Sort.ahead, Array.getElem?_modify, if_true, hrow, Option.map_some, Sort.onCells, e]
  rw [hall _ _ (by rw [iC enc he]; exact hl), iC enc he]
theorem wC {w : World} {H : Heap} {r : Nat} {cs : List Value} {T : TypeId} {O : Go.Sx.Own} (hm : Models w H ((r, .cells cs.toArray T (0, 0)) :: O)) {d : List Int} (hd : (d.map enc).flatten = cs.take (d.length * 2)) (hl : d.length * 2 ≤ cs.length) :
  Sort.HoldsK enc 2 w r 0 d.toArray ∧ r < w.heap.size := by
 have hrow := (hm.own (r, .cells cs.toArray T (0, 0)) (by simp)).1
 have hlt : r < w.heap.size := (Array.getElem?_eq_some_iff.1 hrow).1
 have e : Sort.flatK enc 2 d.toArray = ((d.map enc).flatten).toArray := by rw [← qQ enc he d]
 refine ⟨fun j hj => ?_, hlt⟩
 rw [e] at hj ⊢
 have hj' : j < d.length * 2 := by rw [← iC enc he d]; simpa using hj
 have hv : ((d.map enc).flatten.toArray[j]!) = cs[j]'(by omega) := by
  rw [getElem!_pos _ j hj]
  have : (d.map enc).flatten[j]? = cs[j]? := by rw [hd, List.getElem?_take, if_pos hj']
  rw [List.getElem?_eq_getElem (by simpa using hj), List.getElem?_eq_getElem (by omega : j < cs.length)] at this
  simpa using this
 constructor
 ·rw [hv]
  simp only [World.cell?, hrow, Nat.zero_add, id]
  simp [List.getElem?_eq_getElem (by omega : j < cs.length)]
 ·rw [Nat.zero_add]; exact frozen_of_row w r j _ T hrow
end
end Go.Sx
namespace Go.Proofs.YtamgiojcbdbokaaGreatDoor
open Go Go.Sx
open Go.Sx (Own)
set_option maxRecDepth 100000
set_option maxHeartbeats 1000000
section
open Go.Shelf Go.RowKit Go.Lib Go.Sort
theorem zn (x a y b : Int) (W : World) : Calls Tryz.prog 55 #[.agg #[.int .i64 x, .int .i64 a], .agg #[.int .i64 y, .int .i64 b]] W fun e w' => e = .returned (.int .i64 (Lib.compareInt x y)) ∧ ∃ q os', w' = grow (W.drewN q) os' := by
 have hcon := fun W' => AnyG.cmp_Compare_int Tryz.cmpInt x y W'
 change ∀ W', Calls Tryz.prog 56 _ _ _ at hcon
 generalize Lib.compareInt x y = r at hcon ⊢
 go_enter Tryz.func55, Tryz.ntmps55
 go_wp2_with (go_at_call 56; refine (hcon _).mono ?_; rintro e w' ⟨rfl, rfl⟩)
 go_ret
 exact ⟨rfl, 0, _, by rw [alloc_eq_grow, alloc_eq_grow, grow_grow]; rfl⟩
theorem DI (x y : Int) : ltOf (fun x y : Int => Lib.compareInt x y) x y = decide (x < y) := by
 unfold ltOf Lib.compareInt
 by_cases h1 : x < y
 ·simp [h1]
 ·by_cases h2 : y < x <;> simp [h1, h2]
theorem EM : SWO (ltOf fun x y : Int => Lib.compareInt x y) where
 irrefl x := by rw [DI]; simp
 trans x y z h1 h2 := by rw [DI] at *; simp at *; omega
 ntrans x y z h1 h2 := by rw [DI] at *; simp at *; omega
theorem uF (l : List Int) : (l.mergeSort fun x y => !(ltOf fun x y : Int => Lib.compareInt x y) y x) = cR l := by
 have e : (fun x y : Int => !(ltOf fun x y : Int => Lib.compareInt x y) y x) = fun x y => decide (x ≤ y) := by
  funext x y
  rw [DI]
  by_cases h : x ≤ y
  ·rw [decide_eq_true h, decide_eq_false (by omega)]; rfl
  ·rw [decide_eq_false h, decide_eq_true (by omega)]; rfl
 rw [e]; rfl
def uS (l : List Cp) (c : Int) : Int := match l.find? (fun x => x.card == c) with | some x => x.n | none => 0
def lv (l : List Cp) : List Cp := (cR (l.map (·.card))).map fun c => ⟨c, uS l c⟩
theorem tK {l : List Cp} (hn : (l.map (·.card)).Nodup) {x : Cp} (hx : x ∈ l) : uS l x.card = x.n := by
 have h : ∀ (l : List Cp), (l.map (·.card)).Nodup → x ∈ l → l.find? (fun y => y.card == x.card) = some x := by
  intro l
  induction l with
  | nil => intro _ h; cases h
  | cons y r ih =>
   intro hn hx
   rw [List.map_cons, List.nodup_cons] at hn
   rcases List.mem_cons.1 hx with rfl | hx
   ·rw [List.find?_cons_of_pos (by simp)]
   ·rw [List.find?_cons_of_neg (by
     simp only [beq_iff_eq]
     intro e
     exact hn.1 (List.mem_map.2 ⟨x, hx, e.symm⟩))]
    exact ih hn.2 hx
 rw [uS, h l hn hx]
theorem CE {H : Heap} {v : Value} {l : List Cp} {O : Go.Sx.Own} (h : OSl ar 2 v (l.map Cp.row) O) (hn : (l.map (·.card)).Nodup) (hlen : l.length ≤ 4000000) :
  Triple PP 54 [v, .func (.func 55) #[] #[]] H O fun r _ O' => r = .tuple #[] ∧ OSl ar 2 v ((lv l).map Cp.row) O' := by
 let enc : Int → List Value := fun c => [iV c, iV (uS l c)]
 have he : ∀ x, (enc x).length = 2 := fun _ => rfl
 have hrows : l.map Cp.row = (l.map (·.card)).map enc := by
  rw [List.map_map]
  refine List.map_congr_left fun x hx => ?_
  show [iV x.card, iV x.n] = [iV x.card, iV (uS l x.card)]
  rw [tK hn hx]
 have hrows2 : (lv l).map Cp.row = (cR (l.map (·.card))).map enc := by rw [lv, List.map_map]; rfl
 rw [hrows] at h
 rw [hrows2]
 have hcl0 : (l.map (·.card)).length = l.length := List.length_map _
 generalize l.map (·.card) = d at *
 rcases h with ⟨⟨a, rfl⟩, hr, rfl⟩ | ⟨r, cs, cap, rfl, rfl, hcl, hlc, hcap, hl, ho, ht⟩
 ·have hnil : d = [] := by simpa using hr
  subst hnil
  intro w F hm
  have hcon := AnyF.slices_SortFunc_none Tryz.sortT a 0 (.func (.func 55) #[] #[]) w
  change Calls PP 54 _ _ _ at hcon
  refine hcon.mono ?_
  rintro _ _ ⟨rfl, rfl⟩
  exact ⟨_, H, [], rfl, ⟨rfl, .inl ⟨⟨a, rfl⟩, by simp [cR], rfl⟩⟩, Heap.le_refl H, hm⟩
 ·intro w F hm
  rw [List.length_map] at hlc ht
  have hfit : d.length * 2 ≤ cs.length := by rw [hcl]; exact Nat.mul_le_mul_right 2 hlc
  have hm' : Models w H ((r, .cells cs.toArray ar (0, 0)) :: F) := by simpa using hm
  obtain ⟨hH, hblk⟩ := wC enc he hm' ht.symm hfit
  have eg : ∀ args w, (callFunc 55 args).run PP w = .ok (.enter 55 args) w := enters_of Tryz.func55 (by kernel_rfl) rfl
  have hcon := AnyQ.slices_SortFunc_total Tryz.sortT 2 Tryz.isAgg77 Tryz.sizeOf77 enc (fun _ => rfl) (fun x v hv => by simp [enc] at hv; rcases hv with rfl | rfl <;> rfl) (fun x y => Lib.compareInt x y) EM 55 #[] r 0 cap d.toArray w eg
   (fun _ _ _ _ x y => zn x _ y _ _) hH hblk (by simp; omega) (fun x y h1 h2 => by rw [DI] at h1 h2; simp at h1 h2; omega)
  change Calls PP 54 _ _ _ at hcon
  rw [uF] at hcon
  rw [List.length_map]
  refine hcon.mono ?_
  rintro _ _ ⟨rfl, n, os, rfl⟩
  have hsl : (cR d).length = d.length := lU d
  have hmm := uB enc he hm' (d := cR d) (by rw [hsl]; exact hfit) n os
  refine ⟨_, H, [(r, .cells (((cR d).map enc).flatten ++ cs.drop ((cR d).length * 2)).toArray ar (0, 0))], rfl, ⟨rfl, .inr ⟨r, ((cR d).map enc).flatten ++ cs.drop ((cR d).length * 2), cap, ?_, rfl, ?_, ?_, hcap, ?_, ?_, ?_⟩⟩, Heap.le_refl H, by rw [List.singleton_append]; exact hmm⟩
  ·rw [List.length_map, hsl]
  ·rw [List.length_append, List.length_drop, iC enc he, hsl, hcl]; omega
  ·rw [List.length_map, hsl]; exact hlc
  ·intro x hx; obtain ⟨y, _, rfl⟩ := List.mem_map.1 hx; rfl
  ·intro x hx; obtain ⟨y, _, rfl⟩ := List.mem_map.1 hx; exact ⟨rfl, rfl, trivial⟩
  ·rw [List.length_map, ← iC enc he, List.take_left]
end
end Go.Proofs.YtamgiojcbdbokaaGreatDoor
namespace Go.Proofs.YtamgiojcbdbokaaGreatDoor
open Go Go.Sx
open Go.Sx (Own)
set_option maxRecDepth 100000
set_option maxHeartbeats 1000000
def bxC (q : Nat) (c d : Int) : BV := ⟨q, 77, [iV c, iV d]⟩
theorem fs0 (y : Cp) (q : Nat) (c d : Int) (H : Heap) (O : Go.Sx.Own) : RetO PP lq ([.agg y.row.toArray] ++ [pP q]) H ((bxC q c d).obj :: O) (.bool (y.card == c)) := by
 refine oq (vs := [iV y.card, iV y.n, pP q]) (by kernel_rfl) ⟨rfl, rfl, rfl, trivial⟩ ?_
 simp only [ll]
 refine aj fun r0 => ?_
 refine ae (au rfl ?_)
 refine ao (vs := [iV c]) (.inr ⟨⟨q, 0, none⟩, #[iV c, iV d], _, rfl, rfl, List.mem_cons_self, rfl, by simp⟩) rfl ⟨rfl, trivial⟩ ?_
 exact aa _ (an _ _) (af ⟨rfl, rfl⟩)
theorem Eb {H : Heap} {O : Go.Sx.Own} {v : Value} {l : List Cp} (h : OSl ar 2 v (l.map Cp.row) O) (q : Nat) (c d : Int) :
  RetO PP bh [v, .func (.func 53) #[] #[pP q]] H ((bxC q c d).obj :: O) (iV (rV (fun y => y.card == c) l 0)) := by
 refine cE (vs := [v, .func (.func 53) #[] #[pP q]]) (by kernel_rfl) ⟨h.one, rfl, trivial⟩ ?_
 simp only [be]
 have hl := h.len
 have hB := h.lenB
 rw [List.length_map] at hl hB
 refine aa _ hl ?_
 refine aL l.length (fun i H' O' => O' = (bxC q c d).obj :: O ∧ Heap.le H H' ∧ rV (fun y => y.card == c) l 0 = rV (fun y => y.card == c) (l.drop i) i) ⟨rfl, Heap.le_refl H, by simp⟩ ?_
 rintro i H' _ hi - ⟨rfl, hle, hor⟩
 refine aa _ (aF _ _) (ai (fun hb => ?_) (fun hb => ?_))
 ·have hlt : i < l.length := by simpa using hb
  obtain ⟨a, k1, _, k2, _⟩ := h.idx (O := (bxC q c d).obj :: O) (fun p hp => List.mem_cons_of_mem _ hp) H' (k := .i64) (i := i) (row := l[i].row) (by simp [hlt])
  refine aa _ k1 (ao k2 rfl ⟨rfl, rfl, trivial⟩ (mA rfl (ie ju (by decide)) (fs0 l[i] q c d H' O) rfl ⟨rfl, trivial⟩ fun H2 hle2 => ai (fun hb => ?_) (fun hb => ?_)))
  ·refine af ⟨?_, rfl⟩
   rw [hor, List.drop_eq_getElem_cons hlt, rV, if_pos hb]; rfl
  ·refine aa _ (aD (by omega)) (az (by simp [Eqs, E]) hlt ⟨rfl, Heap.le_trans hle hle2, ?_⟩)
   rw [hor, List.drop_eq_getElem_cons hlt, rV, if_neg (by rw [hb]; simp)]; rfl
 ·have hge : l.length ≤ i := by simpa using hb
  refine af ⟨?_, rfl⟩
  rw [hor, List.drop_of_length_le hge]; rfl
theorem Eg {H : Heap} {O : Go.Sx.Own} {v : Value} {l : List Cp} (h : OSl ar 2 v (l.map Cp.row) O) (q : Nat) (c d : Int) :
  RetO PP aY [v, .func (.func 53) #[] #[pP q]] H ((bxC q c d).obj :: O) (.bool (l.any fun y => y.card == c)) := by
 refine bV (vs := [v, .func (.func 53) #[] #[pP q]]) (by kernel_rfl) ⟨h.one, rfl, trivial⟩ ?_
 simp only [aW]
 refine cI (O1 := (bxC q c d).obj :: O) (O2 := []) (by simp) (Eb h q c d) ?_
 rintro _ H1 _ ⟨rfl, rfl⟩ l1
 refine ⟨[_], rfl, ⟨rfl, trivial⟩, aa _ (iI _ _) (af ⟨?_, by simp⟩)⟩
 rw [← rU _ l 0 (by omega)]
def bW (cs : List CdF) : List (List UInt8) → List Cp → Int → List Cp ⊕ (Int × Int)
 | [], acc, _ => .inl acc
 | x :: r, acc, n => if (du cs x).2 ≠ 0 then .inr (n + 1, (du cs x).2) else if (acc.any fun y => y.card == (du cs x).1.1) = true then .inr (n + 1, 11)
  else bW cs r (acc ++ [⟨(du cs x).1.1, (du cs x).1.2⟩]) (n + 1)
def EJ (cs : List CdF) (pre : List (List UInt8)) (v : List Value) (_ : Heap) (O : Go.Sx.Own) : Prop := ∃ sl acc, v = [sl, iV (pre.length : Nat), iV 0] ∧ OSl ar 2 sl (acc.map Cp.row) O ∧ acc.length = pre.length ∧ (acc.map (·.card)).Nodup ∧ ∀ rest, bW cs (pre ++ rest) [] 0 = bW cs rest acc (pre.length : Nat)
def Dh (cs : List CdF) (all : List (List UInt8)) (v : List Value) (_ : Heap) (_ : Go.Sx.Own) : Prop := ∃ m e : Int, v = [.slice none 0 0, iV m, iV e] ∧ bW cs all [] 0 = .inr (m, e) ∧ e ≠ 0
theorem sf (r0 r1 r2 r3 : Nat) (p fv : Value) : Eqs (EE r0 r1 r2 r3 p fv) := by simp [EE, Eqs]
theorem qJ {cs : List CdF} {r0 r1 r2 r3 : Nat} {p fv : Value} {all pre : List (List UInt8)} {x : List UInt8} {sl : Value} {acc : List Cp} {H : Heap} {O : Go.Sx.Own} {q : Nat} {z : Value} {QT : Value → Heap → Go.Sx.Own → Prop}
  (hO : OSl ar 2 sl (acc.map Cp.row) O) (hlen : acc.length = pre.length) (hsm : pre.length < 100000) (hnd : (acc.map (·.card)).Nodup) (hgo : ∀ rest, bW cs (pre ++ rest) [] 0 = bW cs rest acc (pre.length : Nat)) (hpre : (pre ++ [x]) <+: all)
  (hany : (du cs x).2 = 0 → (acc.any fun y => y.card == (du cs x).1.1) = false) :
  (vm r0 r1 r2 r3 p fv (EJ cs (pre ++ [x])) (Dh cs all) [sl, z, iV 0] (iV ((pre.length + 1 : Nat) : Int)) (iV (du cs x).2) q (iV (du cs x).1.1) (iV (du cs x).1.2)).den PP QT H O := by
 obtain ⟨rest, hrest⟩ := hpre
 have hall : bW cs all [] 0 = bW cs (x :: rest) acc (pre.length : Nat) := by
  rw [← hgo, ← hrest, List.append_assoc]; rfl
 rw [vm]
 refine aa _ (dl _ _) (ai (fun hd => ?_) (fun hd => ?_))
 ·have he : (du cs x).2 ≠ 0 := by simpa using hd
  rw [bW, if_pos he] at hall
  exact ae (ae (ae (ae ⟨sf _ _ _ _ _ _, fun _ => ⟨H, O, Ghost.refl _ _, _, _, rfl, hall, he⟩⟩)))
 ·have he : (du cs x).2 = 0 := by simpa using hd
  have ha := hany he
  refine ae (ae (aj fun r => ?_))
  refine cB (rows := acc.map Cp.row) (news := [[iV (du cs x).1.1, iV (du cs x).1.2]]) (O1 := O) (O2 := []) (e := ar) (size := 2) (bytes := 16) (by kernel_rfl) (by simp) hO (fun Hf _ hf => Sl.block1 (hf _ List.mem_cons_self) rfl ⟨rfl, rfl, trivial⟩) (by simp; omega) (by simp; omega) ?_
  intro y O1' H' l' hO'
  refine ae ⟨sf _ _ _ _ _ _, fun _ => ⟨H', O1' ++ [], Ghost.refl _ _, y, acc ++ [⟨(du cs x).1.1, (du cs x).1.2⟩], by simp [g], ?_, by simp [hlen], ?_, ?_⟩⟩
  ·rw [List.append_nil, List.map_append]; exact hO'
  ·rw [List.map_append, List.nodup_append]
   refine ⟨hnd, by simp, fun a ha' b hb e => ?_⟩
   obtain ⟨y', hy', rfl⟩ := List.mem_map.1 ha'
   have hb : b = (du cs x).1.1 := by simpa using hb
   rw [List.any_eq_false] at ha
   exact ha y' hy' (by rw [e, hb]; simp)
  ·intro rest'
   rw [List.append_assoc, hgo, List.singleton_append, bW, if_neg (by rw [he]; simp), if_neg (by rw [ha]; simp)]
   simp
theorem rO : ∀ (m : Nat) (s : List UInt8), (∀ x ∈ cq m s, x.length ≤ s.length) ∧ (cq m s).length ≤ s.length
 | 0, s => ⟨fun x hx => (by cases hx), Nat.zero_le _⟩
 | m + 1, s => by
  by_cases hs : s = []
  ·rw [cq, if_pos hs]; exact ⟨fun x hx => (by cases hx), Nat.zero_le _⟩
  ·obtain ⟨h1, h2⟩ := kL hs
   obtain ⟨i1, i2⟩ := rO m (s.drop (dK s))
   rw [List.length_drop] at i1 i2
   rw [cq, if_neg hs]
   refine ⟨fun x hx => ?_, by rw [List.length_cons]; omega⟩
   rcases List.mem_cons.1 hx with rfl | hx
   ·rw [List.length_take]; omega
   ·have := i1 x hx; omega
theorem uw {cs : List CdF} {H0 H : Heap} {p fv : Value} (hp : PoolF H0 p cs) (hG : GlobOk H0) (hle : Heap.le H0 H) {s : List UInt8} (hs : s.length ≤ 1000) {pre : List (List UInt8)} {x : List UInt8} (hpre : (pre ++ [x]) <+: cq s.length s) {v : List Value} {O : Go.Sx.Own} (hrel : EJ cs pre v H O) (r0 r1 r2 r3 : Nat) (QT : Value → Heap → Go.Sx.Own → Prop) :
  ((R33 r0 r1 r2 r3 p fv (EJ cs) (Dh cs (cq s.length s))).round pre x v).den PP QT H O := by
 obtain ⟨sl, acc, rfl, hO, hlen, hnd, hgo⟩ := hrel
 obtain ⟨b1, b2⟩ := rO s.length s
 have hxm : x ∈ cq s.length s := by obtain ⟨r, hr⟩ := hpre; rw [← hr]; simp
 have hxl := b1 x hxm
 have hpl : pre.length < 1000 := by obtain ⟨r, hr⟩ := hpre; have := congrArg List.length hr; simp at this; omega
 rw [wu]
 refine ae (aa _ (aD (by omega)) (ae (ae ?_)))
 refine cI (O1 := []) (O2 := O) (by simp) (DV (hp.le hle) (hG.le hle) x (by omega)) ?_
 rintro _ H1 _ ⟨rfl, rfl⟩ l1
 refine ⟨[iV (du cs x).1.1, iV (du cs x).1.2, iV (du cs x).2], rfl, ⟨rfl, rfl, rfl, trivial⟩, aj fun q => ae ?_⟩
 rw [List.nil_append]
 refine aa _ (an _ _) (ai (fun hd => ?_) (fun hd => ?_))
 ·have he : (du cs x).2 = 0 := by simpa using hd
  refine ae ?_
  refine tQ (own := [bxC q (du cs x).1.1 (du cs x).1.2]) (O1 := O) (O2 := []) (by simp) (R := fun y _ O3 => y = .bool (acc.any fun y => y.card == (du cs x).1.1) ∧ O3 = O) ((Eg hO q _ _).mono fun y H' O' _ ⟨e1, e2⟩ => ⟨O, by rw [e2]; rfl, e1, rfl⟩) ⟨rfl, ⟨rfl, rfl, trivial⟩, trivial⟩ ?_
  rintro _ H2 _ ⟨rfl, rfl⟩ l2
  refine ⟨[_], rfl, ⟨rfl, trivial⟩, ?_⟩
  rw [List.append_nil]
  refine ai (fun hd => ?_) (fun hd => ?_)
  ·have ha : (acc.any fun y => y.card == (du cs x).1.1) = true := hd
   obtain ⟨rest, hrest⟩ := hpre
   have hall : bW cs (cq s.length s) [] 0 = bW cs (x :: rest) acc (pre.length : Nat) := by
    rw [← hgo, ← hrest, List.append_assoc]; rfl
   rw [bW, if_neg (by rw [he]; simp), if_pos ha] at hall
   exact ae (ae (ae (ae ⟨sf _ _ _ _ _ _, fun _ => ⟨H2, _, Ghost.refl _ _, _, _, rfl, hall, by decide⟩⟩)))
  ·exact qJ hO hlen (by omega) hnd hgo hpre fun _ => hd
 ·have he : (du cs x).2 ≠ 0 := by simpa using hd
  exact qJ hO hlen (by omega) hnd hgo hpre fun e => absurd e he
def cG (cs : List CdF) (s : List UInt8) : List Cp × Int × Int := match bW cs (cq s.length s) [] 0 with
 | .inr (m, e) => ([], m, e)
 | .inl acc => if (aE cs (lv acc)).2 ≠ 0 then ([], 0, (aE cs (lv acc)).2) else (lv acc, 0, 0)
def rh (cs : List CdF) (s : List UInt8) (r : Value) (H' : Heap) (_ : Go.Sx.Own) : Prop := ∃ sl, r = .tuple #[sl, iV (cG cs s).2.1, iV (cG cs s).2.2] ∧ ol H' sl (cG cs s).1
theorem pW {T : Heap → Go.Sx.Own → (Value → Heap → Go.Sx.Own → Prop) → Prop} {e : TypeId} {size : Nat} {v : Value} {rows : List (List Value)} {H : Heap} {O : Go.Sx.Own} {shp : Shp} {K : List Value → List (List Value) → Heap → Go.Sx.Own → Prop}
  (h : OSl e size v rows O) (hk : ∀ H', Heap.le H H' → Sl H' size v rows → cg T false [] [] shp K H' []) : cg T false [] [] shp K H O := by
 intro hc
 have hc' : Cons H O := by simpa using hc
 obtain ⟨H', g, k, l⟩ := h.freeze (X := []) (by simpa using hc')
 have hg : Ghost H O H' [] := by simpa using g
 obtain ⟨H1, O1, O2, Q, g2, h2, h3⟩ := hk H' l k (by simpa using hc'.ghost hg)
 exact ⟨H1, O1, O2, Q, hg.trans g2, h2, h3⟩
theorem wx {cs : List CdF} {H0 H : Heap} {p fv sl n : Value} (hp : PoolF H0 p cs) (hle : Heap.le H0 H) {s : List UInt8} {acc : List Cp} {O : Go.Sx.Own} (hO : OSl ar 2 sl (acc.map Cp.row) O) (hnd : (acc.map (·.card)).Nodup) (hlen : acc.length ≤ 1000) (hgo : bW cs (cq s.length s) [] 0 = .inl acc) (r0 r1 r2 r3 : Nat) :
  (AN r0 r1 r2 r3 p fv [sl, n, iV 0]).den PP (rh cs s) H O := by
 rw [yc]
 have hcl : (lv acc).length = acc.length := by rw [lv, List.length_map, lU, List.length_map]
 have hone := hO.one
 refine ae ?_
 refine cI (O1 := O) (O2 := []) (by simp) (CE hO hnd (by omega)) ?_
 rintro _ H1 O1 ⟨rfl, h1⟩ l1
 refine ⟨[], rfl, trivial, ?_⟩
 rw [List.append_nil]
 refine ae (ae ?_)
 refine pW h1 fun H2 l2 hsl => ?_
 refine ak (ni (hp.le (Heap.le_trans hle (Heap.le_trans l1 l2))) hsl (by omega)) rfl (vs := [iV (aE cs (lv acc)).1, iV (aE cs (lv acc)).2]) ⟨rfl, rfl, trivial⟩ fun H3 l3 => ?_
 refine aa _ (dl _ _) (ai (fun hd => ?_) (fun hd => ?_))
 ·have he : (aE cs (lv acc)).2 ≠ 0 := by simpa using hd
  refine ae (ae (ae (ae (ae (ae (af ⟨.slice none 0 0, ?_, ?_⟩))))))
  ·rw [cG, hgo]; simp only []; rw [if_pos he]; rfl
  ·rw [cG, hgo]; simp only []; rw [if_pos he]; exact Sl.nil _ _
 ·have he : ¬ (aE cs (lv acc)).2 ≠ 0 := by simpa using hd
  refine ae (ae (ae (ae (ae (ae (ae (af ⟨sl, ?_, ?_⟩)))))))
  ·rw [cG, hgo]; simp only []; rw [if_neg he]; rfl
  ·rw [cG, hgo]; simp only []; rw [if_neg he]; exact hsl.le l3
theorem CH (s : List UInt8) (H : Heap) : Triple PP kz [Str s] H [] fun r _ O' => ∃ k, r = .func (.func 80) #[] #[pP k] ∧ O' = [(k, .cells #[Str s] 9 (0, 0))] := by
 refine mR (vs := [Str s]) (by kernel_rfl) ⟨rfl, trivial⟩ ?_
 simp only [ku]
 intro r0 _
 exact ⟨H, _, Ghost.refl _ _, r0, rfl, rfl⟩
theorem zH (r0 r1 r2 r3 : Nat) (p fv : Value) (v : List Value) : dW PP f33 (gi (h33 r0 r1 r2 r3 p fv) [] [2, 4, 5, 6, 15] (BP r0 r1 r2 r3 p) v) = k3 r1 r2 r3 (.ret (.tuple #[g v 0, g v 1, g v 2]) []) := by kernel_rfl
theorem AW {r0 r1 r2 r3 : Nat} {p fv : Value} (hp : p.oneCell' = true) (hf : fv.oneCell' = true) : (h33 r0 r1 r2 r3 p fv).Ok := by
 refine ⟨fun t => ?_, fun n b hb a ha => ?_⟩
 ·simp only [h33]
  repeat' split
  all_goals (intro b hb; simp [S1.cells] at hb; subst hb; first | trivial | exact hf)
 ·simp only [h33] at hb
  split at hb
  ·cases hb; simp at ha; subst ha; exact hp
  ·split at hb
   ·cases hb; simp at ha; subst ha; trivial
   ·split at hb
    ·cases hb; simp at ha; subst ha; trivial
    ·split at hb
     ·cases hb; simp at ha; subst ha; trivial
     ·cases hb
theorem yE {r0 r1 r2 r3 : Nat} {p fv : Value} : ∀ n b cells i, (n, b, cells, i) ∈ BP r0 r1 r2 r3 p → (h33 r0 r1 r2 r3 p fv).mem n = some b := by
 intro n b cells i hmem
 simp only [BP, List.mem_cons, Prod.mk.injEq, List.not_mem_nil, or_false] at hmem
 rcases hmem with ⟨rfl, rfl, rfl, rfl⟩ | ⟨rfl, rfl, rfl, rfl⟩ | ⟨rfl, rfl, rfl, rfl⟩ | ⟨rfl, rfl, rfl, rfl⟩ <;> rfl
theorem En {P : Program} {QT : Value → Heap → Go.Sx.Own → Prop} {h s' : SS} {H : Heap} {O : Go.Sx.Own} {lab : Nat} {C : List Value → Heap → Go.Sx.Own → Prop} {carry keep : List Nat} {hb : List (Nat × Bx × List Nat × Nat)} (hd : (dH lab C carry keep hb h s').den P QT H O) : C (bz s' carry hb) H O := by
 unfold dH at hd
 split at hd
 ·exact hd.2
 ·exact hd.elim
theorem CG {H0 : Heap} {p : Value} {cs : List CdF} (hp : PoolF H0 p cs) (hG : GlobOk H0) (s : List UInt8) (hs : s.length ≤ 1000) :
  Triple PP ug [p, Str s] H0 [] fun r H' O' => rh cs s r H' O' ∧ O' = [] := by
 intro w F hm
 refine (callsIn_wide (n := 0)).1 ?_
 let vs : List Value := [p, Str s]
 let RR : Ending → World → Prop := fun e w' => ∃ v H' O', e = .returned v ∧ (rh cs s v H' O' ∧ O' = []) ∧ Heap.le H0 H' ∧ Models w' H' (O' ++ F)
 refine callsIn_of_wp_marks (F := Fr none) Tryz.func33 (c := c33) rfl trivial ?_ rfl
 have hC : Conc F (gk PP f33 vs) H0 [] (Act.mk (vs.toArray ++ Array.replicate (f33.ntmps - vs.toArray.size) undef) []) w := na (args := vs) (vs := vs) (by kernel_rfl) ⟨hp.one, rfl, trivial⟩ hm
 have hpre : (Dz vs fun r0 r1 r2 r3 fv v H O => ∃ k, fv = .func (.func 80) #[] #[pP k] ∧ v = [.slice none 0 0, iV 0, iV 0] ∧ Heap.le H0 H ∧ O = [(k, .cells #[Str s] 9 (0, 0))]).den PP (fun _ _ _ => False) H0 [] := by
  rw [zM]
  refine fun r0 r1 r2 r3 => ae ?_
  refine ak (A3 hp) rfl ⟨rfl, trivial⟩ fun H1 l1 => ai (fun hd => by cases hd) (fun _ => ?_)
  refine cI (O1 := []) (O2 := []) (by simp) (CH s H1) ?_
  rintro _ H2 _ ⟨k, rfl, rfl⟩ l2
  exact ⟨[_], rfl, ⟨rfl, trivial⟩, sf _ _ _ _ _ _, k, rfl, rfl, Heap.le_trans l1 l2, rfl⟩
 have hout : ∀ a w', ¬ bodyPostM (Fr none) 0 PP f33 RR .outgrown a w' := by
  rintro a w' ⟨v, H', O', e, _⟩
  cases e
 show c33.wpIn (Fr none) 0 PP (bodyPostM (Fr none) 0 PP f33 RR) _ w
 rw [Ek]
 refine wpIn_seq ?_
 rw [← jX (Act.mk _ _)]
 refine di (ro := none) (d := []) mixed mf (lV c33) (by kernel_rfl) (fun a w h => hout a w h) hpre hC ⟨?_⟩ (fun id kx he => by cases he) ⟨fun s' H' O' a' w' _ _ hd' => hd'.elim⟩
 intro s1 H1 O1 a1 w1 hC1 l1 hd1
 refine wpIn_seq ?_
 refine di (ro := none) (d := []) mixed mf (lV (eW c33)) (by kernel_rfl) (fun a w h => hout a w h) hd1 hC1 ⟨?_⟩ (fun id kx he => by cases he) ⟨?_⟩
 rotate_left
 ·intro s' H' O' a' w' hC' hle' hd'
  obtain ⟨_, v, _, H2, O2, h3, _⟩ := mb hC' hd'
  exact h3.elim
 intro s2 H2 O2 a2 w2 hC2 l2 hd2
 refine wpIn_seq (wpIn_seq ?_)
 refine di (ro := none) (d := []) mixed mf (lV (lV (eW (eW c33)))) (by kernel_rfl) (fun a w h => hout a w h) hd2 hC2 ⟨?_⟩ (fun id kx he => by cases he) ⟨fun s' H' O' a' w' _ _ hd' => hd'.elim⟩
 intro s3 H3 O3 a3 w3 hC3 l3 hd3
 have hfv1 : (EB s3).oneCell' = true := by
  obtain ⟨k, e, _⟩ := En hd3
  rw [e]; rfl
 obtain ⟨⟨k, hfv, b1, hle3, hO3⟩, b2, b3, b4⟩ := eK hd3 hC3 (AW (p := p) hp.one hfv1) yE
 subst hO3
 rw [b1] at b2
 have hCL := tJ b2
 let fv := EB s3
 let r0 := rOf s3 2
 let r1 := rOf s3 4
 let r2 := rOf s3 5
 let r3 := rOf s3 6
 let all := cq s.length s
 have hal : all.length ≤ s.length := (rO s.length s).2
 let R := R33 r0 r1 r2 r3 p fv (EJ cs) (Dh cs all)
 let o0 : Obj := .cells #[Str s] 9 (0, 0)
 have hg : a3.eval (.tmp 15) = .func (.func 80) #[] #[pP k] := by
  have h6 : SV.rel (.s (.at (.v fv))) (a3.tmps.getD 15 undef) := hCL.tm 15
  exact h6.trans hfv
 rw [jX]
 refine wpIn_block (sX (opts := opK) mixed mf R (fun _ _ _ => True) (by kernel_rfl) (by kernel_rfl) (AW hp.one hfv1) yE (by show 16 < 52; omega) (fun _ => rfl) (F := F) (k1 := k) (o0 := o0) (H0 := H3) (O0 := []) (v0 := [.slice none 0 0, iV 0, iV 0]) hCL ⟨_, [], rfl, OSl.nil _ _, rfl, List.nodup_nil, fun rest => rfl⟩ (Nx := fun pre x => (pre ++ [x]) <+: all) ?_ ⟨⟨rfl, rfl, rfl, trivial⟩, rfl⟩ hg (enters_of Tryz.func80 (by kernel_rfl) rfl) (S := fun xs => xs = all) ?_ ?_ ?_)
 ·intro pre x v H O hpre hv1 hv2 hle hrel
  exact uw hp hG (Heap.le_trans hle3 hle) hs hpre hrel r0 r1 r2 r3 _
 ·
  intro l K Kx hput hmod hY W hK0
  have hbx : ∀ pre o W, K pre o W → W.heap[k]? = some o := fun pre o W hK => by
   obtain ⟨H, O, _, hm', hin⟩ := hmod pre o W hK
   exact (hm'.own _ hin).1
  refine (pQ (Ba l k (fun pre rest W => rest.length ≤ 1000 ∧ K pre (.cells #[Str rest] 9 (0, 0)) W) Kx (fun pre rest W hK => ⟨by simp [World.cell?, hbx _ _ _ hK.2], Go.frozen_of_row W k 0 _ _ (hbx _ _ _ hK.2), by have := hK.1; omega⟩)
   (fun pre rest rest' W hK hl => ⟨Nat.le_trans hl hK.1, hput pre _ _ W _ hK.2 (fun b hb => Go.RowKit.Below.heap_setCell _ _ _ _ hb) (one_setCell (hbx _ _ _ hK.2)) rfl⟩)
   (fun pre rest W hK => ⟨hK.1, hput pre _ _ W W.drew hK.2 (fun b hb => rfl) (show W.heap[k]? = _ from hbx _ _ W hK.2) rfl⟩) all (fun pre x rest W hpre hK => ?_) s rfl W ⟨hs, hK0⟩)).mono ?_
  ·obtain ⟨fn, tmps, asg, bod, hy, hR⟩ := hY pre x _ W hpre hK.2
   refine ⟨fn, tmps, asg, bod, hy, RoundIn.mono hR ?_⟩
   rintro e W' (⟨rfl, h2⟩ | h2)
   ·exact .inl ⟨rfl, hK.1, h2⟩
   ·exact .inr h2
  ·rintro e W' ⟨he, ⟨rest, hr1, hr2⟩ | hx⟩
   ·exact ⟨he, .inl ⟨_, _, rfl, hr2⟩⟩
   ·exact ⟨he, .inr hx⟩
 ·
  rintro D xs v H O W F' hS hv1 hv2 hle ⟨sl, acc, rfl, hO, hlen, hnd, hgo⟩ hCd
  subst hS
  have hgo := hgo []
  rw [List.append_nil] at hgo
  have hpost := wx (n := iV (all.length : Nat)) (fv := fv) hp (Heap.le_trans hle3 hle) (s := s) hO hnd (by rw [hlen]; omega) hgo r0 r1 r2 r3
  refine (show (eW (eW (eW c33))).wpIn (Fr none) 0 PP _ (shift [Go.Sx.mark D] a3) W from ?_)
  have hfin : ∀ s' H' O' a' w', Conc ((D, .deferred (some [])) :: (F' ++ F)) s' H' O' a' w' → Heap.le H H' → (dW PP f33 s').den PP (rh cs s) H' O' → bodyPostM (Fr none) 0 PP f33 RR .ret (shift [Go.Sx.mark D] a') w' := by
   intro s' H' O' a' w' hC' hle' hd'
   refine jj hC' hd' ?_
   intro v H'' O'' w'' hq hl' hm'
   exact ⟨v, H'', [], rfl, ⟨hq, rfl⟩, Heap.le_trans hle3 (Heap.le_trans hle (Heap.le_trans hle' hl')), hm'.sub (by rw [List.nil_append]; exact (List.sublist_append_right F' F).trans (List.sublist_append_right O'' _))⟩
  exact di (ro := none) (d := [Go.Sx.mark D]) mixed mf (eW (eW (eW c33))) (by kernel_rfl) hout hpost hCd ⟨hfin⟩ (fun id kx he => by cases he) ⟨hfin⟩
 ·rintro D v H O W F' hv1 hv2 hle ⟨m, e, rfl, hgo, he⟩ hCd
  have hd' : (dW PP f33 (R.hs [.slice none 0 0, iV m, iV e])).den PP (rh cs s) H O := by
   have := zH r0 r1 r2 r3 p fv [.slice none 0 0, iV m, iV e]
   refine (show (dW PP f33 (gi (h33 r0 r1 r2 r3 p fv) [] [2, 4, 5, 6, 15] (BP r0 r1 r2 r3 p) [.slice none 0 0, iV m, iV e])).den PP (rh cs s) H O from ?_)
   rw [this]
   refine ae (ae (ae (af ⟨.slice none 0 0, ?_, ?_⟩)))
   ·rw [cG, hgo]; rfl
   ·rw [cG, hgo]; exact Sl.nil _ _
  refine (show bodyPostM (Fr none) 0 PP f33 RR .ret (shift [Go.Sx.mark D] a3) W from ?_)
  refine jj hCd hd' ?_
  intro v H'' O'' w'' hq hl' hm'
  exact ⟨v, H'', [], rfl, ⟨hq, rfl⟩, Heap.le_trans hle3 (Heap.le_trans hle hl'), hm'.sub (by rw [List.nil_append]; exact (List.sublist_append_right F' F).trans (List.sublist_append_right O'' _))⟩
end Go.Proofs.YtamgiojcbdbokaaGreatDoor
