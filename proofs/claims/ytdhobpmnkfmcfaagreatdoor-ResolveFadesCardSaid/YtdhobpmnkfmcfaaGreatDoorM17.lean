/- Cards with all that their effects say. Generic. -/
import Derived.Test.YtdhobpmnkfmcfaaGreatDoorC8
import Derived.Shelf.GgSortFunc.InsertionK
import Derived.Test.YtdhobpmnkfmcfaaGreatDoorTW
import Derived.Test.YtdhobpmnkfmcfaaGreatDoorC1
import Derived.Test.YtdhobpmnkfmcfaaGreatDoorFw2
namespace Go.Sx
open Go
structure Eff where
 (code target n m colour : Int)
deriving DecidableEq
def Eff.row (e : Eff) : List Value := [iV e.code, iV e.target, iV e.n, iV e.m, iV e.colour]
def iR (l : List Eff) : List (List Value) := l.map Eff.row
theorem lL (l : List Eff) : (iR l).length = l.length := by simp [iR]
theorem y3 {l : List Eff} {i : Nat} (h : i < l.length) : (iR l)[i]? = some l[i].row := by simp [iR, h]
theorem iM (e : Eff) : Ones e.row := ⟨rfl, rfl, rfl, rfl, rfl, trivial⟩
structure CdX where
 kind : Int
 effs : List Eff
 trs : List (List Eff)
def CdX.base (c : CdX) : Cd := ⟨c.kind, c.effs.map (·.target), c.trs.map List.length⟩
def TrsX (H : Heap) (v : Value) (trs : List (List Eff)) : Prop := ∃ rows, Sl H 2 v rows ∧ rows.length = trs.length ∧ ∀ (i : Nat) (r : List Value) (l : List Eff), rows[i]? = some r → trs[i]? = some l → Sl H 5 (g r 1) (iR l)
structure CdRX (H : Heap) (r : List Value) (c : CdX) : Prop where
 kind : g r 1 = iV c.kind
 eff : Sl H 5 (g r 11) (iR c.effs)
 trig : TrsX H (g r 12) c.trs
def CardsX (H : Heap) (v : Value) (cs : List CdX) : Prop := ∃ rows, Sl H 14 v rows ∧ rows.length = cs.length ∧ ∀ (i : Nat) (r : List Value) (c : CdX), rows[i]? = some r → cs[i]? = some c → CdRX H r c
theorem TrsX.le {H H' : Heap} {v : Value} {l : List (List Eff)} (h : TrsX H v l) (hl : Heap.le H H') : TrsX H' v l := let ⟨rows, h1, h2, h3⟩ := h; ⟨rows, h1.le hl, h2, fun i r n a b => (h3 i r n a b).le hl⟩
theorem CdRX.le {H H' : Heap} {r : List Value} {c : CdX} (h : CdRX H r c) (hl : Heap.le H H') : CdRX H' r c := ⟨h.kind, h.eff.le hl, h.trig.le hl⟩
theorem CardsX.le {H H' : Heap} {v : Value} {cs : List CdX} (h : CardsX H v cs) (hl : Heap.le H H') : CardsX H' v cs := let ⟨rows, h1, h2, h3⟩ := h; ⟨rows, h1.le hl, h2, fun i r c a b => (h3 i r c a b).le hl⟩
theorem BZ {H : Heap} {v : Value} {l : List Eff} (h : Sl H 5 v (iR l)) : EffsS H v (l.map (·.target)) := by
 refine ⟨_, h, by simp [iR], fun i r t a b => ?_⟩
 have hi : i < l.length := by
  have := (List.getElem?_eq_some_iff.1 a).1
  simpa [iR] using this
 rw [y3 hi] at a
 rw [List.getElem?_map, List.getElem?_eq_getElem hi] at b
 obtain rfl := Option.some.inj a
 obtain rfl := Option.some.inj b
 rfl
theorem CdRX.base {H : Heap} {r : List Value} {c : CdX} (h : CdRX H r c) : CdR H r c.base := by
 refine ⟨h.kind, BZ h.eff, ?_⟩
 obtain ⟨rows, h1, h2, h3⟩ := h.trig
 refine ⟨rows, h1, by simp [CdX.base, h2], fun i r n a b => ?_⟩
 have hi : i < c.trs.length := by
  have := (List.getElem?_eq_some_iff.1 a).1
  omega
 simp only [CdX.base] at b
 rw [List.getElem?_map, List.getElem?_eq_getElem hi] at b
 obtain rfl := Option.some.inj b
 exact ⟨_, h3 i r _ a (List.getElem?_eq_getElem hi), lL _⟩
theorem CardsX.base {H : Heap} {v : Value} {cs : List CdX} (h : CardsX H v cs) : CardsS H v (cs.map CdX.base) := by
 obtain ⟨rows, h1, h2, h3⟩ := h
 refine ⟨rows, h1, by simp [h2], fun i r c a b => ?_⟩
 have hi : i < cs.length := by
  have := (List.getElem?_eq_some_iff.1 a).1
  omega
 rw [List.getElem?_map, List.getElem?_eq_getElem hi] at b
 obtain rfl := Option.some.inj b
 exact (h3 i r _ a (List.getElem?_eq_getElem hi)).base
theorem CardsX.one {H : Heap} {v : Value} {cs : List CdX} (h : CardsX H v cs) : v.oneCell' = true := let ⟨_, h1, _⟩ := h; h1.one
theorem CardsX.len {H : Heap} {v : Value} {cs : List CdX} (h : CardsX H v cs) : aj .len [v] = some (iV cs.length) := by
 obtain ⟨rows, h1, h2, _⟩ := h
 have := h1.len; rwa [h2] at this
def PG : CdX := ⟨0, [], []⟩
def cdX (cs : List CdX) (c : Int) : CdX := if c < 0 ∨ c ≥ (cs.length : Int) then PG else cs.getD c.toNat PG
theorem E4 (cs : List CdX) (c : Int) : (cdX cs c).base = B9 (cs.map CdX.base) c := by
 rw [cdX, B9]
 by_cases h : c < 0 ∨ c ≥ (cs.length : Int)
 ·rw [if_pos h, if_pos (by simpa using h)]; rfl
 ·rw [if_neg h, if_neg (by simpa using h)]
  simp only [List.getD_eq_getElem?_getD, List.getElem?_map]
  cases cs[c.toNat]? <;> rfl
def GK (cs : List CdX) (card trig : Int) : List Eff :=
 if trig = -1 then (cdX cs card).effs else if trig < 0 ∨ trig ≥ ((cdX cs card).trs.length : Int) then [] else (cdX cs card).trs.getD trig.toNat []
theorem Models.grown {w : World} {H : Heap} {O : Own} (h : Models w H O) (os : Array Obj) : Models (Sort.grow w os) H O := by
 have keep : ∀ b (x : Obj), w.heap[b]? = some x → (w.heap ++ os)[b]? = some x := fun b x hb => by
  have hlt : b < w.heap.size := by
   rcases Nat.lt_or_ge b w.heap.size with h | h
   ·exact h
   ·rw [Array.getElem?_eq_none h] at hb; cases hb
  rw [Array.getElem?_append_left hlt]; exact hb
 exact ⟨fun b x hb => keep b x (h.pers b x hb), fun p hp => ⟨keep _ _ (h.own p hp).1, (h.own p hp).2⟩, h.nodup, h.env⟩
def nr (x : Int) : List Value := [iV x, iV 0]
theorem pj (d : List Int) : (d.map nr).flatten.length = d.length * 2 := by
 have := cP (rows := d.map nr) (size := 2) (by simp [nr])
 rwa [List.length_map] at this
theorem yX (d : List Int) : (Sort.flatK nr 2 d.toArray).toList = (d.map nr).flatten := by
 refine List.ext_getElem? fun t => ?_
 have hl := pj d
 rcases Nat.lt_or_ge t (d.length * 2) with h | h
 ·have h1 := Sort.get_flatK nr 2 d.toArray t (by simpa using h)
  rw [getElem!_pos _ t (by simpa using h)] at h1
  have hd : t / 2 < d.length := by omega
  rw [getElem!_pos _ (t / 2) (by simpa using hd)] at h1
  rw [List.getElem?_eq_getElem (by simpa using h), Array.getElem_toList, h1]
  have hg : (d.map nr)[t / 2]? = some (nr d[t / 2]) := by simp [hd]
  have p := fw (rows := d.map nr) (size := 2) (by simp [nr]) hg
  have e : (d.map nr).flatten[t]? = (nr d[t / 2])[t % 2]? := by
   rw [← p, List.getElem?_take, if_pos (by omega), List.getElem?_drop]
   congr 1; omega
  rw [e]
  rcases Nat.mod_two_eq_zero_or_one t with h2 | h2 <;> rw [h2] <;> rfl
 ·rw [List.getElem?_eq_none (by simpa using h), List.getElem?_eq_none (by omega)]
theorem AV (F : List Value) (cs : List Value) (h : F.length ≤ cs.length) : Sort.putCells id 0 F.toArray cs.toArray = (F ++ cs.drop F.length).toArray := by
 refine Array.ext' (List.ext_getElem? fun k => ?_)
 simp only [Sort.putCells, Array.toList_mapIdx, List.getElem?_mapIdx, List.getElem?_append, List.size_toArray, id]
 by_cases hk : k < F.length
 ·rw [if_pos hk, List.getElem?_eq_getElem (by omega : k < cs.length), List.getElem?_eq_getElem hk]
  simp only [Option.map_some, Option.some.injEq]
  rw [if_pos ⟨Nat.zero_le _, by omega⟩, Nat.sub_zero, getElem!_pos _ k (by simpa using hk)]
  rfl
 ·rw [if_neg hk, List.getElem?_drop, show F.length + (k - F.length) = k by omega]
  rcases Nat.lt_or_ge k cs.length with hc | hc
  ·rw [List.getElem?_eq_getElem hc, Option.map_some, if_neg (by omega)]
  ·rw [List.getElem?_eq_none hc]; rfl
theorem sort_models {w : World} {H : Heap} {r : Nat} {cs : List Value} {T : TypeId} {O : Own} (hm : Models w H ((r, .cells cs.toArray T (0, 0)) :: O)) {d : List Int} (hl : d.length * 2 ≤ cs.length) (n : Nat) (os : Array Obj) :
  Models (Go.Proofs.sortWorldK nr 2 w r 0 n d.toArray os) H ((r, .cells ((d.map nr).flatten ++ cs.drop (d.length * 2)).toArray T (0, 0)) :: O) := by
 have hrow := (hm.own (r, .cells cs.toArray T (0, 0)) (by simp)).1
 unfold Go.Proofs.sortWorldK
 refine Models.grown (Models.update (w := w) (w' := Sort.putRowK nr 2 (Sort.ahead w n) r 0 d.toArray) (o' := .cells ((d.map nr).flatten ++ cs.drop (d.length * 2)).toArray T (0, 0)) hm (fun b hb => ?_) ?_ rfl) os
 ·simp [Sort.putRowK, Sort.putRow, Sort.mapBlock, Sort.ahead, Array.getElem?_modify, Ne.symm hb]
 ·have hF := yX d
  have e : Sort.flatK nr 2 d.toArray = ((d.map nr).flatten).toArray := by rw [← hF]
  simp only [Sort.putRowK, Sort.putRow, Sort.mapBlock, Sort.ahead, Array.getElem?_modify, if_true, hrow, Option.map_some, Sort.onCells, e]
  rw [AV _ _ (by rw [pj]; exact hl), pj]
theorem sort_holds {w : World} {H : Heap} {r : Nat} {cs : List Value} {T : TypeId} {O : Own} (hm : Models w H ((r, .cells cs.toArray T (0, 0)) :: O)) {d : List Int} (hd : (d.map nr).flatten = cs.take (d.length * 2)) (hl : d.length * 2 ≤ cs.length) :
  Sort.HoldsK nr 2 w r 0 d.toArray ∧ r < w.heap.size := by
 have hrow := (hm.own (r, .cells cs.toArray T (0, 0)) (by simp)).1
 have hlt : r < w.heap.size := by
  rcases Nat.lt_or_ge r w.heap.size with h | h
  ·exact h
  ·rw [Array.getElem?_eq_none h] at hrow; cases hrow
 have e : Sort.flatK nr 2 d.toArray = ((d.map nr).flatten).toArray := by rw [← yX d]
 refine ⟨fun j hj => ?_, hlt⟩
 rw [e] at hj ⊢
 have hj' : j < d.length * 2 := by rw [← pj d]; simpa using hj
 have hv : ((d.map nr).flatten.toArray[j]!) = cs[j]'(by omega) := by
  rw [getElem!_pos _ j hj]
  have : (d.map nr).flatten[j]? = cs[j]? := by rw [hd, List.getElem?_take, if_pos hj']
  rw [List.getElem?_eq_getElem (by simpa using hj), List.getElem?_eq_getElem (by omega : j < cs.length)] at this
  simpa using this
 constructor
 ·rw [hv]
  simp only [World.cell?, hrow, Nat.zero_add, id]
  simp [List.getElem?_eq_getElem (by omega : j < cs.length)]
 ·rw [Nat.zero_add]; exact frozen_of_row w r j _ T hrow
def tgs (l : List Int) : List Tg := l.map fun n => ⟨n, 0⟩
def cO (l : List Tg) : List (List Value) := l.map Tg.row
theorem jH (l : List Int) : cO (tgs l) = l.map nr := by simp [cO, tgs, nr, Tg.row]
theorem He (a b : List Tg) : cO (a ++ b) = cO a ++ cO b := by simp [cO]
theorem cA (a : List Tg) : (cO a).length = a.length := by simp [cO]
theorem kQ (l : List Int) : (tgs l).length = l.length := by simp [tgs]
def plT (p : Int) : List Tg := [⟨0, 1 - p⟩, ⟨0, p⟩]
theorem MG {α : Type} {l : List α} {i : Nat} (h : i < l.length) : l.reverse[i]'(by simpa using h) = l[l.length - 1 - i]'(by omega) := by rw [List.getElem_reverse]
theorem JA {x y : Int} (h1 : -9223372036854775808 ≤ x - y) (h2 : x - y < 9223372036854775808) : aj (.bin .sub .int) [iV x, iV y] = some (iV (x - y)) := by
 simp only [aj, eh, dK, if_true]
 rw [fi (by omega) (by omega)]
def ID (n : Nat) (R : Nat → Value → Heap → Own → Prop) (vs : List Value) (H : Heap) (O : Own) : Prop := ∃ (i : Nat) (x : Value), vs = [x, iV ((n : Int) - 1 - i)] ∧ i ≤ n ∧ R i x H O
def MD (vs : List Value) (_ : Heap) (_ : Own) : Nat := match g vs 1 with | .int _ k => (k + 1).toNat | _ => 0
theorem KJ {P : Program} {lab key : Nat} {x0 : Value} {body : (List Value → Heap → Own → Prop) → List Value → Tree} {H : Heap} {O : Own} {Q : Value → Heap → Own → Prop} (n : Nat) (R : Nat → Value → Heap → Own → Prop)
  (h0 : R 0 x0 H O) (step : ∀ i x H' O', i ≤ n → Heap.le H H' → R i x H' O' → (body (Jz (ID n R) MD (n - i)) [x, iV ((n : Int) - 1 - i)]).den P Q H' O') :
  (Tree.loop lab key [x0, iV ((n : Int) - 1)] body).den P Q H O := by
 refine gI (ID n R) MD ⟨0, x0, by simp, Nat.zero_le _, h0⟩ ?_
 rintro vs H' O' _ _ hle ⟨i, x, rfl, hi, hr⟩
 have e : MD [x, iV ((n : Int) - 1 - i)] H' O' = n - i := by show ((n : Int) - 1 - i + 1).toNat = n - i; omega
 rw [e]
 exact step i x H' O' hi hle hr
theorem B2 {P : Program} {lab n i : Nat} {R : Nat → Value → Heap → Own → Prop} {x : Value} {eqs : List (List Value × List Value)} {H : Heap} {O : Own} {Q : Value → Heap → Own → Prop} (he : Eqs eqs) (hi : i < n) (hr : R (i + 1) x H O) :
  (Tree.cont lab (Jz (ID n R) MD (n - i)) [x, iV ((n : Int) - 1 - i - 1)] eqs).den P Q H O := by
 refine cY he ⟨i + 1, x, by congr 3; omega, hi, hr⟩ ?_
 show ((n : Int) - 1 - i - 1 + 1).toNat < n - i
 omega
theorem I9 {P : Program} {f : FuncId} {args : List Value} {H : Heap} {O : Own} {r : Value} {shp : Shp} {vs : List Value} {K : List Value → List (List Value) → Heap → Own → Prop}
  (h : RetO P f args H [] r) (ho : shp.open r = some vs) (h1 : Ones vs) (hk : ∀ H', Heap.le H H' → K vs [] H' O) :
  dG (fun H1 O1 R => Triple P f args H1 O1 R) false [] [] shp K H O := by
 refine ao h ?_
 rintro v H' O1 ⟨rfl, rfl⟩ l
 exact ⟨vs, ho, h1, hk H' l⟩
end Go.Sx
namespace Go.Proofs.YtdhobpmnkfmcfaaGreatDoor
open Go Go.Sx Go.ChangeShapes Go.WideShapes Go.ChangeAt Go.RowKit
set_option maxRecDepth 100000
set_option maxHeartbeats 1000000
end Go.Proofs.YtdhobpmnkfmcfaaGreatDoor
namespace Go.Sx
open Go
end Go.Sx
