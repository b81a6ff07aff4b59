/- Cards with all that their effects say. Generic. -/
import Derived.Test.YtieaihgbjikggaaGreatC20
import Derived.Shelf.GgSortFunc.InsertionK
import Derived.Test.YtieaihgbjikggaaGreatTW
import Derived.Test.YtieaihgbjikggaaGreatC8
namespace Go.Sx
open Go
structure Eff where
 (code target n m colour : Int)
deriving DecidableEq
def Eff.row (e : Eff) : List Value := [iV e.code, iV e.target, iV e.n, iV e.m, iV e.colour]
def jG (l : List Eff) : List (List Value) := l.map Eff.row
theorem wO (l : List Eff) : (jG l).length = l.length := by simp [jG]
theorem HC {l : List Eff} {i : Nat} (h : i < l.length) : (jG l)[i]? = some l[i].row := by simp [jG, h]
structure CdX where
 kind : Int
 effs : List Eff
 trs : List (List Eff)
def CdX.base (c : CdX) : Cd := ⟨c.kind, c.effs.map (·.target), c.trs.map List.length⟩
def TrsX (H : Heap) (v : Value) (trs : List (List Eff)) : Prop := ∃ rows, Sl H 2 v rows ∧ rows.length = trs.length ∧ ∀ (i : Nat) (r : List Value) (l : List Eff), rows[i]? = some r → trs[i]? = some l → Sl H 5 (g r 1) (jG l)
structure CdRX (H : Heap) (r : List Value) (c : CdX) : Prop where
 kind : g r 1 = iV c.kind
 eff : Sl H 5 (g r 11) (jG c.effs)
 trig : TrsX H (g r 12) c.trs
def CardsX (H : Heap) (v : Value) (cs : List CdX) : Prop := ∃ rows, Sl H 14 v rows ∧ rows.length = cs.length ∧ ∀ (i : Nat) (r : List Value) (c : CdX), rows[i]? = some r → cs[i]? = some c → CdRX H r c
theorem TrsX.le {H H' : Heap} {v : Value} {l : List (List Eff)} (h : TrsX H v l) (hl : Heap.le H H') : TrsX H' v l := let ⟨rows, h1, h2, h3⟩ := h; ⟨rows, h1.le hl, h2, fun i r n a b => (h3 i r n a b).le hl⟩
theorem CdRX.le {H H' : Heap} {r : List Value} {c : CdX} (h : CdRX H r c) (hl : Heap.le H H') : CdRX H' r c := ⟨h.kind, h.eff.le hl, h.trig.le hl⟩
theorem CardsX.le {H H' : Heap} {v : Value} {cs : List CdX} (h : CardsX H v cs) (hl : Heap.le H H') : CardsX H' v cs := let ⟨rows, h1, h2, h3⟩ := h; ⟨rows, h1.le hl, h2, fun i r c a b => (h3 i r c a b).le hl⟩
theorem Ag {H : Heap} {v : Value} {l : List Eff} (h : Sl H 5 v (jG l)) : EffsS H v (l.map (·.target)) := by
 refine ⟨_, h, by simp [jG], fun i r t a b => ?_⟩
 have hi : i < l.length := by
  have := (List.getElem?_eq_some_iff.1 a).1
  simpa [jG] using this
 rw [HC hi] at a
 rw [List.getElem?_map, List.getElem?_eq_getElem hi] at b
 obtain rfl := Option.some.inj a
 obtain rfl := Option.some.inj b
 rfl
theorem CdRX.base {H : Heap} {r : List Value} {c : CdX} (h : CdRX H r c) : CdR H r c.base := by
 refine ⟨h.kind, Ag h.eff, ?_⟩
 obtain ⟨rows, h1, h2, h3⟩ := h.trig
 refine ⟨rows, h1, by simp [CdX.base, h2], fun i r n a b => ?_⟩
 have hi : i < c.trs.length := by
  have := (List.getElem?_eq_some_iff.1 a).1
  omega
 simp only [CdX.base] at b
 rw [List.getElem?_map, List.getElem?_eq_getElem hi] at b
 obtain rfl := Option.some.inj b
 exact ⟨_, h3 i r _ a (List.getElem?_eq_getElem hi), wO _⟩
theorem CardsX.base {H : Heap} {v : Value} {cs : List CdX} (h : CardsX H v cs) : CardsS H v (cs.map CdX.base) := by
 obtain ⟨rows, h1, h2, h3⟩ := h
 refine ⟨rows, h1, by simp [h2], fun i r c a b => ?_⟩
 have hi : i < cs.length := by
  have := (List.getElem?_eq_some_iff.1 a).1
  omega
 rw [List.getElem?_map, List.getElem?_eq_getElem hi] at b
 obtain rfl := Option.some.inj b
 exact (h3 i r _ a (List.getElem?_eq_getElem hi)).base
theorem CardsX.one {H : Heap} {v : Value} {cs : List CdX} (h : CardsX H v cs) : v.oneCell' = true := let ⟨_, h1, _⟩ := h; h1.one
theorem CardsX.len {H : Heap} {v : Value} {cs : List CdX} (h : CardsX H v cs) : al .len [v] = some (iV cs.length) := by
 obtain ⟨rows, h1, h2, _⟩ := h
 have := h1.len; rwa [h2] at this
def N4 : CdX := ⟨0, [], []⟩
def cdX (cs : List CdX) (c : Int) : CdX := if c < 0 ∨ c ≥ (cs.length : Int) then N4 else cs.getD c.toNat N4
theorem GE (cs : List CdX) (c : Int) : (cdX cs c).base = yN (cs.map CdX.base) c := by
 rw [cdX, yN]
 by_cases h : c < 0 ∨ c ≥ (cs.length : Int)
 ·rw [if_pos h, if_pos (by simpa using h)]; rfl
 ·rw [if_neg h, if_neg (by simpa using h)]
  simp only [List.getD_eq_getElem?_getD, List.getElem?_map]
  cases cs[c.toNat]? <;> rfl
def Ig (cs : List CdX) (card trig : Int) : List Eff :=
 if trig = -1 then (cdX cs card).effs else if trig < 0 ∨ trig ≥ ((cdX cs card).trs.length : Int) then [] else (cdX cs card).trs.getD trig.toNat []
end Go.Sx
namespace Go.Sx
open Go
theorem Models.grown {w : World} {H : Heap} {O : Own} (h : Models w H O) (os : Array Obj) : Models (Sort.grow w os) H O := by
 have keep : ∀ b (x : Obj), w.heap[b]? = some x → (w.heap ++ os)[b]? = some x := fun b x hb => by
  have hlt : b < w.heap.size := by
   rcases Nat.lt_or_ge b w.heap.size with h | h
   ·exact h
   ·rw [Array.getElem?_eq_none h] at hb; cases hb
  rw [Array.getElem?_append_left hlt]; exact hb
 exact ⟨fun b x hb => keep b x (h.pers b x hb), fun p hp => ⟨keep _ _ (h.own p hp).1, (h.own p hp).2⟩, h.nodup, h.env⟩
def oJ (x : Int) : List Value := [iV x, iV 0]
theorem to (d : List Int) : (d.map oJ).flatten.length = d.length * 2 := by
 have := dg (rows := d.map oJ) (size := 2) (by simp [oJ])
 rwa [List.length_map] at this
theorem B8 (d : List Int) : (Sort.flatK oJ 2 d.toArray).toList = (d.map oJ).flatten := by
 refine List.ext_getElem? fun t => ?_
 have hl := to d
 rcases Nat.lt_or_ge t (d.length * 2) with h | h
 ·have h1 := Sort.get_flatK oJ 2 d.toArray t (by simpa using h)
  rw [getElem!_pos _ t (by simpa using h)] at h1
  have hd : t / 2 < d.length := by omega
  rw [getElem!_pos _ (t / 2) (by simpa using hd)] at h1
  rw [List.getElem?_eq_getElem (by simpa using h), Array.getElem_toList, h1]
  have hg : (d.map oJ)[t / 2]? = some (oJ d[t / 2]) := by simp [hd]
  have p := il (rows := d.map oJ) (size := 2) (by simp [oJ]) hg
  have e : (d.map oJ).flatten[t]? = (oJ d[t / 2])[t % 2]? := by
   rw [← p, List.getElem?_take, if_pos (by omega), List.getElem?_drop]
   congr 1; omega
  rw [e]
  rcases Nat.mod_two_eq_zero_or_one t with h2 | h2 <;> rw [h2] <;> rfl
 ·rw [List.getElem?_eq_none (by simpa using h), List.getElem?_eq_none (by omega)]
theorem D7 (F : List Value) (cs : List Value) (h : F.length ≤ cs.length) : Sort.putCells id 0 F.toArray cs.toArray = (F ++ cs.drop F.length).toArray := by
 refine Array.ext' (List.ext_getElem? fun k => ?_)
 simp only [Sort.putCells, Array.toList_mapIdx, List.getElem?_mapIdx, List.getElem?_append, List.size_toArray, id]
 by_cases hk : k < F.length
 ·rw [if_pos hk, List.getElem?_eq_getElem (by omega : k < cs.length), List.getElem?_eq_getElem hk]
  simp only [Option.map_some, Option.some.injEq]
  rw [if_pos ⟨Nat.zero_le _, by omega⟩, Nat.sub_zero, getElem!_pos _ k (by simpa using hk)]
  rfl
 ·rw [if_neg hk, List.getElem?_drop, show F.length + (k - F.length) = k by omega]
  rcases Nat.lt_or_ge k cs.length with hc | hc
  ·rw [List.getElem?_eq_getElem hc, Option.map_some, if_neg (by omega)]
  ·rw [List.getElem?_eq_none hc]; rfl
theorem sort_models {w : World} {H : Heap} {r : Nat} {cs : List Value} {T : TypeId} {O : Own} (hm : Models w H ((r, .cells cs.toArray T (0, 0)) :: O)) {d : List Int} (hl : d.length * 2 ≤ cs.length) (n : Nat) (os : Array Obj) :
  Models (Go.Proofs.sortWorldK oJ 2 w r 0 n d.toArray os) H ((r, .cells ((d.map oJ).flatten ++ cs.drop (d.length * 2)).toArray T (0, 0)) :: O) := by
 have hrow := (hm.own (r, .cells cs.toArray T (0, 0)) (by simp)).1
 unfold Go.Proofs.sortWorldK
 refine Models.grown (Models.update (w := w) (w' := Sort.putRowK oJ 2 (Sort.ahead w n) r 0 d.toArray) (o' := .cells ((d.map oJ).flatten ++ cs.drop (d.length * 2)).toArray T (0, 0)) hm (fun b hb => ?_) ?_ rfl) os
 ·simp [Sort.putRowK, Sort.putRow, Sort.mapBlock, Sort.ahead, Array.getElem?_modify, Ne.symm hb]
 ·have hF := B8 d
  have e : Sort.flatK oJ 2 d.toArray = ((d.map oJ).flatten).toArray := by rw [← hF]
  simp only [Sort.putRowK, Sort.putRow, Sort.mapBlock, Sort.ahead, Array.getElem?_modify, if_true, hrow, Option.map_some, Sort.onCells, e]
  rw [D7 _ _ (by rw [to]; exact hl), to]
theorem sort_holds {w : World} {H : Heap} {r : Nat} {cs : List Value} {T : TypeId} {O : Own} (hm : Models w H ((r, .cells cs.toArray T (0, 0)) :: O)) {d : List Int} (hd : (d.map oJ).flatten = cs.take (d.length * 2)) (hl : d.length * 2 ≤ cs.length) :
  Sort.HoldsK oJ 2 w r 0 d.toArray ∧ r < w.heap.size := by
 have hrow := (hm.own (r, .cells cs.toArray T (0, 0)) (by simp)).1
 have hlt : r < w.heap.size := by
  rcases Nat.lt_or_ge r w.heap.size with h | h
  ·exact h
  ·rw [Array.getElem?_eq_none h] at hrow; cases hrow
 have e : Sort.flatK oJ 2 d.toArray = ((d.map oJ).flatten).toArray := by rw [← B8 d]
 refine ⟨fun j hj => ?_, hlt⟩
 rw [e] at hj ⊢
 have hj' : j < d.length * 2 := by rw [← to d]; simpa using hj
 have hv : ((d.map oJ).flatten.toArray[j]!) = cs[j]'(by omega) := by
  rw [getElem!_pos _ j hj]
  have : (d.map oJ).flatten[j]? = cs[j]? := by rw [hd, List.getElem?_take, if_pos hj']
  rw [List.getElem?_eq_getElem (by simpa using hj), List.getElem?_eq_getElem (by omega : j < cs.length)] at this
  simpa using this
 constructor
 ·rw [hv]
  simp only [World.cell?, hrow, Nat.zero_add, id]
  simp [List.getElem?_eq_getElem (by omega : j < cs.length)]
 ·rw [Nat.zero_add]; exact frozen_of_row w r j _ T hrow
end Go.Sx
namespace Go.Sx
open Go
def tgs (l : List Int) : List Tg := l.map fun n => ⟨n, 0⟩
def be (l : List Tg) : List (List Value) := l.map Tg.row
theorem fN (l : List Int) : be (tgs l) = l.map oJ := by simp [be, tgs, oJ, Tg.row]
theorem DR (a b : List Tg) : be (a ++ b) = be a ++ be b := by simp [be]
theorem aY (a : List Tg) : (be a).length = a.length := by simp [be]
theorem gy (l : List Int) : (tgs l).length = l.length := by simp [tgs]
def plT (p : Int) : List Tg := [⟨0, 1 - p⟩, ⟨0, p⟩]
theorem IJ {α : Type} {l : List α} {i : Nat} (h : i < l.length) : l.reverse[i]'(by simpa using h) = l[l.length - 1 - i]'(by omega) := by rw [List.getElem_reverse]
theorem Bt {x y : Int} (h1 : -9223372036854775808 ≤ x - y) (h2 : x - y < 9223372036854775808) : al (.bin .sub .int) [iV x, iV y] = some (iV (x - y)) := by
 simp only [al, fU, ej, if_true]
 rw [rx (by omega) (by omega)]
def ID (n : Nat) (R : Nat → Value → Heap → Own → Prop) (vs : List Value) (H : Heap) (O : Own) : Prop := ∃ (i : Nat) (x : Value), vs = [x, iV ((n : Int) - 1 - i)] ∧ i ≤ n ∧ R i x H O
def MD (vs : List Value) (_ : Heap) (_ : Own) : Nat := match g vs 1 with | .int _ k => (k + 1).toNat | _ => 0
theorem Gz {P : Program} {lab key : Nat} {x0 : Value} {body : (List Value → Heap → Own → Prop) → List Value → Tree} {H : Heap} {O : Own} {Q : Value → Heap → Own → Prop} (n : Nat) (R : Nat → Value → Heap → Own → Prop)
  (h0 : R 0 x0 H O) (step : ∀ i x H' O', i ≤ n → Heap.le H H' → R i x H' O' → (body (Ih (ID n R) MD (n - i)) [x, iV ((n : Int) - 1 - i)]).den P Q H' O') :
  (Tree.loop lab key [x0, iV ((n : Int) - 1)] body).den P Q H O := by
 refine kb (ID n R) MD ⟨0, x0, by simp, Nat.zero_le _, h0⟩ ?_
 rintro vs H' O' _ _ hle ⟨i, x, rfl, hi, hr⟩
 have e : MD [x, iV ((n : Int) - 1 - i)] H' O' = n - i := by show ((n : Int) - 1 - i + 1).toNat = n - i; omega
 rw [e]
 exact step i x H' O' hi hle hr
theorem vE {P : Program} {lab n i : Nat} {R : Nat → Value → Heap → Own → Prop} {x : Value} {eqs : List (List Value × List Value)} {H : Heap} {O : Own} {Q : Value → Heap → Own → Prop} (he : Eqs eqs) (hi : i < n) (hr : R (i + 1) x H O) :
  (Tree.cont lab (Ih (ID n R) MD (n - i)) [x, iV ((n : Int) - 1 - i - 1)] eqs).den P Q H O := by
 refine eM he ⟨i + 1, x, by congr 3; omega, hi, hr⟩ ?_
 show ((n : Int) - 1 - i - 1 + 1).toNat < n - i
 omega
theorem ER {P : Program} {f : FuncId} {args : List Value} {H : Heap} {O : Own} {r : Value} {shp : Shp} {vs : List Value} {K : List Value → List (List Value) → Heap → Own → Prop}
  (h : RetO P f args H [] r) (ho : shp.open r = some vs) (h1 : Ones vs) (hk : ∀ H', Heap.le H H' → K vs [] H' O) :
  iG (fun H1 O1 R => Triple P f args H1 O1 R) false [] [] shp K H O := by
 refine ay h ?_
 rintro v H' O1 ⟨rfl, rfl⟩ l
 exact ⟨vs, ho, h1, hk H' l⟩
end Go.Sx
namespace Go.Proofs.YtieaihgbjikggaaGreat
open Go Go.Sx Go.ChangeShapes Go.WideShapes Go.ChangeAt Go.RowKit
set_option maxRecDepth 100000
set_option maxHeartbeats 1000000
theorem sg : hU PP 5 56 = some [53, 48, 3, 3, 54] := by kernel_rfl
theorem D6 {H : Heap} {v : Value} (h : Leaf PP H 51 v) : ∃ l, Sl H 5 v (jG l) := by
 obtain ⟨rows, hs, n, hw⟩ := h.slice Tryz.underlying51
 have hc : PP.cellsOf 56 = 5 := by kernel_rfl
 rw [hc] at hs
 obtain ⟨l, rfl⟩ := BR (f := Eff.row) (rows := rows) fun r hr => by
  have hl := y3 hs hr
  obtain ⟨x0, e0, _⟩ := (cU sg (hw r hr) 0 _ rfl).int Tryz.underlying53
  obtain ⟨x1, e1, _⟩ := (cU sg (hw r hr) 1 _ rfl).int Tryz.underlying48
  obtain ⟨x2, e2⟩ := ba (cU sg (hw r hr) 2 3 rfl)
  obtain ⟨x3, e3⟩ := ba (cU sg (hw r hr) 3 3 rfl)
  obtain ⟨x4, e4, _⟩ := (cU sg (hw r hr) 4 _ rfl).int Tryz.underlying54
  match r, hl with
  | [_, _, _, _, _], _ =>
   refine ⟨⟨x0, x1, x2, x3, x4⟩, ?_⟩
   simp only [g, List.getD_cons_zero, List.getD_cons_succ] at e0 e1 e2 e3 e4
   rw [e0, e1, e2, e3, e4]; rfl
 exact ⟨l, hs⟩
theorem GV {H : Heap} {v : Value} (h : Leaf PP H 84 v) : ∃ tr, TrsX H v tr := by
 obtain ⟨rows, hs, n, hw⟩ := h.slice Tryz.underlying84
 have hc : PP.cellsOf 89 = 2 := by kernel_rfl
 rw [hc] at hs
 obtain ⟨ls, hls, h1⟩ := Option.bind_eq_some_iff.1 In
 obtain ⟨tr, e1, e2⟩ := vm (R := fun r (l : List Eff) => Sl H 5 (g r 1) (jG l)) (rows := rows) fun r hr => D6 (cU hls (hw r hr) 1 _ h1)
 exact ⟨tr, rows, hs, e1, e2⟩
theorem Fc {H : Heap} {v : Value} (h : Leaf PP H 22 v) : ∃ cs, CardsX H v cs := by
 obtain ⟨rows, hs, n, hw⟩ := h.slice Tryz.underlying22
 have hc : PP.cellsOf 86 = 14 := by kernel_rfl
 rw [hc] at hs
 obtain ⟨ls, hls, h1⟩ := Option.bind_eq_some_iff.1 wS.1.1
 obtain ⟨ls2, hls2, h2⟩ := Option.bind_eq_some_iff.1 wS.1.2
 obtain ⟨ls3, hls3, h3⟩ := Option.bind_eq_some_iff.1 wS.2
 obtain rfl := Option.some.inj (hls.symm.trans hls2)
 obtain rfl := Option.some.inj (hls.symm.trans hls3)
 obtain ⟨cs, e1, e2⟩ := vm (R := fun r (c : CdX) => CdRX H r c) (rows := rows) fun r hr => by
  obtain ⟨k, e, _⟩ := (cU hls (hw r hr) 1 _ h1).int Tryz.underlying80
  obtain ⟨l, ht⟩ := D6 (cU hls (hw r hr) 11 _ h2)
  obtain ⟨tr, hr⟩ := GV (cU hls (hw r hr) 12 _ h3)
  exact ⟨⟨k, l, tr⟩, e, ht, hr⟩
 exact ⟨cs, rows, hs, e1, e2⟩
end Go.Proofs.YtieaihgbjikggaaGreat
namespace Go.Proofs.YtieaihgbjikggaaGreat
open Go Go.Sx
set_option maxRecDepth 100000
set_option maxHeartbeats 1000000
def bD (o : Ob) (z : Int) : Ob := { o with dmg := 0, pp := 0, pt := 0, cnt := 0, tap := false, doom := false, sick := z == 2 }
def dt (b : Bd) (p : Int) : St := if p = 0 then b.s0 else b.s1
def cM (b : Bd) (p : Int) (s : St) : Bd := if p = 0 then { b with s0 := s } else { b with s1 := s }
def Fd (s : St) (z id : Int) : St :=
 if z = 0 then { s with lib := s.lib ++ [id] } else if z = 1 then { s with hand := s.hand ++ [id] } else if z = 2 then { s with field := s.field ++ [id] } else if z = 3 then { s with grave := s.grave ++ [id] } else s
def bS (l : List Int) (id : Int) : List Int := l.filter fun n => n != id
def KB (s : St) (id : Int) : St := { s with lib := bS s.lib id, hand := bS s.hand id, field := bS s.field id, grave := bS s.grave id }
def mQ (id : Int) (x : It) : Bool := decide (x.trig < 0) && x.id == id
def eh (id : Int) (x : Bl) : Bool := x.blocker == id || x.attacker == id
def nb (b : Bd) (id : Int) : Bd := { b with s0 := KB b.s0 id, s1 := KB b.s1 id, stack := b.stack.filter fun x => !mQ id x, att := bS b.att id, blocks := b.blocks.filter fun x => !eh id x }
def dD (b : Bd) (k : Nat) (o : Ob) : Bd := { b with objs := b.objs.set k o }
def oS (b : Bd) (p z id : Int) : Bd := cM b p (Fd (dt b p) z id)
def gq (b : Bd) (k : Nat) (o : Ob) (z : Int) : Bd := oS (dD (nb b o.id) k o) o.owner z o.id
def MZ (s : St) : List Int := s.lib ++ (s.hand ++ (s.field ++ s.grave))
def M0 (b : Bd) : List Int := MZ b.s0 ++ (MZ b.s1 ++ (bh b.stack).map (·.id))
theorem ji (b : Bd) : (aM b).map (·.1) = M0 b := by
 simp [aM, bK, M0, MZ, cG, Function.comp_def]
theorem bF {l : List Int} {id : Int} (h : l.count id = 0) : bS l id = l := by
 rw [bS, List.filter_eq_self]
 intro x hx
 have : id ∉ l := List.count_eq_zero.1 h
 simp only [bne_iff_ne, ne_eq]
 rintro rfl
 exact this hx
theorem eA {b : Bd} {val : Ob → Bool} (h : bz val b = true) : (M0 b).Nodup := by
 simp only [bz, Bool.and_eq_true, decide_eq_true_eq] at h
 rw [← ji]; exact h.1
theorem aN {b : Bd} (h : ax b = true) : bz bd b = true ∧ eK b = true ∧ (b.active = 0 ∨ b.active = 1) ∧ b.stack.all (fun x => cd x false) = true := by
 simp only [ax, Bool.and_eq_true, aw, decide_eq_true_eq, Bool.not_eq_true', List.any_eq_false] at h
 refine ⟨h.2.2.2.2.2.2.2.2.2.1, h.2.2.2.2.2.2.2.2.2.2, by have := h.1; omega, ?_⟩
 rw [List.all_eq_true]
 intro x hx
 have := h.2.2.2.2.2.2.2.1 x hx
 simpa using this
theorem eE {b : Bd} (h : bz bd b = true) : CM none b.objs = true ∧ b.objs.all (ok1 (aM b) (aX b.stack)) = true ∧ (aM b).length = b.objs.length := by
 simp only [bz, Bool.and_eq_true, decide_eq_true_eq, mj] at h
 exact ⟨h.2.1.1, h.2.1.2, h.2.2⟩
theorem Jt {α : Type} {p : α → Bool} : ∀ {l : List α} {k : Nat} {x : α} (i : Int), l[k]? = some x → p x = true → (∀ (j : Nat) (y : α), j < k → l[j]? = some y → p y = false) → fq p l i = i + k
 | [], k, x, i, h, _, _ => by simp at h
 | a :: l, 0, x, i, h, hp, _ => by
  simp at h; subst h
  simp [fq, hp]
 | a :: l, k + 1, x, i, h, hp, hb => by
  have h0 := hb 0 a (by omega) rfl
  have := Jt (i + 1) (l := l) (k := k) (by simpa using h) hp fun j y hj e => hb (j + 1) y (by omega) (by simpa using e)
  simp only [fq, h0, Bool.false_eq_true, if_false, this]
  omega
theorem Dg {b : Bd} (hn : (b.objs.map (·.id)).Nodup) {k : Nat} {o : Ob} (h : b.objs[k]? = some o) : fL b o.id = k := by
 have := Jt (p := fun x : Ob => x.id == o.id) (l := b.objs) 0 h (by simp) fun j y hj e => by
  have hlt := (List.getElem?_eq_some_iff.1 h).1
  have h1 : (b.objs.map (·.id))[j]? = some y.id := by rw [List.getElem?_map, e]; rfl
  have h2 : (b.objs.map (·.id))[k]? = some o.id := by rw [List.getElem?_map, h]; rfl
  have hne : y.id ≠ o.id := by
   intro e2
   rw [e2] at h1
   have := (List.getElem?_inj (by simpa using (by omega : j < b.objs.length)) hn).1 (h1.trans h2.symm)
   omega
  simpa using hne
 rw [fL, this]; omega
theorem cH {b : Bd} (h : bz bd b = true) {k : Nat} {o : Ob} (hk : b.objs[k]? = some o) : bd o = true ∧ (o.id, o.owner) ∈ aM b ∧ fL b o.id = k ∧ (o.owner = 0 ∨ o.owner = 1) := by
 obtain ⟨h1, h2, _⟩ := eE h
 have hm := List.mem_of_getElem? hk
 have ho := List.all_eq_true.1 h2 o hm
 simp only [ok1, Bool.and_eq_true, beq_iff_eq] at ho
 obtain ⟨v, hl, hown, _⟩ := ho
 have hn := eA h
 rw [← ji] at hn
 refine ⟨v, ?_, Dg (jb h1).2 hk, mU v⟩
 cases e : cw (aM b) o.id with
 | none => rw [e] at hl; cases hl
 | some w =>
  rw [e] at hown
  have : w = o.owner := hown
  rw [this] at e
  exact (iL hn).1 e
theorem Jw {b : Bd} (h : bz bd b = true) {id p : Int} (hm : (id, p) ∈ aM b) : ∃ (k : Nat) (o : Ob), b.objs[k]? = some o ∧ o.id = id ∧ o.owner = p := by
 obtain ⟨o, ho, e, _⟩ := wC h id (List.mem_map_of_mem (f := Prod.fst) hm)
 obtain ⟨k, hk⟩ := List.mem_iff_getElem?.1 ho
 refine ⟨k, o, hk, e, ?_⟩
 obtain ⟨_, h2, _⟩ := cH h hk
 have hn := eA h
 rw [← ji] at hn
 rw [e] at h2
 have a := (iL hn).2 h2
 have c := (iL hn).2 hm
 rw [a] at c
 exact Option.some.inj c
theorem wE {l l' : List (Int × Int)} (hn : (l.map (·.1)).Nodup) (hp : l.Perm l') (k : Int) : cw l k = cw l' k := by
 have hn' : (l'.map (·.1)).Nodup := (hp.map _).nodup_iff.1 hn
 cases e : cw l k with
 | none =>
  rw [fg] at e
  symm
  rw [fg]
  intro h
  exact e ((hp.map _).mem_iff.2 h)
 | some v =>
  rw [iL hn] at e
  exact ((iL hn').2 (hp.mem_iff.1 e)).symm
theorem Gj : ∀ {l : List Ob} {prev : Option Int} {k : Nat} {o o' : Ob}, l[k]? = some o → o'.id = o.id → CM prev (l.set k o') = CM prev l
 | [], _, _, _, _, h, _ => by simp at h
 | a :: l, prev, 0, o, o', h, e => by
  simp at h; subst h
  simp only [List.set_cons_zero, CM, e]
 | a :: l, prev, k + 1, o, o', h, e => by
  simp only [List.set_cons_succ, CM]
  rw [Gj (by simpa using h) e]
theorem BB {b : Bd} {k : Nat} {o o' : Ob} (h : bz bd b = true) (hk : b.objs[k]? = some o) (h1 : o'.id = o.id) (h2 : o'.owner = o.owner) (h3 : o'.card = o.card) (hv : bd o' = true) : bz bd (dD b k o') = true := by
 obtain ⟨p1, p2, p3⟩ := eE h
 have hn := eA h
 have e1 : aM (dD b k o') = aM b := rfl
 have e2 : (dD b k o').stack = b.stack := rfl
 have e3 : (dD b k o').objs = b.objs.set k o' := rfl
 simp only [bz, Bool.and_eq_true, decide_eq_true_eq, mj, e1, e2, e3, List.length_set, ji]
 refine ⟨hn, ⟨by rw [Gj hk h1]; exact p1, ?_⟩, p3⟩
 rw [List.all_eq_true]
 intro x hx
 rcases List.mem_or_eq_of_mem_set hx with hx | rfl
 ·exact List.all_eq_true.1 p2 x hx
 ·have := List.all_eq_true.1 p2 o (List.mem_of_getElem? hk)
  simp only [ok1, Bool.and_eq_true] at this ⊢
  rw [h1, h2, h3]
  exact ⟨hv, this.2⟩
theorem ul {b c : Bd} (h : bz bd b = true) (hp : (aM b).Perm (aM c)) (ho : c.objs = b.objs) (hc : aX c.stack = aX b.stack) : bz bd c = true := by
 obtain ⟨p1, p2, p3⟩ := eE h
 have hn := eA h
 rw [← ji] at hn
 simp only [bz, Bool.and_eq_true, decide_eq_true_eq, mj, ho, hc]
 refine ⟨(hp.map _).nodup_iff.1 hn, ⟨p1, ?_⟩, by rw [← hp.length_eq]; exact p3⟩
 have : (b.objs.all (ok1 (aM c) (aX b.stack))) = b.objs.all (ok1 (aM b) (aX b.stack)) := by
  congr 1
  funext o
  simp only [ok1, wE hn hp]
 rw [this]; exact p2
theorem xi {o : Ob} (z : Int) (h : bd o = true) : bd (bD o z) = true := by
 rw [oh] at h ⊢
 simp only [bD]
 obtain ⟨⟨a1, a2, a3, a4, a5, a6⟩, a7⟩ := h
 exact ⟨⟨a1, a2, by omega, by omega, by omega, by omega⟩, a7⟩
theorem B9 {own other att : List Int} {bl : List Bl} (h : jj own other att bl = true) : (∀ x ∈ att, x ∈ own) ∧ ∀ x ∈ bl, x.attacker ∈ own ∧ x.blocker ∈ other := by
 simp only [jj, Bool.and_eq_true, List.all_eq_true, List.contains_iff_mem] at h
 obtain ⟨_, h2, h3⟩ := h
 refine ⟨h2, ?_⟩
 have key : ∀ (bl : List Bl) (ua ub : List Int), uE att other ua ub bl = true → ∀ x ∈ bl, x.attacker ∈ att ∧ x.blocker ∈ other := by
  intro bl
  induction bl with
  | nil => intro _ _ _ x hx; simp at hx
  | cons a r ih =>
   intro ua ub h x hx
   simp only [uE, Bool.and_eq_true, List.contains_iff_mem] at h
   rcases List.mem_cons.1 hx with rfl | hx
   ·exact ⟨h.1.1.2, h.1.2.2⟩
   ·exact ih _ _ h.2 x hx
 intro x hx
 obtain ⟨a, c⟩ := key bl [] [] h3 x hx
 exact ⟨h2 _ a, c⟩
theorem Hy {b : Bd} (h : eK b = true) : (∀ x ∈ b.att, x ∈ b.s0.field ∨ x ∈ b.s1.field) ∧ ∀ x ∈ b.blocks, (x.attacker ∈ b.s0.field ∨ x.attacker ∈ b.s1.field) ∧ (x.blocker ∈ b.s0.field ∨ x.blocker ∈ b.s1.field) := by
 unfold eK at h
 split at h
 ·obtain ⟨a, c⟩ := B9 h
  exact ⟨fun x hx => .inl (a x hx), fun x hx => ⟨.inl (c x hx).1, .inr (c x hx).2⟩⟩
 ·obtain ⟨a, c⟩ := B9 h
  exact ⟨fun x hx => .inr (a x hx), fun x hx => ⟨.inr (c x hx).1, .inl (c x hx).2⟩⟩
end Go.Proofs.YtieaihgbjikggaaGreat
namespace Go.Proofs.YtieaihgbjikggaaGreat
open Go Go.Sx
set_option maxRecDepth 100000
set_option maxHeartbeats 1000000
theorem mq {P : Program} {f : FuncId} {args : List Value} {H : Heap} {O : Own} {S : Value → Heap → Prop} {d : Bool} {shp : Shp} {K : List Value → List (List Value) → Heap → Own → Prop}
  (h : Triple P f args H O fun v H' O' => S v H' ∧ O' = O) (hk : ∀ v H', S v H' → Heap.le H H' → ∃ vs, shp.open v = some vs ∧ Ones vs ∧ K vs [] H' O) :
  iG (fun H1 O1 R => Triple P f args H1 O1 R) d [] [] shp K H O := by
 intro _
 refine ⟨H, O, [], fun v H' O' => S v H' ∧ O' = O, ?_, h, ?_⟩
 ·cases d
  ·show Ghost H O H (O ++ [])
   rw [List.append_nil]; exact Ghost.refl _ _
  ·exact ⟨rfl, .inr ⟨rfl, rfl, rfl, fun v H' O' h => h.2⟩⟩
 ·rintro v H' O' ⟨hs, rfl⟩ hle
  obtain ⟨vs, h1, h2, h3⟩ := hk v H' hs hle
  exact ⟨vs, [], O', h1, h2, trivial, rfl, by rw [List.append_nil]; exact h3⟩
abbrev i64 (n : Int) : Prop := -9223372036854775808 ≤ n ∧ n ≤ 9223372036854775807
theorem cO (o : Ob) : Ones o.row := ⟨rfl, rfl, rfl, rfl, rfl, rfl, rfl, rfl, rfl, rfl, rfl, rfl, trivial⟩
theorem EU (o : Ob) (id : Int) (H : Heap) (O : Own) : RetO PP jD [.agg o.row.toArray, iV id] H O (iV (IntKind.i64.wrap (o.id - id))) := by
 refine wq (vs := o.row ++ [iV id]) (by kernel_rfl) (aL (cO o) ⟨rfl, trivial⟩) ?_
 simp only [mA]
 exact ah fun r0 => ae (ab _ rfl (ai ⟨rfl, rfl⟩))
theorem uN {a id : Int} (h : i64 id) (ha : 1 ≤ a) (hb : a ≤ 500) : (IntKind.i64.wrap (a - id) == 0) = (a == id) := by
 rw [Bool.eq_iff_iff]
 simp only [beq_iff_eq, IntKind.wrap, IntKind.bits, IntKind.signed]
 simp
 omega
theorem sZ {a id : Int} (ha : 1 ≤ a) (hb : a ≤ 500) (h1 : 1 ≤ id) (h2 : id ≤ 500) : IntKind.i64.wrap (a - id) = a - id := rx (by omega) (by omega)
theorem zy : ∀ {l : List Ob} {prev : Option Int}, CM prev l = true → ∀ {j k : Nat} {x y : Ob}, j < k → l[j]? = some x → l[k]? = some y → x.id < y.id
 | [], _, _, j, k, x, y, _, h, _ => by simp at h
 | a :: l, prev, h, j, k, x, y, hjk, hx, hy => by
  simp only [CM, Bool.and_eq_true] at h
  cases k with
  | zero => omega
  | succ k =>
   cases j with
   | zero =>
    simp at hx; subst hx
    have hm : y ∈ l := List.mem_of_getElem? (by simpa using hy)
    exact (jb h.2).1 y hm _ rfl
   | succ j => exact zy h.2 (j := j) (k := k) (by omega) (by simpa using hx) (by simpa using hy)
theorem GN {i n : Nat} (h : i + n < 2 ^ 63) : al (.bin .add .int) [iV (i : Int), iV (n : Int)] = some (iV ((i + n : Nat) : Int)) := gF h
theorem LF {n : Nat} (h : n < 2 ^ 63) : al (.conv .u64) [iV (n : Int)] = some (.int .u64 (n : Int)) := by
 simp only [al, IntKind.wrap, IntKind.bits, IntKind.signed]
 simp
 omega
theorem LG {n : Nat} (h : n < 2 ^ 63) : al (.conv .i64) [.int .u64 (n : Int)] = some (iV (n : Int)) := by
 simp only [al]
 rw [rx (by omega) (by omega)]
theorem IB {n : Nat} (h : n < 2 ^ 63) : al (.bin .shr .int) [.int .u64 (n : Int), .int .u64 1] = some (.int .u64 ((n / 2 : Nat) : Int)) := by
 simp only [al, fU, oI]
 simp [IntKind.bits]
 rw [Int.fdiv_eq_ediv_of_nonneg]
 all_goals omega
theorem Bj {H : Heap} {O : Own} {v : Value} {l : List Ob} (h : RSl H O 12 v (l.map Ob.row)) {id : Int} (hid : i64 id) (hv : ∀ o ∈ l, 1 ≤ o.id ∧ o.id ≤ 500) (ho : CM none l = true) (hlen : l.length ≤ 1000000) :
  Triple PP bc [v, iV id, .func (.func jD) #[] #[]] H O fun r _ O' => (∃ (i : Nat) (f : Bool), r = .tuple #[iV i, .bool f] ∧ (f = true → ∃ o, l[i]? = some o ∧ o.id = id) ∧ (f = false → ∀ o ∈ l, o.id ≠ id)) ∧ O' = O := by
 refine bH (vs := [v, iV id, .func (.func jD) #[] #[]]) (by kernel_rfl) ⟨h.one, rfl, rfl, trivial⟩ ?_
 simp only [aV]
 have hl := h.len
 have hB := h.lenB
 rw [List.length_map] at hl hB
 refine ab _ hl ?_
 refine kb (fun vs H' O' => ∃ i j : Nat, vs = [iV i, iV j] ∧ i ≤ j ∧ j ≤ l.length ∧ O' = O ∧ Heap.le H H' ∧ (1 ≤ id → id ≤ 500 → (∀ (k : Nat) (o : Ob), k < i → l[k]? = some o → o.id < id) ∧ ∀ (k : Nat) (o : Ob), j ≤ k → l[k]? = some o → id ≤ o.id))
  (fun vs _ _ => match g vs 0, g vs 1 with | .int _ a, .int _ b => (b - a).toNat | _, _ => 0) ⟨0, l.length, rfl, Nat.zero_le _, Nat.le_refl _, rfl, Heap.le_refl _, fun _ _ => ⟨fun k o hk => absurd hk (Nat.not_lt_zero k), fun k o hk e => by
   have := (List.getElem?_eq_some_iff.1 e).1; omega⟩⟩ ?_
 rintro vs H' O' - - - ⟨i, j, rfl, hij, hj, rfl, hle, hinv⟩
 refine ab _ (aC _ _) (ak (fun hb => ?_) (fun hb => ?_))
 ·have hlt : i < j := by simpa using hb
  have hm : (i + j) / 2 < l.length := by omega
  obtain ⟨a, h1, h2, _, h3, h4⟩ := (h.le hle).idx .i64 ((i + j) / 2) (Ob.row l[(i + j) / 2]) (by simp [hm])
  refine ab _ (GN (by omega)) (ab _ (LF (by omega)) (ab _ (IB (by omega)) (ab _ (LG (by omega)) (ab _ h1 (ap h2 h3 h4 ?_)))))
  refine eZ rfl (kJ aB (by decide)) (EU l[(i + j) / 2] id H' O') rfl ⟨rfl, trivial⟩ fun H2 l2 => ab _ (aC _ _) (ak (fun hc => ?_) (fun hc => ?_))
  ·refine ab _ (az (by omega)) (eM (by simp [Eqs]) ⟨(i + j) / 2 + 1, j, rfl, by omega, hj, rfl, Heap.le_trans hle l2, fun a1 a2 => ⟨fun k o hk e => ?_, (hinv a1 a2).2⟩⟩ ?_)
   ·have hc := of_decide_eq_true hc
    have hm1 := hv _ (List.getElem_mem hm)
    rw [sZ hm1.1 hm1.2 a1 a2] at hc
    rcases Nat.lt_or_ge k ((i + j) / 2) with hk2 | hk2
    ·have := zy ho hk2 e (List.getElem?_eq_getElem hm); omega
    ·have : k = (i + j) / 2 := by omega
     subst this
     rw [List.getElem?_eq_getElem hm] at e
     obtain rfl := Option.some.inj e
     omega
   ·show (((j : Int) - (((i + j) / 2 + 1 : Nat) : Int)).toNat) < ((j : Int) - (i : Int)).toNat
    omega
  ·refine eM (by simp [Eqs]) ⟨i, (i + j) / 2, rfl, by omega, by omega, rfl, Heap.le_trans hle l2, fun a1 a2 => ⟨(hinv a1 a2).1, fun k o hk e => ?_⟩⟩ ?_
   ·have hc := of_decide_eq_false hc
    have hm1 := hv _ (List.getElem_mem hm)
    rw [sZ hm1.1 hm1.2 a1 a2] at hc
    rcases Nat.lt_or_ge ((i + j) / 2) k with hk2 | hk2
    ·have := zy ho hk2 (List.getElem?_eq_getElem hm) e; omega
    ·have : k = (i + j) / 2 := by omega
     subst this
     rw [List.getElem?_eq_getElem hm] at e
     obtain rfl := Option.some.inj e
     omega
   ·show (((((i + j) / 2 : Nat) : Int) - (i : Int)).toNat) < ((j : Int) - (i : Int)).toNat
    omega
 ·have hie : i = j := by
   have : ¬ ((i : Int) < (j : Int)) := of_decide_eq_false hb
   omega
  subst hie
  refine ab _ (aC _ _) (ak (fun hb => ?_) (fun hb => ?_))
  ·have hlt : i < l.length := by simpa using hb
   obtain ⟨a, h1, h2, _, h3, h4⟩ := (h.le hle).idx .i64 i (Ob.row l[i]) (by simp [hlt])
   have hm1 := hv _ (List.getElem_mem hlt)
   refine ab _ h1 (ap h2 h3 h4 (eZ rfl (kJ aB (by decide)) (EU l[i] id H' O') rfl ⟨rfl, trivial⟩ fun H2 l2 => ab _ (aH _ _) (ai ⟨⟨i, (IntKind.i64.wrap (l[i].id - id) == 0), rfl, fun hc => ?_, fun hc => ?_⟩, rfl⟩)))
   ·rw [uN hid hm1.1 hm1.2] at hc
    exact ⟨l[i], List.getElem?_eq_getElem hlt, by simpa using hc⟩
   ·rw [uN hid hm1.1 hm1.2] at hc
    have hne : l[i].id ≠ id := by simpa using hc
    intro o hmem e
    have hob := hv o hmem
    obtain ⟨i1, i2⟩ := hinv (by omega) (by omega)
    obtain ⟨k, hk⟩ := List.mem_iff_getElem?.1 hmem
    rcases Nat.lt_trichotomy k i with hki | hki | hki
    ·have := i1 k o hki hk; omega
    ·subst hki
     rw [List.getElem?_eq_getElem hlt] at hk
     obtain rfl := Option.some.inj hk
     exact hne e
    ·have := zy ho hki (List.getElem?_eq_getElem hlt) hk
     have := i2 i l[i] (Nat.le_refl _) (List.getElem?_eq_getElem hlt)
     omega
  ·have hge : l.length ≤ i := by simpa using hb
   refine ai ⟨⟨i, false, rfl, fun hc => (by cases hc), fun _ o hmem e => ?_⟩, rfl⟩
   have hob := hv o hmem
   obtain ⟨i1, _⟩ := hinv (by omega) (by omega)
   obtain ⟨k, hk⟩ := List.mem_iff_getElem?.1 hmem
   have := i1 k o (by have := (List.getElem?_eq_some_iff.1 hk).1; omega) hk
   omega
theorem lX {b : Bd} (h : ax b = true) : (∀ o ∈ b.objs, 1 ≤ o.id ∧ o.id ≤ 500) ∧ CM none b.objs = true := by
 obtain ⟨p1, p2, _⟩ := eE (aN h).1
 refine ⟨fun o ho => ?_, p1⟩
 have := List.all_eq_true.1 p2 o ho
 simp only [ok1, Bool.and_eq_true] at this
 exact uP this.1
theorem ry {b : Bd} (h : ax b = true) : b.objs.length ≤ 1000000 := by
 simp only [ax, tN, Bool.and_eq_true, Bool.not_eq_true', Bool.or_eq_false_iff, decide_eq_false_iff_not] at h
 have := h.2.2.2.2.1.1.1.2
 omega
theorem Ju {b : Bd} {id : Int} (h : ∀ o ∈ b.objs, o.id ≠ id) : fL b id = -1 := by
 rcases kl (fun o : Ob => o.id == id) b.objs 0 (by omega) with ⟨e, _⟩ | ⟨k, o, e1, e2, _⟩
 ·exact e
 ·exact absurd (by simpa using e2) (h o (List.mem_of_getElem? e1))
theorem sj {b : Bd} {id : Int} (h : ¬ fL b id < 0) : ∃ (k : Nat) (o : Ob), b.objs[k]? = some o ∧ o.id = id ∧ fL b id = k := by
 rcases kl (fun o : Ob => o.id == id) b.objs 0 (by omega) with ⟨e, _⟩ | ⟨k, o, e1, e2, e3⟩
 ·exact absurd (show fL b id < 0 by rw [fL, e]; omega) h
 ·exact ⟨k, o, e1, by simpa using e2, by rw [fL, e3]; omega⟩
def bt (b : Bd) (id : Int) : Int := if ax b = true then (if fL b id < 0 then 9 else 0) else 2
def BX (b : Bd) (id : Int) : Int := if ax b = true then (if fL b id < 0 then 0 else fL b id) else 0
theorem FH {H : Heap} {O : Own} {v : dG} {b : Bd} (h : BdR H O v b) {id : Int} (hid : i64 id) : RetO PP we [.agg (aq v b).toArray, iV id] H O (.tuple #[iV (BX b id), iV (bt b id)]) := by
 refine ze (vs := aq v b ++ [iV id]) (by kernel_rfl) (aL (au h) ⟨rfl, trivial⟩) ?_
 simp only [qq]
 refine ah fun r0 => ae (aj (bp h) rfl ⟨rfl, trivial⟩ fun H1 l1 => ab _ (aI _) (ak (fun hb => ai ⟨?_, rfl⟩) (fun hb => ae ?_)))
 ·have hf : ax b = false := zH hb
  simp [BX, bt, hf]
 have ht : ax b = true := vq hb
 obtain ⟨hv, ho⟩ := lX ht
 refine mq (Bj (h.le l1).objs hid hv ho (ry ht)) ?_
 rintro _ H2 ⟨i, f, rfl, f1, f2⟩ l2
 refine ⟨[iV i, .bool f], rfl, ⟨rfl, rfl, trivial⟩, ab _ (aI _) (ak (fun hb => ai ⟨?_, rfl⟩) (fun hb => ai ⟨?_, rfl⟩))⟩
 ·have hf : f = false := zH hb
  have := Ju (f2 hf)
  simp [BX, bt, ht, this]
 ·have hf : f = true := vq hb
  obtain ⟨o, e1, rfl⟩ := f1 hf
  have := Dg (jb ho).2 e1
  have hn : ¬ ((i : Int) < 0) := by omega
  simp only [BX, bt, ht, this, hn, if_true, if_false]
  rfl
end Go.Proofs.YtieaihgbjikggaaGreat
namespace Go.Proofs.YtieaihgbjikggaaGreat
open Go Go.Sx
set_option maxRecDepth 100000
set_option maxHeartbeats 1000000
def zO : Ob := ⟨0, 0, 0, 0, 0, 0, 0, 0, 0, false, false, false⟩
def zIt : It := ⟨0, 0, 0, 0, []⟩
theorem jh {b : Bd} {id : Int} (h : (bt b id != 0) = false) : ax b = true ∧ ∃ (k : Nat) (o : Ob), b.objs[k]? = some o ∧ o.id = id ∧ fL b id = k ∧ BX b id = k := by
 unfold bt at h
 by_cases hv : ax b = true
 ·rw [if_pos hv] at h
  by_cases hi : fL b id < 0
  ·rw [if_pos hi] at h; simp at h
  ·obtain ⟨k, o, e1, e2, e3⟩ := sj hi
   exact ⟨hv, k, o, e1, e2, e3, by rw [BX, if_pos hv, if_neg hi, e3]⟩
 ·rw [if_neg hv] at h; simp at h
def Dj (b : Bd) (id : Int) : Ob := if bt b id != 0 then zO else b.objs.getD (fL b id).toNat zO
theorem th {b : Bd} {id : Int} (h : (bt b id != 0) = false) {k : Nat} {o : Ob} (e : b.objs[k]? = some o) (hi : fL b id = k) : Dj b id = o := by
 simp [Dj, h, hi, e]
theorem NP {H : Heap} {O : Own} {v : dG} {b : Bd} (h : BdR H O v b) {id : Int} (hid : i64 id) : RetO PP xO [.agg (aq v b).toArray, iV id] H O (.tuple #[.agg (Dj b id).row.toArray, iV (bt b id)]) := by
 refine AU (vs := aq v b ++ [iV id]) (by kernel_rfl) (aL (au h) ⟨rfl, trivial⟩) ?_
 simp only [sO]
 refine ah fun r0 => ah fun r1 => ae (aj (FH h hid) rfl ⟨rfl, rfl, trivial⟩ fun H1 l1 => ab _ (bG _ _) (ak (fun hb => ?_) (fun hb => ?_)))
 ·refine ae (ae ?_)
  refine ai ⟨?_, rfl⟩
  have e : Dj b id = zO := by rw [Dj, if_pos hb]
  rw [e]; rfl
 ·obtain ⟨_, k, o, e1, e2, e3, e4⟩ := jh hb
  obtain ⟨a, h1, h2, _, h3, h4⟩ := ((h.le l1).objs).idx .i64 k (Ob.row o) (by rw [List.getElem?_map, e1]; rfl)
  rw [e4]
  refine ae ?_
  refine ab _ h1 (ap h2 h3 h4 ?_)
  refine ae (ae ?_)
  refine ai ⟨?_, rfl⟩
  have hz : bt b id = 0 := by simpa using hb
  rw [th hb e1 e3, hz]; rfl
theorem OwnB.store_ob {t : Tys} {w : dG} {b : Bd} {O X O' : Own} (h : OwnB t w b O) (hO : O'.Perm (O ++ X)) {k : Nat} {o : Ob} (hk : b.objs[k]? = some o) (o' : Ob) :
  ∃ a, al (.idx 12) [w.o, iV k] = some (.pointer (some a)) ∧ ∃ O1, tq O' (.pointer (some a)) o'.row O1 ∧ ∃ O2, O1.Perm (O2 ++ X) ∧ OwnB t w (dD b k o') O2 := by
 obtain ⟨Oo, A0, B0, C0, D0, A1, B1, C1, D1, Os, Oq, Oa, Obk, hp, h⟩ := h
 have hp' : O'.Perm (Oo ++ ((A0 ++ (B0 ++ (C0 ++ (D0 ++ (A1 ++ (B1 ++ (C1 ++ (D1 ++ (Os ++ (Oq ++ (Oa ++ Obk))))))))))) ++ X)) := by
  refine hO.trans ((hp.append_right X).trans (List.Perm.of_eq ?_))
  simp only [List.append_assoc]
 obtain ⟨a, k1, k2⟩ := h.objs.store hp' (k := .i64) (i := k) (row := o.row) (by rw [List.getElem?_map, hk]; rfl)
 obtain ⟨O1', s1, s2⟩ := k2 0 o'.row (by simp [Ob.row]) (cO o')
 rw [Ha] at s1
 refine ⟨a, k1, _, s1, O1' ++ (A0 ++ (B0 ++ (C0 ++ (D0 ++ (A1 ++ (B1 ++ (C1 ++ (D1 ++ (Os ++ (Oq ++ (Oa ++ Obk))))))))))), List.Perm.of_eq (by simp only [List.append_assoc]), O1', A0, B0, C0, D0, A1, B1, C1, D1, Os, Oq, Oa, Obk, List.Perm.refl _, ?_⟩
 have e : (b.objs.map Ob.row).set k (ct o.row 0 o'.row) = (dD b k o').objs.map Ob.row := by
  have : ct o.row 0 o'.row = o'.row := by simp [ct, Ob.row]
  rw [this, dD, List.map_set]
 rw [e] at s2
 exact ⟨s2, h.l0, h.h0, h.f0, h.g0, h.l1, h.h1, h.f1, h.g1, h.stack, h.queue, h.att, h.blocks⟩
theorem OwnB.perm {t : Tys} {w : dG} {b : Bd} {O O' : Own} (h : OwnB t w b O) (hp : O'.Perm O) : OwnB t w b O' :=
 let ⟨Oo, A0, B0, C0, D0, A1, B1, C1, D1, Os, Oq, Oa, Obk, hq, h⟩ := h
 ⟨Oo, A0, B0, C0, D0, A1, B1, C1, D1, Os, Oq, Oa, Obk, hp.trans hq, h⟩
theorem OwnB.zero (t : Tys) : OwnB t un zBd [] :=
 ⟨[], [], [], [], [], [], [], [], [], [], [], [], [], List.Perm.refl _, OSl.nil _ _, OSl.nil _ _, OSl.nil _ _, OSl.nil _ _, OSl.nil _ _, OSl.nil _ _, OSl.nil _ _, OSl.nil _ _, OSl.nil _ _,
  ⟨[], [], [], List.Perm.refl _, OSl.nil _ _, rfl, rfl, fun i r x T h => by simp at h⟩, ⟨[], [], [], List.Perm.refl _, OSl.nil _ _, rfl, rfl, fun i r x T h => by simp at h⟩, OSl.nil _ _, OSl.nil _ _⟩
def iR (id : Int) : List (Int × Int × List Int) → Option (Int × Int × Int)
 | [] => none
 | x :: r => if 0 ≤ lK x.2.2 id 0 then some (x.1, x.2.1, lK x.2.2 id 0) else iR id r
def fI (b : Bd) : List (Int × Int × List Int) := [(0, 0, b.s0.lib), (0, 1, b.s0.hand), (0, 2, b.s0.field), (0, 3, b.s0.grave), (1, 0, b.s1.lib), (1, 1, b.s1.hand), (1, 2, b.s1.field), (1, 3, b.s1.grave)]
def eD (q : It → Bool) (b : Bd) (id : Int) : Option (Int × Int × Int) :=
 match iR id (fI b) with
 | some s => some s
 | none => if 0 ≤ fq q b.stack 0 then some ((b.stack.getD (fq q b.stack 0).toNat zIt).player, 4, fq q b.stack 0) else none
abbrev ug (s : Int × Int × Int) : List Value := [iV s.1, iV s.2.1, iV s.2.2]
def AO (s : Option (Int × Int × Int)) : Int × Int × Int := s.getD (0, 0, 0)
theorem Ez : ∀ {l : List Int} {id i : Int}, 0 ≤ i → ¬ (0 ≤ lK l id i) → id ∉ l
 | [], _, _, _, _ => by simp
 | a :: l, id, i, h, hn => by
  simp only [lK] at hn
  by_cases he : id = a
  ·subst he; simp at hn; omega
  ·have hb : (id == a) = false := by simpa using he
   rw [if_neg (by rw [hb]; simp)] at hn
   simp only [List.mem_cons, not_or]
   exact ⟨he, Ez (by omega) hn⟩
theorem Bv {id : Int} : ∀ {l : List (Int × Int × List Int)}, iR id l = none → ∀ x ∈ l, id ∉ x.2.2
 | [], _, _, h => by simp at h
 | a :: l, h, x, hx => by
  simp only [iR] at h
  split at h
  ·cases h
  ·rename_i hn
   rcases List.mem_cons.1 hx with rfl | hx
   ·exact Ez (by omega) hn
   ·exact Bv h x hx
theorem wl {b : Bd} (h : ax b = true) {k : Nat} {o : Ob} (hk : b.objs[k]? = some o) : ∃ s, eD (mQ o.id) b o.id = some s := by
 obtain ⟨_, hm, _, _⟩ := cH (aN h).1 hk
 unfold eD
 cases e : iR o.id (fI b) with
 | some s => exact ⟨s, rfl⟩
 | none =>
  have hn := Bv e
  simp only [fI, List.mem_cons, List.not_mem_nil, or_false, forall_eq_or_imp, forall_eq] at hn
  obtain ⟨n1, n2, n3, n4, n5, n6, n7, n8⟩ := hn
  simp only [aM, bK, List.map_append, List.mem_append, List.mem_map, Prod.mk.injEq] at hm
  have : ∃ x ∈ bh b.stack, x.id = o.id := by
   rcases hm with (⟨a, ha, rfl, _⟩ | ⟨a, ha, rfl, _⟩ | ⟨a, ha, rfl, _⟩ | ⟨a, ha, rfl, _⟩) | (⟨a, ha, rfl, _⟩ | ⟨a, ha, rfl, _⟩ | ⟨a, ha, rfl, _⟩ | ⟨a, ha, rfl, _⟩) | hm
   ·exact absurd ha n1
   ·exact absurd ha n2
   ·exact absurd ha n3
   ·exact absurd ha n4
   ·exact absurd ha n5
   ·exact absurd ha n6
   ·exact absurd ha n7
   ·exact absurd ha n8
   ·simp only [cG, List.mem_map, Prod.mk.injEq] at hm
    obtain ⟨x, hx, e, _⟩ := hm
    exact ⟨x, hx, e⟩
  obtain ⟨x, hx, e⟩ := this
  simp only [bh, List.mem_filter] at hx
  have h0 : 0 ≤ fq (mQ o.id) b.stack 0 := by
   have := wJ (mQ o.id) b.stack 0 (by omega)
   have hany : b.stack.any (mQ o.id) = true := List.any_eq_true.2 ⟨x, hx.1, by simp only [mQ, hx.2, e, beq_self_eq_true, Bool.and_self]⟩
   rw [hany] at this
   exact of_decide_eq_true this
  exact ⟨_, by rw [if_pos h0]⟩
theorem JQ {H : Heap} {O : Own} {row : List Value} {x : It} (h : ItR H O row x) {r : Nat} {T : TypeId} {id : Int} (hb : (r, Obj.cells [iV id].toArray T (0, 0)) ∈ O) :
  RetO PP sU ([.agg row.toArray] ++ (#[.pointer (some ⟨r, 0, none⟩)] : Array Value).toList) H O (.bool (mQ id x)) := by
 obtain ⟨s, rfl, hs⟩ := h
 refine wt (vs := [iV x.player, iV x.id, iV x.card, iV x.trig, s, .pointer (some ⟨r, 0, none⟩)]) (by kernel_rfl) ⟨rfl, rfl, rfl, rfl, hs.one, rfl, trivial⟩ ?_
 simp only [mB]
 refine ah fun r0 => ae (ab _ (aC _ _) ?_)
 refine ae (af ?_)
 refine ⟨[iV id], rfl, ⟨rfl, trivial⟩, fun _ => .inr ⟨⟨r, 0, none⟩, [iV id].toArray, T, rfl, rfl, hb, rfl, rfl⟩, ?_⟩
 refine af (af (ab _ (aH _ _) (af (ab _ (bg _ _) ?_))))
 exact ai ⟨rfl, rfl⟩
def dQ (b : Bd) (id : Int) : Int × Int × Int := if bt b id != 0 then (0, 0, 0) else AO (eD (mQ id) b id)
theorem vJ {H : Heap} {v : dG} {b : Bd} (h : BdS H v b) {id : Int} (hid : i64 id) (O : Own) : RetO PP wh [.agg (aq v b).toArray, iV id] H O (.tuple #[.agg (ug (dQ b id)).toArray, iV (bt b id)]) := by
 refine zg (vs := aq v b ++ [iV id]) (by kernel_rfl) (aL (au (h.r [])) ⟨rfl, trivial⟩) ?_
 simp only [qs]
 refine ah fun r0 => ah fun r1 => ah fun r2 => ?_
 refine ae (ae ?_)
 refine aj (FH (h.r O) hid) rfl ⟨rfl, rfl, trivial⟩ fun H1 l1 => ab _ (bG _ _) (ak (fun hb => ?_) (fun hb => ?_))
 ·refine ae (ae ?_)
  refine ai ⟨?_, rfl⟩
  have e : dQ b id = (0, 0, 0) := by rw [dQ, if_pos hb]
  rw [e]; rfl
 replace h := h.le l1
 have ew : dQ b id = AO (eD (mQ id) b id) := by rw [dQ, if_neg (by rw [hb]; simp)]
 have ez : bt b id = 0 := by simpa using hb
 obtain ⟨hval, k0, o0, e1, e2, _, _⟩ := jh hb
 rw [ew, ez]
 clear hb
 refine aj (nH r0 1 _ _) rfl ⟨rfl, rfl, rfl, rfl, trivial⟩ fun L0 m0 => ?_
 replace h := h.le m0
 repeat (first | refine ae ?_ | refine af ?_)
 refine aj (eN (h.s0.lib.rsl O) id) rfl ⟨rfl, trivial⟩ fun K0 j0 => ab _ (du _ _) (ak (fun hb => ?_) (fun n0 => ?_))
 ·refine ae (ae ?_)
  refine ai ⟨?_, rfl⟩
  have e := of_decide_eq_true hb
  have e : 0 ≤ lK b.s0.lib id 0 := e
  rw [eD, fI]
  simp only [iR, e, if_true, if_false]
  rfl
 have n0 : ¬ (0 ≤ lK b.s0.lib id 0) := of_decide_eq_false n0
 replace h := h.le j0
 refine ae (ae ?_)
 refine aj (eN (h.s0.hand.rsl O) id) rfl ⟨rfl, trivial⟩ fun K1 j1 => ab _ (du _ _) (ak (fun hb => ?_) (fun n1 => ?_))
 ·refine ae (ae ?_)
  refine ai ⟨?_, rfl⟩
  have e := of_decide_eq_true hb
  have e : 0 ≤ lK b.s0.hand id 0 := e
  rw [eD, fI]
  simp only [iR, n0, e, if_true, if_false]
  rfl
 have n1 : ¬ (0 ≤ lK b.s0.hand id 0) := of_decide_eq_false n1
 replace h := h.le j1
 refine ae (ae ?_)
 refine aj (eN (h.s0.field.rsl O) id) rfl ⟨rfl, trivial⟩ fun K2 j2 => ab _ (du _ _) (ak (fun hb => ?_) (fun n2 => ?_))
 ·refine ae (ae ?_)
  refine ai ⟨?_, rfl⟩
  have e := of_decide_eq_true hb
  have e : 0 ≤ lK b.s0.field id 0 := e
  rw [eD, fI]
  simp only [iR, n0, n1, e, if_true, if_false]
  rfl
 have n2 : ¬ (0 ≤ lK b.s0.field id 0) := of_decide_eq_false n2
 replace h := h.le j2
 refine ae (ae ?_)
 refine aj (eN (h.s0.grave.rsl O) id) rfl ⟨rfl, trivial⟩ fun K3 j3 => ab _ (du _ _) (ak (fun hb => ?_) (fun n3 => ?_))
 ·refine ae (ae ?_)
  refine ai ⟨?_, rfl⟩
  have e := of_decide_eq_true hb
  have e : 0 ≤ lK b.s0.grave id 0 := e
  rw [eD, fI]
  simp only [iR, n0, n1, n2, e, if_true, if_false]
  rfl
 have n3 : ¬ (0 ≤ lK b.s0.grave id 0) := of_decide_eq_false n3
 replace h := h.le j3
 refine aj (nH r0 15 _ _) rfl ⟨rfl, rfl, rfl, rfl, trivial⟩ fun L1 m1 => ?_
 replace h := h.le m1
 repeat (first | refine ae ?_ | refine af ?_)
 refine aj (eN (h.s1.lib.rsl O) id) rfl ⟨rfl, trivial⟩ fun K4 j4 => ab _ (du _ _) (ak (fun hb => ?_) (fun n4 => ?_))
 ·refine ae (ae ?_)
  refine ai ⟨?_, rfl⟩
  have e := of_decide_eq_true hb
  have e : 0 ≤ lK b.s1.lib id 0 := e
  rw [eD, fI]
  simp only [iR, n0, n1, n2, n3, e, if_true, if_false]
  rfl
 have n4 : ¬ (0 ≤ lK b.s1.lib id 0) := of_decide_eq_false n4
 replace h := h.le j4
 refine ae (ae ?_)
 refine aj (eN (h.s1.hand.rsl O) id) rfl ⟨rfl, trivial⟩ fun K5 j5 => ab _ (du _ _) (ak (fun hb => ?_) (fun n5 => ?_))
 ·refine ae (ae ?_)
  refine ai ⟨?_, rfl⟩
  have e := of_decide_eq_true hb
  have e : 0 ≤ lK b.s1.hand id 0 := e
  rw [eD, fI]
  simp only [iR, n0, n1, n2, n3, n4, e, if_true, if_false]
  rfl
 have n5 : ¬ (0 ≤ lK b.s1.hand id 0) := of_decide_eq_false n5
 replace h := h.le j5
 refine ae (ae ?_)
 refine aj (eN (h.s1.field.rsl O) id) rfl ⟨rfl, trivial⟩ fun K6 j6 => ab _ (du _ _) (ak (fun hb => ?_) (fun n6 => ?_))
 ·refine ae (ae ?_)
  refine ai ⟨?_, rfl⟩
  have e := of_decide_eq_true hb
  have e : 0 ≤ lK b.s1.field id 0 := e
  rw [eD, fI]
  simp only [iR, n0, n1, n2, n3, n4, n5, e, if_true, if_false]
  rfl
 have n6 : ¬ (0 ≤ lK b.s1.field id 0) := of_decide_eq_false n6
 replace h := h.le j6
 refine ae (ae ?_)
 refine aj (eN (h.s1.grave.rsl O) id) rfl ⟨rfl, trivial⟩ fun K7 j7 => ab _ (du _ _) (ak (fun hb => ?_) (fun n7 => ?_))
 ·refine ae (ae ?_)
  refine ai ⟨?_, rfl⟩
  have e := of_decide_eq_true hb
  have e : 0 ≤ lK b.s1.grave id 0 := e
  rw [eD, fI]
  simp only [iR, n0, n1, n2, n3, n4, n5, n6, e, if_true, if_false]
  rfl
 have n7 : ¬ (0 ≤ lK b.s1.grave id 0) := of_decide_eq_false n7
 replace h := h.le j7
 refine ae ?_
 have hL : iR id (fI b) = none := by
  rw [fI]
  simp only [iR, n0, n1, n2, n3, n4, n5, n6, n7, if_false]
 have hG : eD (mQ id) b id = if 0 ≤ fq (mQ id) b.stack 0 then some ((b.stack.getD (fq (mQ id) b.stack 0).toNat zIt).player, 4, fq (mQ id) b.stack 0) else none := by
  rw [eD, hL]
 obtain ⟨s, hs⟩ := wl hval e1
 rw [e2] at hs
 have h0 : 0 ≤ fq (mQ id) b.stack 0 := by
  rw [hG] at hs
  split at hs
  ·assumption
  ·cases hs
 rw [if_pos h0] at hG
 rw [hG]
 rcases kl (mQ id) b.stack 0 (by omega) with ⟨e, _⟩ | ⟨k, x, e3, e4, e5⟩
 ·omega
 have e5 : fq (mQ id) b.stack 0 = (k : Int) := by omega
 refine Lc (own := [⟨r1, 3, [iV id]⟩]) (qC (p := mQ id) (h.stack.r _) rfl (kJ aB (by decide)) fun H' _ row x hx => JQ hx (r := r1) (T := 3) (by simp [BV.obj])) rfl ⟨rfl, trivial⟩ ⟨rfl, ⟨rfl, trivial⟩, trivial⟩ fun H9 l9 => ?_
 replace h := h.le l9
 refine ae ?_
 obtain ⟨rows, hr, hrl, hit⟩ := (h.stack.r O)
 have hklt : k < b.stack.length := (List.getElem?_eq_some_iff.1 e3).1
 have hrk : rows[k]? = some rows[k] := List.getElem?_eq_getElem (by omega)
 obtain ⟨sv, hrow, _⟩ := hit k rows[k] x hrk e3
 obtain ⟨a, h1, _, h3, _⟩ := hr.idx .i64 k rows[k] hrk
 have hr0 := h3 0 1 (by omega)
 rw [hrow, Ha] at hr0
 rw [e5]
 refine ab _ h1 (aD rfl (ap hr0 rfl ⟨rfl, trivial⟩ ?_))
 refine ae (ae ?_)
 refine ai ⟨?_, rfl⟩
 simp only [AO, Option.getD_some, Int.toNat_natCast, List.getD_eq_getElem?_getD, e3]
 rfl
theorem iI {lab key : Nat} {v : Value} {l : List Int} {id : Int} {H : Heap} {O : Own} {Q : Value → Heap → Own → Prop} {eqs : List (List Value × List Value)} {found : List Value → Tree} {k : Tree} (h : RSl H O 1 v (aG l)) (he : Eqs eqs)
  (hf : ∀ H' (i : Nat), Heap.le H H' → lK l id 0 = i → (found [iV i]).den PP Q H' O) (hk : ∀ H', Heap.le H H' → ¬ (0 ≤ lK l id 0) → k.den PP Q H' O) :
  (Tree.loop lab key [(.int .i64 0)] fun C l1 =>
   .pure [] .len [v] fun v2 =>
   .pure [] (.bin .lss .int) [(g l1 0), v2] fun v3 =>
   .br v3 (
    .pure [] (.idx 1) [v, (g l1 0)] fun v4 =>
    .load [] v4 1 fun l5 =>
    .pure [] (.bin .eql .int) [(g l5 0), iV id] fun v6 =>
    .br v6 (found l1) (
     .pure [] (.bin .add .int) [(g l1 0), (.int .i64 1)] fun v7 =>
     .cont lab C [v7] eqs)) k).den PP Q H O := by
 have hl := h.len
 have hB := h.lenB
 rw [aG, List.length_map] at hl hB
 refine aQ l.length (fun i H' O' => O' = O ∧ Heap.le H H' ∧ lK l id 0 = lK (l.drop i) id i) ⟨rfl, Heap.le_refl H, by simp⟩ ?_
 rintro i H' O' hi - ⟨rfl, hle, hor⟩
 refine ab _ hl (ab _ (aC _ _) (ak (fun hb => ?_) (fun hb => ?_)))
 ·have hlt : i < l.length := by simpa using hb
  obtain ⟨a, h1, h2, _, h3, h4⟩ := (h.le hle).idx .i64 i [iV l[i]] (by simp [aG, hlt])
  refine ab _ h1 (ap h2 h3 h4 (ab _ (aH _ _) (ak (fun hb => ?_) (fun hb => ?_))))
  ·refine hf H' i hle ?_
   have hb : l[i] = id := by simpa using hb
   rw [hor, List.drop_eq_getElem_cons hlt, lK, hb, if_pos (by simp)]
  ·refine ab _ (az (by omega)) (aJ he hlt ⟨rfl, hle, ?_⟩)
   have hb : ¬ l[i] = id := by simpa using hb
   rw [hor, List.drop_eq_getElem_cons hlt, lK, if_neg (by simpa using fun e => hb e.symm)]; rfl
 ·have hge : l.length ≤ i := by simpa using hb
  refine hk H' hle ?_
  rw [hor, List.drop_of_length_le hge]; simp [lK]
def onR (id : Int) (x : It) : Bool := (x.trig == -1) && x.id == id
def yU (s : Option (Int × Int × Int)) : Int := if s.isSome then 0 else 9
theorem IP {H : Heap} {O : Own} {v : dG} {b : Bd} (h : BdR H O v b) (id : Int) : RetO PP lj [.agg (aq v b).toArray, iV id] H O (.tuple #[.agg (ug (AO (eD (onR id) b id))).toArray, iV (yU (eD (onR id) b id))]) := by
 refine qL (vs := aq v b ++ [iV id]) (by kernel_rfl) (aL (au h) ⟨rfl, trivial⟩) ?_
 simp only [gM]
 obtain ⟨z1, z2, z3, z4⟩ := d8 h.s0
 obtain ⟨z5, z6, z7, z8⟩ := d8 h.s1
 refine ah fun r0 => ah fun r1 => ?_
 refine ae ?_
 refine aj (iX b.s0 z1 z2 z3 z4 _ O) rfl ⟨z1, z2, z3, z4, trivial⟩ fun L0 m0 => ?_
 replace h := h.le m0
 refine iI h.s0.lib (by simp [Eqs]) (fun H' i hle hi => ?_) (fun H' hle n0 => ?_)
 ·refine ae (ae ?_)
  refine ai ⟨?_, rfl⟩
  have e : 0 ≤ lK b.s0.lib id 0 := by omega
  rw [eD, fI]
  simp only [iR, e, if_true, if_false]
  rw [hi]; rfl
 replace h := h.le hle
 refine iI h.s0.hand (by simp [Eqs]) (fun H' i hle hi => ?_) (fun H' hle n1 => ?_)
 ·refine ae (ae ?_)
  refine ai ⟨?_, rfl⟩
  have e : 0 ≤ lK b.s0.hand id 0 := by omega
  rw [eD, fI]
  simp only [iR, n0, e, if_true, if_false]
  rw [hi]; rfl
 replace h := h.le hle
 refine iI h.s0.field (by simp [Eqs]) (fun H' i hle hi => ?_) (fun H' hle n2 => ?_)
 ·refine ae (ae ?_)
  refine ai ⟨?_, rfl⟩
  have e : 0 ≤ lK b.s0.field id 0 := by omega
  rw [eD, fI]
  simp only [iR, n0, n1, e, if_true, if_false]
  rw [hi]; rfl
 replace h := h.le hle
 refine iI h.s0.grave (by simp [Eqs]) (fun H' i hle hi => ?_) (fun H' hle n3 => ?_)
 ·refine ae (ae ?_)
  refine ai ⟨?_, rfl⟩
  have e : 0 ≤ lK b.s0.grave id 0 := by omega
  rw [eD, fI]
  simp only [iR, n0, n1, n2, e, if_true, if_false]
  rw [hi]; rfl
 replace h := h.le hle
 refine ae ?_
 refine aj (iX b.s1 z5 z6 z7 z8 _ O) rfl ⟨z5, z6, z7, z8, trivial⟩ fun L1 m1 => ?_
 replace h := h.le m1
 refine iI h.s1.lib (by simp [Eqs]) (fun H' i hle hi => ?_) (fun H' hle n4 => ?_)
 ·refine ae (ae ?_)
  refine ai ⟨?_, rfl⟩
  have e : 0 ≤ lK b.s1.lib id 0 := by omega
  rw [eD, fI]
  simp only [iR, n0, n1, n2, n3, e, if_true, if_false]
  rw [hi]; rfl
 replace h := h.le hle
 refine iI h.s1.hand (by simp [Eqs]) (fun H' i hle hi => ?_) (fun H' hle n5 => ?_)
 ·refine ae (ae ?_)
  refine ai ⟨?_, rfl⟩
  have e : 0 ≤ lK b.s1.hand id 0 := by omega
  rw [eD, fI]
  simp only [iR, n0, n1, n2, n3, n4, e, if_true, if_false]
  rw [hi]; rfl
 replace h := h.le hle
 refine iI h.s1.field (by simp [Eqs]) (fun H' i hle hi => ?_) (fun H' hle n6 => ?_)
 ·refine ae (ae ?_)
  refine ai ⟨?_, rfl⟩
  have e : 0 ≤ lK b.s1.field id 0 := by omega
  rw [eD, fI]
  simp only [iR, n0, n1, n2, n3, n4, n5, e, if_true, if_false]
  rw [hi]; rfl
 replace h := h.le hle
 refine iI h.s1.grave (by simp [Eqs]) (fun H' i hle hi => ?_) (fun Hz hle n7 => ?_)
 ·refine ae (ae ?_)
  refine ai ⟨?_, rfl⟩
  have e : 0 ≤ lK b.s1.grave id 0 := by omega
  rw [eD, fI]
  simp only [iR, n0, n1, n2, n3, n4, n5, n6, e, if_true, if_false]
  rw [hi]; rfl
 replace h := h.le hle
 have hG : eD (onR id) b id = if 0 ≤ fq (onR id) b.stack 0 then some ((b.stack.getD (fq (onR id) b.stack 0).toNat zIt).player, 4, fq (onR id) b.stack 0) else none := by
  rw [eD, fI]
  simp only [iR, n0, n1, n2, n3, n4, n5, n6, n7, if_false]
 have hsl := ItsR.len h.stack
 have stk := h.stack
 obtain ⟨rows, hrs, hrl, hit⟩ := stk
 have hB := hrs.lenB
 refine aQ b.stack.length (fun i H' O' => O' = O ∧ Heap.le Hz H' ∧ fq (onR id) b.stack 0 = fq (onR id) (b.stack.drop i) i) ⟨rfl, Heap.le_refl _, by simp⟩ ?_
 rintro i H' O' hi - ⟨rfl, hle, hor⟩
 refine ae (ab _ hsl (ab _ (aC _ _) (ak (fun hb => ?_) (fun hb => ?_))))
 ·have hlt : i < b.stack.length := by simpa using hb
  obtain ⟨a, h1, h2, _, h3, h4⟩ := (hrs.le hle).idx .i64 i rows[i] (by simp [hrl, hlt])
  obtain ⟨s, hrow, _⟩ := hit i rows[i] b.stack[i] (by simp [hrl, hlt]) (by simp [hlt])
  rw [hrow] at h2 h3 h4
  have hst : fq (onR id) (b.stack.drop i) i = if onR id b.stack[i] then (i : Int) else fq (onR id) (b.stack.drop (i + 1)) (i + 1) := by rw [List.drop_eq_getElem_cons hlt, fq]
  refine ae (ab _ h1 (ap h2 h3 h4 ?_))
  refine ah fun _ => ae (ae (ab _ (aH _ _) (ae (af (af (af (ab _ (aH _ _) (af (ab _ (bg _ _) ?_)))))))))
  refine ak (fun hc => ?_) (fun hc => ?_)
  ·have hc : onR id b.stack[i] = true := hc
   have e : fq (onR id) b.stack 0 = (i : Int) := by rw [hor, hst, if_pos hc]
   refine ae (ae (ae ?_))
   refine ai ⟨?_, rfl⟩
   rw [hG, e, if_pos (by omega)]
   simp only [AO, yU, Option.getD_some, Int.toNat_natCast, List.getD_eq_getElem?_getD, List.getElem?_eq_getElem hlt]
   rfl
  ·have hc : onR id b.stack[i] = false := hc
   refine ab _ (az (by omega)) (aJ (by simp [Eqs]) hlt ⟨rfl, hle, ?_⟩)
   rw [hor, hst, if_neg (by rw [hc]; simp)]; rfl
 ·have hge : b.stack.length ≤ i := by simpa using hb
  refine ae (ae ?_)
  refine ai ⟨?_, rfl⟩
  rw [hG, hor, List.drop_of_length_le hge, if_neg (by simp [fq])]
  rfl
end Go.Proofs.YtieaihgbjikggaaGreat
namespace Go.Proofs.YtieaihgbjikggaaGreat
open Go Go.Sx
set_option maxRecDepth 100000
set_option maxHeartbeats 1000000
theorem jT {α : Type} (p : α → Bool) : ∀ (l : List α) (i : Int), 0 ≤ i → (fq p l i = -1 ∧ ∀ x ∈ l, p x = false) ∨ ∃ (k : Nat) (x : α), l[k]? = some x ∧ p x = true ∧ (∀ y ∈ l.take k, p y = false) ∧ fq p l i = i + k
 | [], i, _ => .inl ⟨rfl, by simp⟩
 | a :: l, i, h => by
  simp only [fq]
  by_cases hp : p a = true
  ·right; exact ⟨0, a, rfl, hp, by simp, by rw [if_pos hp]; simp⟩
  ·rw [if_neg hp]
   have hp : p a = false := by simpa using hp
   rcases jT p l (i + 1) (by omega) with ⟨h1, h2⟩ | ⟨k, x, h1, h2, h3, h4⟩
   ·left
    refine ⟨h1, fun x hx => ?_⟩
    rcases List.mem_cons.1 hx with rfl | hx
    ·exact hp
    ·exact h2 x hx
   ·right
    refine ⟨k + 1, x, by simpa using h1, h2, fun y hy => ?_, by rw [h4]; omega⟩
    rw [List.take_succ_cons] at hy
    rcases List.mem_cons.1 hy with rfl | hy
    ·exact hp
    ·exact h3 y hy
theorem jU {α : Type} {p : α → Bool} {l : List α} (h : ∀ x ∈ l, p x = false) : (l.filter fun x => !p x) = l := by
 rw [List.filter_eq_self]
 intro x hx
 rw [h x hx]; rfl
theorem OwnB.pick_l0 {t : Tys} {w : dG} {b : Bd} {O : Own} (h : OwnB t w b O) : ∃ A R, O.Perm (A ++ R) ∧ OSl t.int 1 w.l0 (aG b.s0.lib) A ∧ ∀ v' l' A', OSl t.int 1 v' (aG l') A' → OwnB t { w with l0 := v' } { b with s0 := { b.s0 with lib := l' } } (A' ++ R) := by
 obtain ⟨Oo, A0, B0, C0, D0, A1, B1, C1, D1, Os, Oq, Oa, Obk, hp, h⟩ := h
 refine ⟨A0, Oo ++ (B0 ++ (C0 ++ (D0 ++ (A1 ++ (B1 ++ (C1 ++ (D1 ++ (Os ++ (Oq ++ (Oa ++ (Obk))))))))))), hp.trans (aZ fun a _ _ => by simp only [List.count_append] <;> omega), h.l0, fun v' l' A' h' => ⟨Oo, A', B0, C0, D0, A1, B1, C1, D1, Os, Oq, Oa, Obk, aZ fun a _ _ => by simp only [List.count_append] <;> omega, ⟨h.objs, h', h.h0, h.f0, h.g0, h.l1, h.h1, h.f1, h.g1, h.stack, h.queue, h.att, h.blocks⟩⟩⟩
theorem OwnB.pick_h0 {t : Tys} {w : dG} {b : Bd} {O : Own} (h : OwnB t w b O) : ∃ A R, O.Perm (A ++ R) ∧ OSl t.int 1 w.h0 (aG b.s0.hand) A ∧ ∀ v' l' A', OSl t.int 1 v' (aG l') A' → OwnB t { w with h0 := v' } { b with s0 := { b.s0 with hand := l' } } (A' ++ R) := by
 obtain ⟨Oo, A0, B0, C0, D0, A1, B1, C1, D1, Os, Oq, Oa, Obk, hp, h⟩ := h
 refine ⟨B0, Oo ++ (A0 ++ (C0 ++ (D0 ++ (A1 ++ (B1 ++ (C1 ++ (D1 ++ (Os ++ (Oq ++ (Oa ++ (Obk))))))))))), hp.trans (aZ fun a _ _ => by simp only [List.count_append] <;> omega), h.h0, fun v' l' A' h' => ⟨Oo, A0, A', C0, D0, A1, B1, C1, D1, Os, Oq, Oa, Obk, aZ fun a _ _ => by simp only [List.count_append] <;> omega, ⟨h.objs, h.l0, h', h.f0, h.g0, h.l1, h.h1, h.f1, h.g1, h.stack, h.queue, h.att, h.blocks⟩⟩⟩
theorem OwnB.pick_f0 {t : Tys} {w : dG} {b : Bd} {O : Own} (h : OwnB t w b O) : ∃ A R, O.Perm (A ++ R) ∧ OSl t.int 1 w.f0 (aG b.s0.field) A ∧ ∀ v' l' A', OSl t.int 1 v' (aG l') A' → OwnB t { w with f0 := v' } { b with s0 := { b.s0 with field := l' } } (A' ++ R) := by
 obtain ⟨Oo, A0, B0, C0, D0, A1, B1, C1, D1, Os, Oq, Oa, Obk, hp, h⟩ := h
 refine ⟨C0, Oo ++ (A0 ++ (B0 ++ (D0 ++ (A1 ++ (B1 ++ (C1 ++ (D1 ++ (Os ++ (Oq ++ (Oa ++ (Obk))))))))))), hp.trans (aZ fun a _ _ => by simp only [List.count_append] <;> omega), h.f0, fun v' l' A' h' => ⟨Oo, A0, B0, A', D0, A1, B1, C1, D1, Os, Oq, Oa, Obk, aZ fun a _ _ => by simp only [List.count_append] <;> omega, ⟨h.objs, h.l0, h.h0, h', h.g0, h.l1, h.h1, h.f1, h.g1, h.stack, h.queue, h.att, h.blocks⟩⟩⟩
theorem OwnB.pick_g0 {t : Tys} {w : dG} {b : Bd} {O : Own} (h : OwnB t w b O) : ∃ A R, O.Perm (A ++ R) ∧ OSl t.int 1 w.g0 (aG b.s0.grave) A ∧ ∀ v' l' A', OSl t.int 1 v' (aG l') A' → OwnB t { w with g0 := v' } { b with s0 := { b.s0 with grave := l' } } (A' ++ R) := by
 obtain ⟨Oo, A0, B0, C0, D0, A1, B1, C1, D1, Os, Oq, Oa, Obk, hp, h⟩ := h
 refine ⟨D0, Oo ++ (A0 ++ (B0 ++ (C0 ++ (A1 ++ (B1 ++ (C1 ++ (D1 ++ (Os ++ (Oq ++ (Oa ++ (Obk))))))))))), hp.trans (aZ fun a _ _ => by simp only [List.count_append] <;> omega), h.g0, fun v' l' A' h' => ⟨Oo, A0, B0, C0, A', A1, B1, C1, D1, Os, Oq, Oa, Obk, aZ fun a _ _ => by simp only [List.count_append] <;> omega, ⟨h.objs, h.l0, h.h0, h.f0, h', h.l1, h.h1, h.f1, h.g1, h.stack, h.queue, h.att, h.blocks⟩⟩⟩
theorem OwnB.pick_l1 {t : Tys} {w : dG} {b : Bd} {O : Own} (h : OwnB t w b O) : ∃ A R, O.Perm (A ++ R) ∧ OSl t.int 1 w.l1 (aG b.s1.lib) A ∧ ∀ v' l' A', OSl t.int 1 v' (aG l') A' → OwnB t { w with l1 := v' } { b with s1 := { b.s1 with lib := l' } } (A' ++ R) := by
 obtain ⟨Oo, A0, B0, C0, D0, A1, B1, C1, D1, Os, Oq, Oa, Obk, hp, h⟩ := h
 refine ⟨A1, Oo ++ (A0 ++ (B0 ++ (C0 ++ (D0 ++ (B1 ++ (C1 ++ (D1 ++ (Os ++ (Oq ++ (Oa ++ (Obk))))))))))), hp.trans (aZ fun a _ _ => by simp only [List.count_append] <;> omega), h.l1, fun v' l' A' h' => ⟨Oo, A0, B0, C0, D0, A', B1, C1, D1, Os, Oq, Oa, Obk, aZ fun a _ _ => by simp only [List.count_append] <;> omega, ⟨h.objs, h.l0, h.h0, h.f0, h.g0, h', h.h1, h.f1, h.g1, h.stack, h.queue, h.att, h.blocks⟩⟩⟩
theorem OwnB.pick_h1 {t : Tys} {w : dG} {b : Bd} {O : Own} (h : OwnB t w b O) : ∃ A R, O.Perm (A ++ R) ∧ OSl t.int 1 w.h1 (aG b.s1.hand) A ∧ ∀ v' l' A', OSl t.int 1 v' (aG l') A' → OwnB t { w with h1 := v' } { b with s1 := { b.s1 with hand := l' } } (A' ++ R) := by
 obtain ⟨Oo, A0, B0, C0, D0, A1, B1, C1, D1, Os, Oq, Oa, Obk, hp, h⟩ := h
 refine ⟨B1, Oo ++ (A0 ++ (B0 ++ (C0 ++ (D0 ++ (A1 ++ (C1 ++ (D1 ++ (Os ++ (Oq ++ (Oa ++ (Obk))))))))))), hp.trans (aZ fun a _ _ => by simp only [List.count_append] <;> omega), h.h1, fun v' l' A' h' => ⟨Oo, A0, B0, C0, D0, A1, A', C1, D1, Os, Oq, Oa, Obk, aZ fun a _ _ => by simp only [List.count_append] <;> omega, ⟨h.objs, h.l0, h.h0, h.f0, h.g0, h.l1, h', h.f1, h.g1, h.stack, h.queue, h.att, h.blocks⟩⟩⟩
theorem OwnB.pick_f1 {t : Tys} {w : dG} {b : Bd} {O : Own} (h : OwnB t w b O) : ∃ A R, O.Perm (A ++ R) ∧ OSl t.int 1 w.f1 (aG b.s1.field) A ∧ ∀ v' l' A', OSl t.int 1 v' (aG l') A' → OwnB t { w with f1 := v' } { b with s1 := { b.s1 with field := l' } } (A' ++ R) := by
 obtain ⟨Oo, A0, B0, C0, D0, A1, B1, C1, D1, Os, Oq, Oa, Obk, hp, h⟩ := h
 refine ⟨C1, Oo ++ (A0 ++ (B0 ++ (C0 ++ (D0 ++ (A1 ++ (B1 ++ (D1 ++ (Os ++ (Oq ++ (Oa ++ (Obk))))))))))), hp.trans (aZ fun a _ _ => by simp only [List.count_append] <;> omega), h.f1, fun v' l' A' h' => ⟨Oo, A0, B0, C0, D0, A1, B1, A', D1, Os, Oq, Oa, Obk, aZ fun a _ _ => by simp only [List.count_append] <;> omega, ⟨h.objs, h.l0, h.h0, h.f0, h.g0, h.l1, h.h1, h', h.g1, h.stack, h.queue, h.att, h.blocks⟩⟩⟩
theorem OwnB.pick_g1 {t : Tys} {w : dG} {b : Bd} {O : Own} (h : OwnB t w b O) : ∃ A R, O.Perm (A ++ R) ∧ OSl t.int 1 w.g1 (aG b.s1.grave) A ∧ ∀ v' l' A', OSl t.int 1 v' (aG l') A' → OwnB t { w with g1 := v' } { b with s1 := { b.s1 with grave := l' } } (A' ++ R) := by
 obtain ⟨Oo, A0, B0, C0, D0, A1, B1, C1, D1, Os, Oq, Oa, Obk, hp, h⟩ := h
 refine ⟨D1, Oo ++ (A0 ++ (B0 ++ (C0 ++ (D0 ++ (A1 ++ (B1 ++ (C1 ++ (Os ++ (Oq ++ (Oa ++ (Obk))))))))))), hp.trans (aZ fun a _ _ => by simp only [List.count_append] <;> omega), h.g1, fun v' l' A' h' => ⟨Oo, A0, B0, C0, D0, A1, B1, C1, A', Os, Oq, Oa, Obk, aZ fun a _ _ => by simp only [List.count_append] <;> omega, ⟨h.objs, h.l0, h.h0, h.f0, h.g0, h.l1, h.h1, h.f1, h', h.stack, h.queue, h.att, h.blocks⟩⟩⟩
theorem OwnB.pick_att {t : Tys} {w : dG} {b : Bd} {O : Own} (h : OwnB t w b O) : ∃ A R, O.Perm (A ++ R) ∧ OSl t.int 1 w.a (aG b.att) A ∧ ∀ v' l' A', OSl t.int 1 v' (aG l') A' → OwnB t { w with a := v' } { b with att := l' } (A' ++ R) := by
 obtain ⟨Oo, A0, B0, C0, D0, A1, B1, C1, D1, Os, Oq, Oa, Obk, hp, h⟩ := h
 refine ⟨Oa, Oo ++ (A0 ++ (B0 ++ (C0 ++ (D0 ++ (A1 ++ (B1 ++ (C1 ++ (D1 ++ (Os ++ (Oq ++ (Obk))))))))))), hp.trans (aZ fun a _ _ => by simp only [List.count_append] <;> omega), h.att, fun v' l' A' h' => ⟨Oo, A0, B0, C0, D0, A1, B1, C1, D1, Os, Oq, A', Obk, aZ fun a _ _ => by simp only [List.count_append] <;> omega, ⟨h.objs, h.l0, h.h0, h.f0, h.g0, h.l1, h.h1, h.f1, h.g1, h.stack, h.queue, h', h.blocks⟩⟩⟩
theorem OwnB.pick_blocks {t : Tys} {w : dG} {b : Bd} {O : Own} (h : OwnB t w b O) : ∃ A R, O.Perm (A ++ R) ∧ OSl t.bl 2 w.b (b.blocks.map Bl.row) A ∧ ∀ v' l' A', OSl t.bl 2 v' (List.map Bl.row l') A' → OwnB t { w with b := v' } { b with blocks := l' } (A' ++ R) := by
 obtain ⟨Oo, A0, B0, C0, D0, A1, B1, C1, D1, Os, Oq, Oa, Obk, hp, h⟩ := h
 refine ⟨Obk, Oo ++ (A0 ++ (B0 ++ (C0 ++ (D0 ++ (A1 ++ (B1 ++ (C1 ++ (D1 ++ (Os ++ (Oq ++ (Oa))))))))))), hp.trans (aZ fun a _ _ => by simp only [List.count_append] <;> omega), h.blocks, fun v' l' A' h' => ⟨Oo, A0, B0, C0, D0, A1, B1, C1, D1, Os, Oq, Oa, A', aZ fun a _ _ => by simp only [List.count_append] <;> omega, ⟨h.objs, h.l0, h.h0, h.f0, h.g0, h.l1, h.h1, h.f1, h.g1, h.stack, h.queue, h.att, h'⟩⟩⟩
theorem OwnB.pick_stack {t : Tys} {w : dG} {b : Bd} {O : Own} (h : OwnB t w b O) : ∃ A R, O.Perm (A ++ R) ∧ OIts t.tg t.it w.s b.stack A ∧ ∀ v' l' A', OIts t.tg t.it v' l' A' → OwnB t { w with s := v' } { b with stack := l' } (A' ++ R) := by
 obtain ⟨Oo, A0, B0, C0, D0, A1, B1, C1, D1, Os, Oq, Oa, Obk, hp, h⟩ := h
 refine ⟨Os, Oo ++ (A0 ++ (B0 ++ (C0 ++ (D0 ++ (A1 ++ (B1 ++ (C1 ++ (D1 ++ (Oq ++ (Oa ++ (Obk))))))))))), hp.trans (aZ fun a _ _ => by simp only [List.count_append] <;> omega), h.stack, fun v' l' A' h' => ⟨Oo, A0, B0, C0, D0, A1, B1, C1, D1, A', Oq, Oa, Obk, aZ fun a _ _ => by simp only [List.count_append] <;> omega, ⟨h.objs, h.l0, h.h0, h.f0, h.g0, h.l1, h.h1, h.f1, h.g1, h', h.queue, h.att, h.blocks⟩⟩⟩
theorem E4 {t e : TypeId} (h : (match PP.underlying t with | some (.slice x) => x == e | _ => false) = true) : PP.underlying t = some (.slice e) := by
 split at h
 ·rename_i x hx; rw [hx, beq_iff_eq.1 h]
 ·cases h
theorem Mn {b : Bool} (h : (!b) = true) : b = false := by simpa using h
theorem Mo {b : Bool} (h : (!b) = false) : b = true := by simpa using h
theorem yg {H : Heap} {O : Own} {v fv : Value} {rows : List (List Value)} {pr : List Value → Bool} (h : RSl H O 1 v rows) {f : FuncId} {caps : Array Value} (hf : fv = .func (.func f) #[] caps) (hok : tt PP f)
  (hp : ∀ H', Heap.le H H' → ∀ row ∈ rows, RetO PP f ([g row 0] ++ caps.toList) H' O (.bool (pr row))) : RetO PP gx [v, fv] H O (iV (fq pr rows 0)) := by
 subst hf
 refine lE (vs := [v, .func (.func f) #[] caps]) (by kernel_rfl) ⟨h.one, rfl, trivial⟩ ?_
 simp only [dP]
 have hB := h.lenB
 refine ab _ h.len ?_
 refine aQ rows.length (fun i H' O' => O' = O ∧ Heap.le H H' ∧ fq pr rows 0 = fq pr (rows.drop i) i) ⟨rfl, Heap.le_refl H, by simp⟩ ?_
 rintro i H' O' hi - ⟨rfl, hle, hor⟩
 refine ab _ (aC _ _) (ak (fun hb => ?_) (fun hb => ?_))
 ·have hlt : i < rows.length := by simpa using hb
  obtain ⟨a, h1, h2, _, h3, h4⟩ := (h.le hle).idx .i64 i rows[i] (List.getElem?_eq_getElem hlt)
  refine ab _ h1 (ap h2 h3 h4 ?_)
  refine eZ rfl hok (hp H' hle rows[i] (List.getElem_mem hlt)) rfl ⟨rfl, trivial⟩ fun H2 hle2 => ak (fun hb => ?_) (fun hb => ?_)
  ·refine ai ⟨?_, rfl⟩
   have hb : pr rows[i] = true := hb
   rw [hor, List.drop_eq_getElem_cons hlt, fq, if_pos hb]; rfl
  ·have hb : pr rows[i] = false := hb
   refine ab _ (az (by omega)) (aJ (by simp [Eqs]) hlt ⟨rfl, Heap.le_trans hle hle2, ?_⟩)
   rw [hor, List.drop_eq_getElem_cons hlt, fq, if_neg (by rw [hb]; simp)]; rfl
 ·have hge : rows.length ≤ i := by simpa using hb
  refine ai ⟨?_, rfl⟩
  rw [hor, List.drop_of_length_le hge]; rfl
theorem FW : ∀ w, (zeroValue aK).run PP w = .ok (iV 0) w := by
 intro w
 have : (PP.info? aK).bind (·.zero) = some (iV 0) := by kernel_rfl
 simp only [Option.bind_eq_some_iff] at this
 obtain ⟨i, hi, hz⟩ := this
 simp [zeroValue, typeInfo, hi, hz]
theorem wU {H : Heap} {B A : Own} {v fv : Value} {rows : List (List Value)} {pr : List Value → Bool} (h : OSl aK 1 v rows A) {f : FuncId} {caps : Array Value} (hf : fv = .func (.func f) #[] caps) (hok : tt PP f)
  (hp : ∀ H', Heap.le H H' → ∀ row ∈ rows, RetO PP f ([g row 0] ++ caps.toList) H' B (.bool (pr row))) :
  Triple PP dM [v, fv] H (B ++ A) fun v' _ O' => ∃ A', O' = B ++ A' ∧ OSl aK 1 v' (rows.filter fun r => !pr r) A' := by
 subst hf
 have hR := h.rsl (O := B ++ A) (fun p hp => List.mem_append_right _ hp) H
 have hB := h.lenB
 refine kH (vs := [v, .func (.func f) #[] caps]) (by kernel_rfl) ⟨h.one, rfl, trivial⟩ ?_
 simp only [dL]
 refine aj (yg hR rfl hok fun H' hl row hr => (hp H' hl row hr).frame A) rfl ⟨rfl, trivial⟩ fun H1 l1 => ab _ (aH _ _) (ak (fun hb => ?_) (fun hb => ?_))
 ·have e : fq pr rows 0 = -1 := by simpa using hb
  rcases jT pr rows 0 (by omega) with ⟨_, hn⟩ | ⟨k, x, _, _, _, e2⟩
  ·exact ai ⟨A, rfl, by rw [jU hn]; exact h⟩
  ·omega
 rcases jT pr rows 0 (by omega) with ⟨e, _⟩ | ⟨k, x, e1, e2, e3, e4⟩
 ·rw [e] at hb; simp at hb
 have e4 : fq pr rows 0 = (k : Int) := by omega
 have hklt : k < rows.length := (List.getElem?_eq_some_iff.1 e1).1
 rw [e4]
 refine ab _ (az (by omega)) ?_
 refine kb (fun vs H' O' => ∃ (i j : Nat) (rows' : List (List Value)) (A' : Own), vs = [iV i, iV j] ∧ i < j ∧ j ≤ rows.length ∧ O'.Perm (B ++ A') ∧ Heap.le H1 H' ∧ OSl aK 1 v rows' A' ∧ rows'.length = rows.length ∧ rows'.take i = ((rows.take j).filter fun r => !pr r) ∧ rows'.drop j = rows.drop j)
  (fun vs _ _ => match g vs 1 with | .int _ n => rows.length - n.toNat | _ => 0) ⟨k, k + 1, rows, A, rfl, by omega, by omega, List.Perm.refl _, Heap.le_refl _, h, rfl, ?_, rfl⟩ ?_
 ·rw [List.take_add_one, e1, List.filter_append, jU e3]
  simp [e2]
 rintro vs H' O' - - - ⟨i, j, rows', A', rfl, hij, hj, hp', hle, hA, hl', ht, hd⟩
 have hlen := hA.len
 rw [hl'] at hlen
 have hp2 : O'.Perm (A' ++ B) := hp'.trans List.perm_append_comm
 refine ab _ hlen (ab _ (aC _ _) (ak (fun hb => ?_) (fun hb => ?_)))
 ·have hlt : j < rows.length := by simpa using hb
  have hrj : rows'[j]? = some rows[j] := by
   have := congrArg (fun l => l[0]?) hd
   simp only [List.getElem?_drop, Nat.add_zero] at this
   rw [this, List.getElem?_eq_getElem hlt]
  have ro := hA.rows_ok hrj
  obtain ⟨a, k1, _, k2, _⟩ := hA.idx (fun p h => hp'.mem_iff.2 (List.mem_append_right _ h)) H' (k := .i64) hrj
  have htj : (rows.take (j + 1)).filter (fun r => !pr r) = ((rows.take j).filter fun r => !pr r) ++ (if pr rows[j] then [] else [rows[j]]) := by
   rw [List.take_add_one, List.getElem?_eq_getElem hlt, List.filter_append]
   cases hpr : pr rows[j] <;> simp [hpr]
  refine ab _ k1 (ap k2 ro.1 ro.2 ?_)
  refine eZ rfl hok (((hp H' (Heap.le_trans l1 hle) _ (List.getElem_mem hlt)).frame A').perm hp'.symm) rfl ⟨rfl, trivial⟩ fun H2 l2 => ab _ (aI _) (ak (fun hc => ?_) (fun hc => ?_))
  ·have hc : pr rows[j] = false := Mn hc
   have hri : rows'[i]? = some rows'[i] := List.getElem?_eq_getElem (by omega)
   have ri := hA.rows_ok hri
   obtain ⟨a2, j1, j2⟩ := hA.store hp2 (k := .i64) hri
   have hy : [g rows[j] 0] = rows[j] := F9 ro.1
   obtain ⟨A2, hst, hA2⟩ := j2 0 [g rows[j] 0] (by rw [hy, ro.1]; simp) (by rw [hy]; exact ro.2)
   rw [Ha] at hst
   rw [hy, wm (by rw [ri.1, ro.1])] at hA2
   refine ab _ j1 ?_
   refine aD rfl ?_
   refine ⟨_, hst, ?_⟩
   refine ab _ (az (by omega)) (ab _ (az (by omega)) (eM (by simp [Eqs]) ⟨i + 1, j + 1, rows'.set i rows[j], A2, rfl, by omega, by omega, List.perm_append_comm, Heap.le_trans hle l2, hA2, by simp [hl'], ?_, ?_⟩ ?_))
   ·rw [htj, hc, ← ht, List.take_add_one, List.getElem?_set_self (by omega), List.take_set, List.set_eq_of_length_le (by rw [List.length_take]; omega)]
    simp
   ·rw [List.drop_set_of_lt (by omega)]
    have := congrArg (fun l => l.drop 1) hd
    simpa [List.drop_drop] using this
   ·show rows.length - ((j + 1 : Nat) : Int).toNat < rows.length - ((j : Nat) : Int).toNat
    omega
  ·have hc : pr rows[j] = true := Mo hc
   refine ab _ (az (by omega)) (eM (by simp [Eqs]) ⟨i, j + 1, rows', A', rfl, by omega, by omega, hp', Heap.le_trans hle l2, hA, hl', ?_, ?_⟩ ?_)
   ·rw [htj, hc, ht]; simp
   ·have := congrArg (fun l => l.drop 1) hd
    simpa [List.drop_drop] using this
   ·show rows.length - ((j + 1 : Nat) : Int).toNat < rows.length - ((j : Nat) : Int).toNat
    omega
 ·have hje : j = rows.length := by
   have : ¬ ((j : Int) < (rows.length : Int)) := of_decide_eq_false hb
   omega
  rw [hje, List.take_length] at ht
  obtain ⟨u, c1, c2⟩ := wT (P := PP) (t := 26) (ty := 0) (e := aK) (E4 (by kernel_rfl)) FW rfl (by simp [Value.cells, Value.oneCell']) hA hp2 (i := i) (by omega)
  refine ab _ c1 (c2 H' _ fun rows2 A2 f1 f2 hA2 => ?_)
  obtain ⟨u2, d1, hu⟩ := hA2.upto (i := i) (by omega)
  refine ab _ d1 (vd List.perm_append_comm ⟨A2, rfl, ?_⟩)
  rw [f1, ht] at hu
  exact hu
theorem qX {H : Heap} {O : Own} {v fv : Value} {rows : List (List Value)} {pr : List Value → Bool} (h : RSl H O 2 v rows) {f : FuncId} {caps : Array Value} (hf : fv = .func (.func f) #[] caps) (hok : tt PP f)
  (hp : ∀ H', Heap.le H H' → ∀ row ∈ rows, RetO PP f ([.agg #[g row 0, g row 1]] ++ caps.toList) H' O (.bool (pr row))) : RetO PP dd [v, fv] H O (iV (fq pr rows 0)) := by
 subst hf
 refine fJ (vs := [v, .func (.func f) #[] caps]) (by kernel_rfl) ⟨h.one, rfl, trivial⟩ ?_
 simp only [bU]
 have hB := h.lenB
 refine ab _ h.len ?_
 refine aQ rows.length (fun i H' O' => O' = O ∧ Heap.le H H' ∧ fq pr rows 0 = fq pr (rows.drop i) i) ⟨rfl, Heap.le_refl H, by simp⟩ ?_
 rintro i H' O' hi - ⟨rfl, hle, hor⟩
 refine ab _ (aC _ _) (ak (fun hb => ?_) (fun hb => ?_))
 ·have hlt : i < rows.length := by simpa using hb
  obtain ⟨a, h1, h2, _, h3, h4⟩ := (h.le hle).idx .i64 i rows[i] (List.getElem?_eq_getElem hlt)
  refine ab _ h1 (ap h2 h3 h4 ?_)
  refine eZ rfl hok (hp H' hle rows[i] (List.getElem_mem hlt)) rfl ⟨rfl, trivial⟩ fun H2 hle2 => ak (fun hb => ?_) (fun hb => ?_)
  ·refine ai ⟨?_, rfl⟩
   have hb : pr rows[i] = true := hb
   rw [hor, List.drop_eq_getElem_cons hlt, fq, if_pos hb]; rfl
  ·have hb : pr rows[i] = false := hb
   refine ab _ (az (by omega)) (aJ (by simp [Eqs]) hlt ⟨rfl, Heap.le_trans hle hle2, ?_⟩)
   rw [hor, List.drop_eq_getElem_cons hlt, fq, if_neg (by rw [hb]; simp)]; rfl
 ·have hge : rows.length ≤ i := by simpa using hb
  refine ai ⟨?_, rfl⟩
  rw [hor, List.drop_of_length_le hge]; rfl
theorem AN : ∀ w, (zeroValue bf).run PP w = .ok (.agg #[iV 0, iV 0]) w := by
 intro w
 have : (PP.info? bf).bind (·.zero) = some (.agg #[iV 0, iV 0]) := by kernel_rfl
 simp only [Option.bind_eq_some_iff] at this
 obtain ⟨i, hi, hz⟩ := this
 simp [zeroValue, typeInfo, hi, hz]
theorem pB {H : Heap} {B A : Own} {v fv : Value} {rows : List (List Value)} {pr : List Value → Bool} (h : OSl bf 2 v rows A) {f : FuncId} {caps : Array Value} (hf : fv = .func (.func f) #[] caps) (hok : tt PP f)
  (hp : ∀ H', Heap.le H H' → ∀ row ∈ rows, RetO PP f ([.agg #[g row 0, g row 1]] ++ caps.toList) H' B (.bool (pr row))) :
  Triple PP bR [v, fv] H (B ++ A) fun v' _ O' => ∃ A', O' = B ++ A' ∧ OSl bf 2 v' (rows.filter fun r => !pr r) A' := by
 subst hf
 have hR := h.rsl (O := B ++ A) (fun p hp => List.mem_append_right _ hp) H
 have hB := h.lenB
 refine fi (vs := [v, .func (.func f) #[] caps]) (by kernel_rfl) ⟨h.one, rfl, trivial⟩ ?_
 simp only [bN]
 refine aj (qX hR rfl hok fun H' hl row hr => (hp H' hl row hr).frame A) rfl ⟨rfl, trivial⟩ fun H1 l1 => ab _ (aH _ _) (ak (fun hb => ?_) (fun hb => ?_))
 ·have e : fq pr rows 0 = -1 := by simpa using hb
  rcases jT pr rows 0 (by omega) with ⟨_, hn⟩ | ⟨k, x, _, _, _, e2⟩
  ·exact ai ⟨A, rfl, by rw [jU hn]; exact h⟩
  ·omega
 rcases jT pr rows 0 (by omega) with ⟨e, _⟩ | ⟨k, x, e1, e2, e3, e4⟩
 ·rw [e] at hb; simp at hb
 have e4 : fq pr rows 0 = (k : Int) := by omega
 have hklt : k < rows.length := (List.getElem?_eq_some_iff.1 e1).1
 rw [e4]
 refine ab _ (az (by omega)) ?_
 refine kb (fun vs H' O' => ∃ (i j : Nat) (rows' : List (List Value)) (A' : Own), vs = [iV i, iV j] ∧ i < j ∧ j ≤ rows.length ∧ O'.Perm (B ++ A') ∧ Heap.le H1 H' ∧ OSl bf 2 v rows' A' ∧ rows'.length = rows.length ∧ rows'.take i = ((rows.take j).filter fun r => !pr r) ∧ rows'.drop j = rows.drop j)
  (fun vs _ _ => match g vs 1 with | .int _ n => rows.length - n.toNat | _ => 0) ⟨k, k + 1, rows, A, rfl, by omega, by omega, List.Perm.refl _, Heap.le_refl _, h, rfl, ?_, rfl⟩ ?_
 ·rw [List.take_add_one, e1, List.filter_append, jU e3]
  simp [e2]
 rintro vs H' O' - - - ⟨i, j, rows', A', rfl, hij, hj, hp', hle, hA, hl', ht, hd⟩
 have hlen := hA.len
 rw [hl'] at hlen
 have hp2 : O'.Perm (A' ++ B) := hp'.trans List.perm_append_comm
 refine ab _ hlen (ab _ (aC _ _) (ak (fun hb => ?_) (fun hb => ?_)))
 ·have hlt : j < rows.length := by simpa using hb
  have hrj : rows'[j]? = some rows[j] := by
   have := congrArg (fun l => l[0]?) hd
   simp only [List.getElem?_drop, Nat.add_zero] at this
   rw [this, List.getElem?_eq_getElem hlt]
  have ro := hA.rows_ok hrj
  obtain ⟨a, k1, _, k2, _⟩ := hA.idx (fun p h => hp'.mem_iff.2 (List.mem_append_right _ h)) H' (k := .i64) hrj
  have htj : (rows.take (j + 1)).filter (fun r => !pr r) = ((rows.take j).filter fun r => !pr r) ++ (if pr rows[j] then [] else [rows[j]]) := by
   rw [List.take_add_one, List.getElem?_eq_getElem hlt, List.filter_append]
   cases hpr : pr rows[j] <;> simp [hpr]
  refine ab _ k1 (ap k2 ro.1 ro.2 ?_)
  refine ah fun _ => ae (ae ?_)
  refine eZ rfl hok (((hp H' (Heap.le_trans l1 hle) _ (List.getElem_mem hlt)).frame A').perm hp'.symm) rfl ⟨rfl, trivial⟩ fun H2 l2 => ab _ (aI _) (ak (fun hc => ?_) (fun hc => ?_))
  ·have hc : pr rows[j] = false := Mn hc
   have hri : rows'[i]? = some rows'[i] := List.getElem?_eq_getElem (by omega)
   have ri := hA.rows_ok hri
   obtain ⟨a2, j1, j2⟩ := hA.store hp2 (k := .i64) hri
   have hy : [g rows[j] 0, g rows[j] 1] = rows[j] := F9 ro.1
   obtain ⟨A2, hst, hA2⟩ := j2 0 [g rows[j] 0, g rows[j] 1] (by rw [hy, ro.1]; simp) (by rw [hy]; exact ro.2)
   rw [Ha] at hst
   rw [hy, wm (by rw [ri.1, ro.1])] at hA2
   refine ae ?_
   refine ab _ j1 ?_
   refine aD rfl ?_
   refine ⟨_, hst, ?_⟩
   refine ab _ (az (by omega)) (ab _ (az (by omega)) (eM (by simp [Eqs]) ⟨i + 1, j + 1, rows'.set i rows[j], A2, rfl, by omega, by omega, List.perm_append_comm, Heap.le_trans hle l2, hA2, by simp [hl'], ?_, ?_⟩ ?_))
   ·rw [htj, hc, ← ht, List.take_add_one, List.getElem?_set_self (by omega), List.take_set, List.set_eq_of_length_le (by rw [List.length_take]; omega)]
    simp
   ·rw [List.drop_set_of_lt (by omega)]
    have := congrArg (fun l => l.drop 1) hd
    simpa [List.drop_drop] using this
   ·show rows.length - ((j + 1 : Nat) : Int).toNat < rows.length - ((j : Nat) : Int).toNat
    omega
  ·have hc : pr rows[j] = true := Mo hc
   refine ab _ (az (by omega)) (eM (by simp [Eqs]) ⟨i, j + 1, rows', A', rfl, by omega, by omega, hp', Heap.le_trans hle l2, hA, hl', ?_, ?_⟩ ?_)
   ·rw [htj, hc, ht]; simp
   ·have := congrArg (fun l => l.drop 1) hd
    simpa [List.drop_drop] using this
   ·show rows.length - ((j + 1 : Nat) : Int).toNat < rows.length - ((j : Nat) : Int).toNat
    omega
 ·have hje : j = rows.length := by
   have : ¬ ((j : Int) < (rows.length : Int)) := of_decide_eq_false hb
   omega
  rw [hje, List.take_length] at ht
  obtain ⟨u, c1, c2⟩ := wT (P := PP) (t := 31) (ty := 0) (e := bf) (E4 (by kernel_rfl)) AN rfl (by simp [Value.cells, Value.oneCell']) hA hp2 (i := i) (by omega)
  refine ab _ c1 (c2 H' _ fun rows2 A2 f1 f2 hA2 => ?_)
  obtain ⟨u2, d1, hu⟩ := hA2.upto (i := i) (by omega)
  refine ab _ d1 (vd List.perm_append_comm ⟨A2, rfl, ?_⟩)
  rw [f1, ht] at hu
  exact hu
theorem sA {H : Heap} {O : Own} {v fv : Value} {rows : List (List Value)} {pr : List Value → Bool} (h : RSl H O 5 v rows) {f : FuncId} {caps : Array Value} (hf : fv = .func (.func f) #[] caps) (hok : tt PP f)
  (hp : ∀ H', Heap.le H H' → ∀ row ∈ rows, RetO PP f ([.agg #[g row 0, g row 1, g row 2, g row 3, g row 4]] ++ caps.toList) H' O (.bool (pr row))) : RetO PP co [v, fv] H O (iV (fq pr rows 0)) := by
 subst hf
 refine cY (vs := [v, .func (.func f) #[] caps]) (by kernel_rfl) ⟨h.one, rfl, trivial⟩ ?_
 simp only [bu]
 have hB := h.lenB
 refine ab _ h.len ?_
 refine aQ rows.length (fun i H' O' => O' = O ∧ Heap.le H H' ∧ fq pr rows 0 = fq pr (rows.drop i) i) ⟨rfl, Heap.le_refl H, by simp⟩ ?_
 rintro i H' O' hi - ⟨rfl, hle, hor⟩
 refine ab _ (aC _ _) (ak (fun hb => ?_) (fun hb => ?_))
 ·have hlt : i < rows.length := by simpa using hb
  obtain ⟨a, h1, h2, _, h3, h4⟩ := (h.le hle).idx .i64 i rows[i] (List.getElem?_eq_getElem hlt)
  refine ab _ h1 (ap h2 h3 h4 ?_)
  refine eZ rfl hok (hp H' hle rows[i] (List.getElem_mem hlt)) rfl ⟨rfl, trivial⟩ fun H2 hle2 => ak (fun hb => ?_) (fun hb => ?_)
  ·refine ai ⟨?_, rfl⟩
   have hb : pr rows[i] = true := hb
   rw [hor, List.drop_eq_getElem_cons hlt, fq, if_pos hb]; rfl
  ·have hb : pr rows[i] = false := hb
   refine ab _ (az (by omega)) (aJ (by simp [Eqs]) hlt ⟨rfl, Heap.le_trans hle hle2, ?_⟩)
   rw [hor, List.drop_eq_getElem_cons hlt, fq, if_neg (by rw [hb]; simp)]; rfl
 ·have hge : rows.length ≤ i := by simpa using hb
  refine ai ⟨?_, rfl⟩
  rw [hor, List.drop_of_length_le hge]; rfl
theorem Co : ∀ w, (zeroValue aU).run PP w = .ok (.agg #[iV 0, iV 0, iV 0, iV 0, Fh]) w := by
 intro w
 have : (PP.info? aU).bind (·.zero) = some (.agg #[iV 0, iV 0, iV 0, iV 0, Fh]) := by kernel_rfl
 simp only [Option.bind_eq_some_iff] at this
 obtain ⟨i, hi, hz⟩ := this
 simp [zeroValue, typeInfo, hi, hz]
theorem qY {H : Heap} {B A : Own} {v fv : Value} {rows : List (List Value)} {pr : List Value → Bool} (h : OSl aU 5 v rows A) {f : FuncId} {caps : Array Value} (hf : fv = .func (.func f) #[] caps) (hok : tt PP f)
  (hp : ∀ H', Heap.le H H' → ∀ row ∈ rows, RetO PP f ([.agg #[g row 0, g row 1, g row 2, g row 3, g row 4]] ++ caps.toList) H' B (.bool (pr row))) :
  Triple PP bY [v, fv] H (B ++ A) fun v' _ O' => ∃ A', O' = B ++ A' ∧ OSl aU 5 v' (rows.filter fun r => !pr r) A' := by
 subst hf
 have hR := h.rsl (O := B ++ A) (fun p hp => List.mem_append_right _ hp) H
 have hB := h.lenB
 refine fR (vs := [v, .func (.func f) #[] caps]) (by kernel_rfl) ⟨h.one, rfl, trivial⟩ ?_
 simp only [bX]
 refine aj (sA hR rfl hok fun H' hl row hr => (hp H' hl row hr).frame A) rfl ⟨rfl, trivial⟩ fun H1 l1 => ab _ (aH _ _) (ak (fun hb => ?_) (fun hb => ?_))
 ·have e : fq pr rows 0 = -1 := by simpa using hb
  rcases jT pr rows 0 (by omega) with ⟨_, hn⟩ | ⟨k, x, _, _, _, e2⟩
  ·exact ai ⟨A, rfl, by rw [jU hn]; exact h⟩
  ·omega
 rcases jT pr rows 0 (by omega) with ⟨e, _⟩ | ⟨k, x, e1, e2, e3, e4⟩
 ·rw [e] at hb; simp at hb
 have e4 : fq pr rows 0 = (k : Int) := by omega
 have hklt : k < rows.length := (List.getElem?_eq_some_iff.1 e1).1
 rw [e4]
 refine ab _ (az (by omega)) ?_
 refine kb (fun vs H' O' => ∃ (i j : Nat) (rows' : List (List Value)) (A' : Own), vs = [iV i, iV j] ∧ i < j ∧ j ≤ rows.length ∧ O'.Perm (B ++ A') ∧ Heap.le H1 H' ∧ OSl aU 5 v rows' A' ∧ rows'.length = rows.length ∧ rows'.take i = ((rows.take j).filter fun r => !pr r) ∧ rows'.drop j = rows.drop j)
  (fun vs _ _ => match g vs 1 with | .int _ n => rows.length - n.toNat | _ => 0) ⟨k, k + 1, rows, A, rfl, by omega, by omega, List.Perm.refl _, Heap.le_refl _, h, rfl, ?_, rfl⟩ ?_
 ·rw [List.take_add_one, e1, List.filter_append, jU e3]
  simp [e2]
 rintro vs H' O' - - - ⟨i, j, rows', A', rfl, hij, hj, hp', hle, hA, hl', ht, hd⟩
 have hlen := hA.len
 rw [hl'] at hlen
 have hp2 : O'.Perm (A' ++ B) := hp'.trans List.perm_append_comm
 refine ab _ hlen (ab _ (aC _ _) (ak (fun hb => ?_) (fun hb => ?_)))
 ·have hlt : j < rows.length := by simpa using hb
  have hrj : rows'[j]? = some rows[j] := by
   have := congrArg (fun l => l[0]?) hd
   simp only [List.getElem?_drop, Nat.add_zero] at this
   rw [this, List.getElem?_eq_getElem hlt]
  have ro := hA.rows_ok hrj
  obtain ⟨a, k1, _, k2, _⟩ := hA.idx (fun p h => hp'.mem_iff.2 (List.mem_append_right _ h)) H' (k := .i64) hrj
  have htj : (rows.take (j + 1)).filter (fun r => !pr r) = ((rows.take j).filter fun r => !pr r) ++ (if pr rows[j] then [] else [rows[j]]) := by
   rw [List.take_add_one, List.getElem?_eq_getElem hlt, List.filter_append]
   cases hpr : pr rows[j] <;> simp [hpr]
  refine ab _ k1 (ap k2 ro.1 ro.2 ?_)
  refine ah fun _ => ae (ae ?_)
  refine eZ rfl hok (((hp H' (Heap.le_trans l1 hle) _ (List.getElem_mem hlt)).frame A').perm hp'.symm) rfl ⟨rfl, trivial⟩ fun H2 l2 => ab _ (aI _) (ak (fun hc => ?_) (fun hc => ?_))
  ·have hc : pr rows[j] = false := Mn hc
   have hri : rows'[i]? = some rows'[i] := List.getElem?_eq_getElem (by omega)
   have ri := hA.rows_ok hri
   obtain ⟨a2, j1, j2⟩ := hA.store hp2 (k := .i64) hri
   have hy : [g rows[j] 0, g rows[j] 1, g rows[j] 2, g rows[j] 3, g rows[j] 4] = rows[j] := F9 ro.1
   obtain ⟨A2, hst, hA2⟩ := j2 0 [g rows[j] 0, g rows[j] 1, g rows[j] 2, g rows[j] 3, g rows[j] 4] (by rw [hy, ro.1]; simp) (by rw [hy]; exact ro.2)
   rw [Ha] at hst
   rw [hy, wm (by rw [ri.1, ro.1])] at hA2
   refine ae ?_
   refine ab _ j1 ?_
   refine aD rfl ?_
   refine ⟨_, hst, ?_⟩
   refine ab _ (az (by omega)) (ab _ (az (by omega)) (eM (by simp [Eqs]) ⟨i + 1, j + 1, rows'.set i rows[j], A2, rfl, by omega, by omega, List.perm_append_comm, Heap.le_trans hle l2, hA2, by simp [hl'], ?_, ?_⟩ ?_))
   ·rw [htj, hc, ← ht, List.take_add_one, List.getElem?_set_self (by omega), List.take_set, List.set_eq_of_length_le (by rw [List.length_take]; omega)]
    simp
   ·rw [List.drop_set_of_lt (by omega)]
    have := congrArg (fun l => l.drop 1) hd
    simpa [List.drop_drop] using this
   ·show rows.length - ((j + 1 : Nat) : Int).toNat < rows.length - ((j : Nat) : Int).toNat
    omega
  ·have hc : pr rows[j] = true := Mo hc
   refine ab _ (az (by omega)) (eM (by simp [Eqs]) ⟨i, j + 1, rows', A', rfl, by omega, by omega, hp', Heap.le_trans hle l2, hA, hl', ?_, ?_⟩ ?_)
   ·rw [htj, hc, ht]; simp
   ·have := congrArg (fun l => l.drop 1) hd
    simpa [List.drop_drop] using this
   ·show rows.length - ((j + 1 : Nat) : Int).toNat < rows.length - ((j : Nat) : Int).toNat
    omega
 ·have hje : j = rows.length := by
   have : ¬ ((j : Int) < (rows.length : Int)) := of_decide_eq_false hb
   omega
  rw [hje, List.take_length] at ht
  obtain ⟨u, c1, c2⟩ := wT (P := PP) (t := 30) (ty := 0) (e := aU) (E4 (by kernel_rfl)) Co rfl (by simp [Value.cells, Value.oneCell']) hA hp2 (i := i) (by omega)
  refine ab _ c1 (c2 H' _ fun rows2 A2 f1 f2 hA2 => ?_)
  obtain ⟨u2, d1, hu⟩ := hA2.upto (i := i) (by omega)
  refine ab _ d1 (vd List.perm_append_comm ⟨A2, rfl, ?_⟩)
  rw [f1, ht] at hu
  exact hu
end Go.Proofs.YtieaihgbjikggaaGreat
namespace Go.Proofs.YtieaihgbjikggaaGreat
open Go Go.Sx
set_option maxRecDepth 100000
set_option maxHeartbeats 1000000
def pr1 (id : Int) (row : List Value) : Bool := asI (g row 0) == some id
def pr2 (id : Int) (row : List Value) : Bool := (match asI (g row 3) with | some t => decide (t < 0) | none => false) && asI (g row 1) == some id
def pr3 (id : Int) (row : List Value) : Bool := asI (g row 0) == some id || asI (g row 1) == some id
theorem MF {H : Heap} {O : Own} {r : Nat} {T : TypeId} {id : Int} (hb : (r, Obj.cells [iV id].toArray T (0, 0)) ∈ O) (n : Int) :
  RetO PP lU ([iV n] ++ (#[.pointer (some ⟨r, 0, none⟩)] : Array Value).toList) H O (.bool (n == id)) := by
 refine za (vs := [iV n, .pointer (some ⟨r, 0, none⟩)]) (by kernel_rfl) ⟨rfl, rfl, trivial⟩ ?_
 simp only [qn]
 refine ap (vs := [iV id]) (.inr ⟨⟨r, 0, none⟩, [iV id].toArray, T, rfl, rfl, hb, rfl, rfl⟩) rfl ⟨rfl, trivial⟩ ?_
 refine ab _ (aH _ _) ?_
 exact ai ⟨rfl, rfl⟩
theorem ME {H : Heap} {O : Own} {r : Nat} {T : TypeId} {id : Int} (hb : (r, Obj.cells [iV id].toArray T (0, 0)) ∈ O) (x : It) {s : Value} (hs : s.oneCell' = true) :
  RetO PP qx ([.agg #[iV x.player, iV x.id, iV x.card, iV x.trig, s]] ++ (#[.pointer (some ⟨r, 0, none⟩)] : Array Value).toList) H O (.bool (mQ id x)) := by
 refine y9 (vs := [iV x.player, iV x.id, iV x.card, iV x.trig, s, .pointer (some ⟨r, 0, none⟩)]) (by kernel_rfl) ⟨rfl, rfl, rfl, rfl, hs, rfl, trivial⟩ ?_
 simp only [qm]
 refine ah fun r0 => ae (ab _ (aC _ _) ?_)
 refine ae (af ?_)
 refine ⟨[iV id], rfl, ⟨rfl, trivial⟩, fun _ => .inr ⟨⟨r, 0, none⟩, [iV id].toArray, T, rfl, rfl, hb, rfl, rfl⟩, ?_⟩
 refine af (af (ab _ (aH _ _) (af (ab _ (bg _ _) ?_))))
 exact ai ⟨rfl, rfl⟩
theorem MC {H : Heap} {O : Own} {r : Nat} {T : TypeId} {id : Int} (hb : (r, Obj.cells [iV id].toArray T (0, 0)) ∈ O) (x : Bl) :
  RetO PP lT ([.agg #[iV x.blocker, iV x.attacker]] ++ (#[.pointer (some ⟨r, 0, none⟩)] : Array Value).toList) H O (.bool (eh id x)) := by
 refine y8 (vs := [iV x.blocker, iV x.attacker, .pointer (some ⟨r, 0, none⟩)]) (by kernel_rfl) ⟨rfl, rfl, rfl, trivial⟩ ?_
 simp only [ql]
 refine ah fun r0 => ?_
 refine ae ?_
 refine ap (vs := [iV id]) (.inr ⟨⟨r, 0, none⟩, [iV id].toArray, T, rfl, rfl, hb, rfl, rfl⟩) rfl ⟨rfl, trivial⟩ ?_
 refine ab _ (aH _ _) (ae (af ?_))
 refine ⟨[iV id], rfl, ⟨rfl, trivial⟩, fun _ => .inr ⟨⟨r, 0, none⟩, [iV id].toArray, T, rfl, rfl, hb, rfl, rfl⟩, ?_⟩
 refine af (af (ab _ (aH _ _) (af (ab _ (aO _ _) ?_))))
 exact ai ⟨rfl, rfl⟩
theorem Fx (l : List Int) (id : Int) : ((aG l).filter fun r => !pr1 id r) = aG (bS l id) := by
 simp only [aG, bS, List.filter_map]
 congr 1
theorem Hx (l : List Bl) (id : Int) : ((l.map Bl.row).filter fun r => !pr3 id r) = (l.filter fun x => !eh id x).map Bl.row := by
 rw [List.filter_map]
 congr 1
theorem BW {te : TypeId} {id : Int} : ∀ (l : List It) (rows : List (List Value)) (Ts : List Own), rows.length = l.length → Ts.length = l.length →
  (∀ (i : Nat) (r : List Value) (x : It) (T : Own), rows[i]? = some r → l[i]? = some x → Ts[i]? = some T → ∃ s, r = [iV x.player, iV x.id, iV x.card, iV x.trig, s] ∧ OSlE te 2 s (x.tgs.map Tg.row) T) →
  ∃ Ts' Y, (List.flatten Ts).Perm (List.flatten Ts' ++ Y) ∧ (rows.filter fun r => !pr2 id r).length = (l.filter fun x => !mQ id x).length ∧ Ts'.length = (l.filter fun x => !mQ id x).length ∧
   ∀ (i : Nat) (r : List Value) (x : It) (T : Own), (rows.filter fun r => !pr2 id r)[i]? = some r → (l.filter fun x => !mQ id x)[i]? = some x → Ts'[i]? = some T → ∃ s, r = [iV x.player, iV x.id, iV x.card, iV x.trig, s] ∧ OSlE te 2 s (x.tgs.map Tg.row) T
 | [], [], [], _, _, _ => ⟨[], [], List.Perm.refl _, rfl, rfl, fun i r x T h => by simp at h⟩
 | x :: l, r :: rows, T :: Ts, h1, h2, hs => by
  obtain ⟨s, e, hT⟩ := hs 0 r x T rfl rfl rfl
  obtain ⟨Ts', Y, p1, p2, p3, p4⟩ := BW (id := id) l rows Ts (by simpa using h1) (by simpa using h2) fun i r x T a b c => hs (i + 1) r x T (by simpa using a) (by simpa using b) (by simpa using c)
  have hpr : pr2 id r = mQ id x := by
   rw [e]
   show (decide (x.trig < 0) && (some x.id == some id)) = mQ id x
   simp [mQ]
  cases hc : mQ id x with
  | true =>
   refine ⟨Ts', T ++ Y, ?_, ?_, ?_, ?_⟩
   ·rw [List.flatten_cons]
    exact (p1.append_left T).trans (aZ fun a _ _ => by simp only [List.count_append] <;> omega)
   ·simp [List.filter_cons, hpr, hc, p2]
   ·simp [List.filter_cons, hc, p3]
   ·simpa [List.filter_cons, hpr, hc] using p4
  | false =>
   refine ⟨T :: Ts', Y, ?_, ?_, ?_, ?_⟩
   ·rw [List.flatten_cons, List.flatten_cons, List.append_assoc]
    exact p1.append_left T
   ·simp [List.filter_cons, hpr, hc, p2]
   ·simp [List.filter_cons, hc, p3]
   ·intro i r' x' T' a b c
    simp only [List.filter_cons, hpr, hc, Bool.not_false, if_true] at a b
    cases i with
    | zero => simp at a b c; subst a; subst b; subst c; exact ⟨s, e, hT⟩
    | succ i => exact p4 i r' x' T' (by simpa using a) (by simpa using b) (by simpa using c)
 | [], _ :: _, _, h, _, _ => by simp at h
 | _ :: _, [], _, h, _, _ => by simp at h
 | [], [], _ :: _, _, h, _ => by simp at h
 | _ :: _, _ :: _, [], _, h, _ => by simp at h
theorem CF {P : Program} {v : Value} {H : Heap} {O O' Y : Own} {Q : Value → Heap → Own → Prop} (hp : O.Perm (O' ++ Y)) (h : Q v H O') : (Tree.ret v []).den P Q H O :=
 fun _ => ⟨H, O', (Ghost.perm (by simpa using hp)).trans (Ghost.sub (List.sublist_append_left _ _)), h⟩
abbrev Nc (r1 : Nat) (id : Int) : Own := ([⟨r1, 3, [iV id]⟩] : List BV).map BV.obj
theorem GL (r1 : Nat) (id : Int) : ((r1, Obj.cells [iV id].toArray 3 (0, 0)) : Nat × Obj) ∈ Nc r1 id := by simp [BV.obj]
theorem JG {H : Heap} {r1 : Nat} {id : Int} {x : Value} {srows : List (List Value)} {l : List It} {As : Own} {Ts : List Own} (hs1 : OSl aU 5 x srows As) (hs2 : srows.length = l.length) (hs3 : Ts.length = l.length)
  (hs4 : ∀ (i : Nat) (r : List Value) (x : It) (T : Own), srows[i]? = some r → l[i]? = some x → Ts[i]? = some T → ∃ s, r = [iV x.player, iV x.id, iV x.card, iV x.trig, s] ∧ OSlE ar 2 s (x.tgs.map Tg.row) T) :
  Triple PP bY [x, .func (.func qx) #[] #[.pointer (some ⟨r1, 0, none⟩)]] H (Nc r1 id ++ As)
   fun v' _ O' => ∃ O3, O' = Nc r1 id ++ O3 ∧ OSl aU 5 v' (srows.filter fun r => !pr2 id r) O3 := by
 refine qY (pr := pr2 id) hs1 rfl (kJ aB (by decide)) fun H2 _ row hr => ?_
 obtain ⟨i, hi⟩ := List.mem_iff_getElem?.1 hr
 have hlt := (List.getElem?_eq_some_iff.1 hi).1
 have hl : l[i]? = some l[i] := List.getElem?_eq_getElem (by omega)
 obtain ⟨s, e, hT⟩ := hs4 i row l[i] Ts[i] hi hl (List.getElem?_eq_getElem (by omega))
 have h2 := ME (H := H2) (GL r1 id) l[i] hT.one
 have e2 : pr2 id row = mQ id l[i] := by
  rw [e]
  show (decide (l[i].trig < 0) && (some l[i].id == some id)) = mQ id l[i]
  simp [mQ]
 rw [e2, e]
 exact h2
theorem HD {H : Heap} {r1 : Nat} {id : Int} {x : Value} {l : List Bl} {As : Own} (hs1 : OSl bf 2 x (l.map Bl.row) As) :
  Triple PP bR [x, .func (.func lT) #[] #[.pointer (some ⟨r1, 0, none⟩)]] H (Nc r1 id ++ As)
   fun v' _ O' => ∃ O3, O' = Nc r1 id ++ O3 ∧ OSl bf 2 v' ((l.filter fun x => !eh id x).map Bl.row) O3 := by
 have h2 := pB (H := H) (B := Nc r1 id) (pr := pr3 id) (f := lT) (caps := #[.pointer (some ⟨r1, 0, none⟩)]) hs1 rfl (kJ aB (by decide)) fun H2 _ row hr => by
  obtain ⟨y, _, rfl⟩ := List.mem_map.1 hr
  have h3 := MC (H := H2) (GL r1 id) y
  have e : pr3 id (Bl.row y) = eh id y := by
   show (some y.blocker == some id || some y.attacker == some id) = eh id y
   simp [eh]
  rw [e]; exact h3
 rw [Hx] at h2
 exact h2
theorem Ol {H : Heap} {v : dG} {b : Bd} (h : BdS H v b) (hB : bdB b) (id : Int) : Triple PP AL [.agg (aq v b).toArray, iV id] H [] fun r _ O' => ∃ w, r = .agg (aq w (nb b id)).toArray ∧ OwnB tys w (nb b id) O' := by
 refine CE (vs := aq v b ++ [iV id]) (by kernel_rfl) (aL (au (h.r [])) ⟨rfl, trivial⟩) ?_
 simp only [uJ]
 refine ah fun r0 => ah fun r1 => ah fun r2 => ?_
 refine ae ?_
 refine ay (JV h hB) ?_
 rintro _ H1 O1 ⟨w, rfl, ho⟩ l1
 refine ⟨aq w b, rfl, cz H1 ho, ?_⟩
 rw [List.append_nil]
 have hbox : ((r1, Obj.cells [iV id].toArray 3 (0, 0)) : Nat × Obj) ∈ ([⟨r1, 3, [iV id]⟩] : List BV).map BV.obj := by simp [BV.obj]
 have hdel : ∀ {H' : Heap} {x : Value} {l : List Int} {A : Own}, OSl aK 1 x (aG l) A → Triple PP dM [x, .func (.func lU) #[] #[.pointer (some ⟨r1, 0, none⟩)]] H' (([⟨r1, 3, [iV id]⟩] : List BV).map BV.obj ++ A)
   fun v' _ O' => ∃ O3, O' = ([⟨r1, 3, [iV id]⟩] : List BV).map BV.obj ++ O3 ∧ OSl aK 1 v' (aG (bS l id)) O3 := by
  intro H' x l A hA
  have := wU (H := H') (B := ([⟨r1, 3, [iV id]⟩] : List BV).map BV.obj) (pr := pr1 id) hA rfl (kJ aB (by decide)) (f := lU) (caps := #[.pointer (some ⟨r1, 0, none⟩)]) fun H2 _ row hr => by
   simp only [aG, List.mem_map] at hr
   obtain ⟨n, _, rfl⟩ := hr
   have := MF (H := H2) hbox n
   have e : pr1 id [iV n] = (n == id) := by show (some n == some id) = (n == id); simp
   rw [e]; exact this
  rw [Fx] at this
  exact this
 refine ae ?_
 refine aj (nH r0 1 _ _) rfl ⟨rfl, rfl, rfl, rfl, trivial⟩ fun L0 m0 => ?_
 repeat (first | refine ae ?_ | refine af ?_)
 obtain ⟨A0, R0, p0, q0, back0⟩ := OwnB.pick_l0 ho
 refine fW (own := [⟨r1, 3, [iV id]⟩]) p0 (hdel q0) ⟨rfl, ⟨rfl, trivial⟩, trivial⟩ fun v0 K0 X0 x0 j0 => ⟨[v0], rfl, ⟨x0.one, trivial⟩, ?_⟩
 have ho0 := back0 _ _ _ x0
 clear back0
 refine ae (ae ?_)
 obtain ⟨A1, R1, p1, q1, back1⟩ := OwnB.pick_h0 ho0
 refine fW (own := [⟨r1, 3, [iV id]⟩]) p1 (hdel q1) ⟨rfl, ⟨rfl, trivial⟩, trivial⟩ fun v1 K1 X1 x1 j1 => ⟨[v1], rfl, ⟨x1.one, trivial⟩, ?_⟩
 have ho1 := back1 _ _ _ x1
 clear back1
 refine ae (ae ?_)
 obtain ⟨A2, R2, p2, q2, back2⟩ := OwnB.pick_f0 ho1
 refine fW (own := [⟨r1, 3, [iV id]⟩]) p2 (hdel q2) ⟨rfl, ⟨rfl, trivial⟩, trivial⟩ fun v2 K2 X2 x2 j2 => ⟨[v2], rfl, ⟨x2.one, trivial⟩, ?_⟩
 have ho2 := back2 _ _ _ x2
 clear back2
 refine ae (ae ?_)
 obtain ⟨A3, R3, p3, q3, back3⟩ := OwnB.pick_g0 ho2
 refine fW (own := [⟨r1, 3, [iV id]⟩]) p3 (hdel q3) ⟨rfl, ⟨rfl, trivial⟩, trivial⟩ fun v3 K3 X3 x3 j3 => ⟨[v3], rfl, ⟨x3.one, trivial⟩, ?_⟩
 have ho3 := back3 _ _ _ x3
 clear back3
 refine ae ?_
 refine aj (nH r0 15 _ _) rfl ⟨rfl, rfl, rfl, rfl, trivial⟩ fun L4 m4 => ?_
 repeat (first | refine ae ?_ | refine af ?_)
 obtain ⟨A4, R4, p4, q4, back4⟩ := OwnB.pick_l1 ho3
 refine fW (own := [⟨r1, 3, [iV id]⟩]) p4 (hdel q4) ⟨rfl, ⟨rfl, trivial⟩, trivial⟩ fun v4 K4 X4 x4 j4 => ⟨[v4], rfl, ⟨x4.one, trivial⟩, ?_⟩
 have ho4 := back4 _ _ _ x4
 clear back4
 refine ae (ae ?_)
 obtain ⟨A5, R5, p5, q5, back5⟩ := OwnB.pick_h1 ho4
 refine fW (own := [⟨r1, 3, [iV id]⟩]) p5 (hdel q5) ⟨rfl, ⟨rfl, trivial⟩, trivial⟩ fun v5 K5 X5 x5 j5 => ⟨[v5], rfl, ⟨x5.one, trivial⟩, ?_⟩
 have ho5 := back5 _ _ _ x5
 clear back5
 refine ae (ae ?_)
 obtain ⟨A6, R6, p6, q6, back6⟩ := OwnB.pick_f1 ho5
 refine fW (own := [⟨r1, 3, [iV id]⟩]) p6 (hdel q6) ⟨rfl, ⟨rfl, trivial⟩, trivial⟩ fun v6 K6 X6 x6 j6 => ⟨[v6], rfl, ⟨x6.one, trivial⟩, ?_⟩
 have ho6 := back6 _ _ _ x6
 clear back6
 refine ae (ae ?_)
 obtain ⟨A7, R7, p7, q7, back7⟩ := OwnB.pick_g1 ho6
 refine fW (own := [⟨r1, 3, [iV id]⟩]) p7 (hdel q7) ⟨rfl, ⟨rfl, trivial⟩, trivial⟩ fun v7 K7 X7 x7 j7 => ⟨[v7], rfl, ⟨x7.one, trivial⟩, ?_⟩
 have ho7 := back7 _ _ _ x7
 clear back7
 refine ae (ae ?_)
 obtain ⟨A8, R8, p8, q8, back8⟩ := OwnB.pick_stack ho7
 obtain ⟨srows, As, Ts, hps, hs1, hs2, hs3, hs4⟩ : OIts tys.tg tys.it _ b.stack A8 := q8
 obtain ⟨Ts', Y, t1, t2, t3, t4⟩ := BW (id := id) _ srows Ts hs2 hs3 hs4
 have hdel2 := JG (H := K7) (r1 := r1) (id := id) hs1 hs2 hs3 hs4
 refine fW (own := [⟨r1, 3, [iV id]⟩]) (O1 := As) (O2 := List.flatten Ts' ++ (Y ++ R8)) (p8.trans ((hps.append_right R8).trans ((List.Perm.append_right R8 (t1.append_left As)).trans (aZ fun a _ _ => by simp only [List.count_append] <;> omega)))) hdel2 ⟨rfl, ⟨rfl, trivial⟩, trivial⟩ fun v8 K8 X8 x8 j8 => ⟨[v8], rfl, ⟨x8.one, trivial⟩, ?_⟩
 have ho8 := back8 v8 (b.stack.filter fun x => !mQ id x) (X8 ++ List.flatten Ts') ⟨_, X8, Ts', List.Perm.refl _, x8, t2, t3, t4⟩
 have hsep : (X8 ++ (List.flatten Ts' ++ (Y ++ R8))).Perm (((X8 ++ List.flatten Ts') ++ R8) ++ Y) := aZ fun a _ _ => by simp only [List.count_append]; omega
 refine ae (ae ?_)
 obtain ⟨A9, R9, p9, q9, back9⟩ := OwnB.pick_att ho8
 refine fW (own := [⟨r1, 3, [iV id]⟩]) (O1 := A9) (O2 := R9 ++ Y) (hsep.trans ((p9.append_right Y).trans (List.Perm.of_eq (List.append_assoc _ _ _)))) (hdel q9) ⟨rfl, ⟨rfl, trivial⟩, trivial⟩ fun v9 K9 X9 x9 j9 => ⟨[v9], rfl, ⟨x9.one, trivial⟩, ?_⟩
 have ho9 := back9 _ _ _ x9
 refine ae (ae ?_)
 obtain ⟨A10, R10, p10, q10, back10⟩ := OwnB.pick_blocks ho9
 have hdel3 := HD (H := K9) (r1 := r1) (id := id) (l := b.blocks) q10
 refine fW (own := [⟨r1, 3, [iV id]⟩]) (O1 := A10) (O2 := R10 ++ Y) ((List.Perm.of_eq (List.append_assoc _ _ _).symm).trans ((p10.append_right Y).trans (List.Perm.of_eq (List.append_assoc _ _ _)))) hdel3 ⟨rfl, ⟨rfl, trivial⟩, trivial⟩ fun v10 K10 X10 x10 j10 => ⟨[v10], rfl, ⟨x10.one, trivial⟩, ?_⟩
 have ho10 := back10 _ _ _ x10
 refine ae (ae (ae (ae ?_)))
 exact CF (Y := Y) (List.Perm.of_eq (List.append_assoc _ _ _).symm) ⟨_, rfl, ho10⟩
end Go.Proofs.YtieaihgbjikggaaGreat
