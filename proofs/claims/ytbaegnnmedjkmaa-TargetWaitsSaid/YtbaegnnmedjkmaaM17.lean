/- Cards with all that their effects say. Generic. -/
import Derived.Test.YtbaegnnmedjkmaaC10
import Derived.Shelf.GgSortFunc.InsertionK
import Derived.Test.YtbaegnnmedjkmaaTW
import Derived.Test.YtbaegnnmedjkmaaC1
import Derived.Test.YtbaegnnmedjkmaaFw3
namespace Go.Sx
open Go
structure Eff where
 (code target n m colour : Int)
deriving DecidableEq
def Eff.row (e : Eff) : List Value := [iV e.code, iV e.target, iV e.n, iV e.m, iV e.colour]
def efRows (l : List Eff) : List (List Value) := l.map Eff.row
theorem efRows_len (l : List Eff) : (efRows l).length = l.length := by simp [efRows]
theorem efRows_get {l : List Eff} {i : Nat} (h : i < l.length) : (efRows l)[i]? = some l[i].row := by simp [efRows, h]
theorem ef_ones (e : Eff) : Ones e.row := ⟨rfl, rfl, rfl, rfl, rfl, trivial⟩
structure CdX where
 kind : Int
 effs : List Eff
 trs : List (List Eff)
def CdX.base (c : CdX) : Cd := ⟨c.kind, c.effs.map (·.target), c.trs.map List.length⟩
def TrsX (H : Heap) (v : Value) (trs : List (List Eff)) : Prop := ∃ rows, Sl H 2 v rows ∧ rows.length = trs.length ∧ ∀ (i : Nat) (r : List Value) (l : List Eff), rows[i]? = some r → trs[i]? = some l → Sl H 5 (g r 1) (efRows l)
structure CdRX (H : Heap) (r : List Value) (c : CdX) : Prop where
 kind : g r 1 = iV c.kind
 eff : Sl H 5 (g r 11) (efRows c.effs)
 trig : TrsX H (g r 12) c.trs
def CardsX (H : Heap) (v : Value) (cs : List CdX) : Prop := ∃ rows, Sl H 14 v rows ∧ rows.length = cs.length ∧ ∀ (i : Nat) (r : List Value) (c : CdX), rows[i]? = some r → cs[i]? = some c → CdRX H r c
theorem TrsX.le {H H' : Heap} {v : Value} {l : List (List Eff)} (h : TrsX H v l) (hl : Heap.le H H') : TrsX H' v l := let ⟨rows, h1, h2, h3⟩ := h; ⟨rows, h1.le hl, h2, fun i r n a b => (h3 i r n a b).le hl⟩
theorem CdRX.le {H H' : Heap} {r : List Value} {c : CdX} (h : CdRX H r c) (hl : Heap.le H H') : CdRX H' r c := ⟨h.kind, h.eff.le hl, h.trig.le hl⟩
theorem CardsX.le {H H' : Heap} {v : Value} {cs : List CdX} (h : CardsX H v cs) (hl : Heap.le H H') : CardsX H' v cs := let ⟨rows, h1, h2, h3⟩ := h; ⟨rows, h1.le hl, h2, fun i r c a b => (h3 i r c a b).le hl⟩
theorem effs_base {H : Heap} {v : Value} {l : List Eff} (h : Sl H 5 v (efRows l)) : EffsS H v (l.map (·.target)) := by
 refine ⟨_, h, by simp [efRows], fun i r t a b => ?_⟩
 have hi : i < l.length := by
  have := (List.getElem?_eq_some_iff.1 a).1
  simpa [efRows] using this
 rw [efRows_get hi] at a
 rw [List.getElem?_map, List.getElem?_eq_getElem hi] at b
 obtain rfl := Option.some.inj a
 obtain rfl := Option.some.inj b
 rfl
theorem CdRX.base {H : Heap} {r : List Value} {c : CdX} (h : CdRX H r c) : CdR H r c.base := by
 refine ⟨h.kind, effs_base h.eff, ?_⟩
 obtain ⟨rows, h1, h2, h3⟩ := h.trig
 refine ⟨rows, h1, by simp [CdX.base, h2], fun i r n a b => ?_⟩
 have hi : i < c.trs.length := by
  have := (List.getElem?_eq_some_iff.1 a).1
  omega
 simp only [CdX.base] at b
 rw [List.getElem?_map, List.getElem?_eq_getElem hi] at b
 obtain rfl := Option.some.inj b
 exact ⟨_, h3 i r _ a (List.getElem?_eq_getElem hi), efRows_len _⟩
theorem CardsX.base {H : Heap} {v : Value} {cs : List CdX} (h : CardsX H v cs) : CardsS H v (cs.map CdX.base) := by
 obtain ⟨rows, h1, h2, h3⟩ := h
 refine ⟨rows, h1, by simp [h2], fun i r c a b => ?_⟩
 have hi : i < cs.length := by
  have := (List.getElem?_eq_some_iff.1 a).1
  omega
 rw [List.getElem?_map, List.getElem?_eq_getElem hi] at b
 obtain rfl := Option.some.inj b
 exact (h3 i r _ a (List.getElem?_eq_getElem hi)).base
theorem CardsX.one {H : Heap} {v : Value} {cs : List CdX} (h : CardsX H v cs) : v.oneCell' = true := let ⟨_, h1, _⟩ := h; h1.one
theorem CardsX.len {H : Heap} {v : Value} {cs : List CdX} (h : CardsX H v cs) : evalPure .len [v] = some (iV cs.length) := by
 obtain ⟨rows, h1, h2, _⟩ := h
 have := h1.len; rwa [h2] at this
end Go.Sx
namespace Go.Sx
open Go
theorem Models.grown {w : World} {H : Heap} {O : Own} (h : Models w H O) (os : Array Obj) : Models (Sort.grow w os) H O := by
 have keep : ∀ b (x : Obj), w.heap[b]? = some x → (w.heap ++ os)[b]? = some x := fun b x hb => by
  have hlt : b < w.heap.size := by
   rcases Nat.lt_or_ge b w.heap.size with h | h
   ·exact h
   ·rw [Array.getElem?_eq_none h] at hb; cases hb
  rw [Array.getElem?_append_left hlt]; exact hb
 exact ⟨fun b x hb => keep b x (h.pers b x hb), fun p hp => ⟨keep _ _ (h.own p hp).1, (h.own p hp).2⟩, h.nodup, h.env⟩
def encT (x : Int) : List Value := [iV x, iV 0]
theorem encT_len (d : List Int) : (d.map encT).flatten.length = d.length * 2 := by
 have := flatten_len (rows := d.map encT) (size := 2) (by simp [encT])
 rwa [List.length_map] at this
theorem flatK_encT (d : List Int) : (Sort.flatK encT 2 d.toArray).toList = (d.map encT).flatten := by
 refine List.ext_getElem? fun t => ?_
 have hl := encT_len d
 rcases Nat.lt_or_ge t (d.length * 2) with h | h
 ·have h1 := Sort.get_flatK encT 2 d.toArray t (by simpa using h)
  rw [getElem!_pos _ t (by simpa using h)] at h1
  have hd : t / 2 < d.length := by omega
  rw [getElem!_pos _ (t / 2) (by simpa using hd)] at h1
  rw [List.getElem?_eq_getElem (by simpa using h), Array.getElem_toList, h1]
  have hg : (d.map encT)[t / 2]? = some (encT d[t / 2]) := by simp [hd]
  have p := flatten_get (rows := d.map encT) (size := 2) (by simp [encT]) hg
  have e : (d.map encT).flatten[t]? = (encT d[t / 2])[t % 2]? := by
   rw [← p, List.getElem?_take, if_pos (by omega), List.getElem?_drop]
   congr 1; omega
  rw [e]
  rcases Nat.mod_two_eq_zero_or_one t with h2 | h2 <;> rw [h2] <;> rfl
 ·rw [List.getElem?_eq_none (by simpa using h), List.getElem?_eq_none (by omega)]
theorem putCells_all (F : List Value) (cs : List Value) (h : F.length ≤ cs.length) : Sort.putCells id 0 F.toArray cs.toArray = (F ++ cs.drop F.length).toArray := by
 refine Array.ext' (List.ext_getElem? fun k => ?_)
 simp only [Sort.putCells, Array.toList_mapIdx, List.getElem?_mapIdx, List.getElem?_append, List.size_toArray, id]
 by_cases hk : k < F.length
 ·rw [if_pos hk, List.getElem?_eq_getElem (by omega : k < cs.length), List.getElem?_eq_getElem hk]
  simp only [Option.map_some, Option.some.injEq]
  rw [if_pos ⟨Nat.zero_le _, by omega⟩, Nat.sub_zero, getElem!_pos _ k (by simpa using hk)]
  rfl
 ·rw [if_neg hk, List.getElem?_drop, show F.length + (k - F.length) = k by omega]
  rcases Nat.lt_or_ge k cs.length with hc | hc
  ·rw [List.getElem?_eq_getElem hc, Option.map_some, if_neg (by omega)]
  ·rw [List.getElem?_eq_none hc]; rfl
theorem sort_models {w : World} {H : Heap} {r : Nat} {cs : List Value} {T : TypeId} {O : Own} (hm : Models w H ((r, .cells cs.toArray T (0, 0)) :: O)) {d : List Int} (hl : d.length * 2 ≤ cs.length) (n : Nat) (os : Array Obj) :
  Models (Go.Proofs.sortWorldK encT 2 w r 0 n d.toArray os) H ((r, .cells ((d.map encT).flatten ++ cs.drop (d.length * 2)).toArray T (0, 0)) :: O) := by
 have hrow := (hm.own (r, .cells cs.toArray T (0, 0)) (by simp)).1
 unfold Go.Proofs.sortWorldK
 refine Models.grown (Models.update (w := w) (w' := Sort.putRowK encT 2 (Sort.ahead w n) r 0 d.toArray) (o' := .cells ((d.map encT).flatten ++ cs.drop (d.length * 2)).toArray T (0, 0)) hm (fun b hb => ?_) ?_ rfl) os
 ·simp [Sort.putRowK, Sort.putRow, Sort.mapBlock, Sort.ahead, Array.getElem?_modify, Ne.symm hb]
 ·have hF := flatK_encT d
  have e : Sort.flatK encT 2 d.toArray = ((d.map encT).flatten).toArray := by rw [← hF]
  simp only [Sort.putRowK, Sort.putRow, Sort.mapBlock, Sort.ahead, Array.getElem?_modify, if_true, hrow, Option.map_some, Sort.onCells, e]
  rw [putCells_all _ _ (by rw [encT_len]; exact hl), encT_len]
theorem sort_holds {w : World} {H : Heap} {r : Nat} {cs : List Value} {T : TypeId} {O : Own} (hm : Models w H ((r, .cells cs.toArray T (0, 0)) :: O)) {d : List Int} (hd : (d.map encT).flatten = cs.take (d.length * 2)) (hl : d.length * 2 ≤ cs.length) :
  Sort.HoldsK encT 2 w r 0 d.toArray ∧ r < w.heap.size := by
 have hrow := (hm.own (r, .cells cs.toArray T (0, 0)) (by simp)).1
 have hlt : r < w.heap.size := by
  rcases Nat.lt_or_ge r w.heap.size with h | h
  ·exact h
  ·rw [Array.getElem?_eq_none h] at hrow; cases hrow
 have e : Sort.flatK encT 2 d.toArray = ((d.map encT).flatten).toArray := by rw [← flatK_encT d]
 refine ⟨fun j hj => ?_, hlt⟩
 rw [e] at hj ⊢
 have hj' : j < d.length * 2 := by rw [← encT_len d]; simpa using hj
 have hv : ((d.map encT).flatten.toArray[j]!) = cs[j]'(by omega) := by
  rw [getElem!_pos _ j hj]
  have : (d.map encT).flatten[j]? = cs[j]? := by rw [hd, List.getElem?_take, if_pos hj']
  rw [List.getElem?_eq_getElem (by simpa using hj), List.getElem?_eq_getElem (by omega : j < cs.length)] at this
  simpa using this
 constructor
 ·rw [hv]
  simp only [World.cell?, hrow, Nat.zero_add, id]
  simp [List.getElem?_eq_getElem (by omega : j < cs.length)]
 ·rw [Nat.zero_add]; exact frozen_of_row w r j _ T hrow
end Go.Sx
namespace Go.Sx
open Go
def tgs (l : List Int) : List Tg := l.map fun n => ⟨n, 0⟩
def tRows (l : List Tg) : List (List Value) := l.map Tg.row
theorem tRows_tgs (l : List Int) : tRows (tgs l) = l.map encT := by simp [tRows, tgs, encT, Tg.row]
theorem tRows_app (a b : List Tg) : tRows (a ++ b) = tRows a ++ tRows b := by simp [tRows]
theorem tRows_len (a : List Tg) : (tRows a).length = a.length := by simp [tRows]
theorem tgs_len (l : List Int) : (tgs l).length = l.length := by simp [tgs]
def plT (p : Int) : List Tg := [⟨0, 1 - p⟩, ⟨0, p⟩]
/-- A slice's last element, and those ahead of it. -/
theorem rev_get {α : Type} {l : List α} {i : Nat} (h : i < l.length) : l.reverse[i]'(by simpa using h) = l[l.length - 1 - i]'(by omega) := by rw [List.getElem_reverse]
theorem subI {x y : Int} (h1 : -9223372036854775808 ≤ x - y) (h2 : x - y < 9223372036854775808) : evalPure (.bin .sub .int) [iV x, iV y] = some (iV (x - y)) := by
 simp only [evalPure, evalBin, evalInt, if_true]
 rw [wrap_id (by omega) (by omega)]
/-- An index that runs down to 0, and a value beside it. -/
def ID (n : Nat) (R : Nat → Value → Heap → Own → Prop) (vs : List Value) (H : Heap) (O : Own) : Prop := ∃ (i : Nat) (x : Value), vs = [x, iV ((n : Int) - 1 - i)] ∧ i ≤ n ∧ R i x H O
def MD (vs : List Value) (_ : Heap) (_ : Own) : Nat := match g vs 1 with | .int _ k => (k + 1).toNat | _ => 0
theorem down_den {P : Program} {lab key : Nat} {x0 : Value} {body : (List Value → Heap → Own → Prop) → List Value → Tree} {H : Heap} {O : Own} {Q : Value → Heap → Own → Prop} (n : Nat) (R : Nat → Value → Heap → Own → Prop)
  (h0 : R 0 x0 H O) (step : ∀ i x H' O', i ≤ n → Heap.le H H' → R i x H' O' → (body (Back (ID n R) MD (n - i)) [x, iV ((n : Int) - 1 - i)]).den P Q H' O') :
  (Tree.loop lab key [x0, iV ((n : Int) - 1)] body).den P Q H O := by
 refine loop_den (ID n R) MD ⟨0, x0, by simp, Nat.zero_le _, h0⟩ ?_
 rintro vs H' O' _ _ hle ⟨i, x, rfl, hi, hr⟩
 have e : MD [x, iV ((n : Int) - 1 - i)] H' O' = n - i := by show ((n : Int) - 1 - i + 1).toNat = n - i; omega
 rw [e]
 exact step i x H' O' hi hle hr
theorem down_cont {P : Program} {lab n i : Nat} {R : Nat → Value → Heap → Own → Prop} {x : Value} {eqs : List (List Value × List Value)} {H : Heap} {O : Own} {Q : Value → Heap → Own → Prop} (he : Eqs eqs) (hi : i < n) (hr : R (i + 1) x H O) :
  (Tree.cont lab (Back (ID n R) MD (n - i)) [x, iV ((n : Int) - 1 - i - 1)] eqs).den P Q H O := by
 refine cont_den he ⟨i + 1, x, by congr 3; omega, hi, hr⟩ ?_
 show ((n : Int) - 1 - i - 1 + 1).toNat < n - i
 omega
theorem call_new0 {P : Program} {f : FuncId} {args : List Value} {H : Heap} {O : Own} {r : Value} {shp : Shp} {vs : List Value} {K : List Value → List (List Value) → Heap → Own → Prop}
  (h : RetO P f args H [] r) (ho : shp.open r = some vs) (h1 : Ones vs) (hk : ∀ H', Heap.le H H' → K vs [] H' O) :
  CallD (fun H1 O1 R => Triple P f args H1 O1 R) false [] [] shp K H O := by
 refine call_new h ?_
 rintro v H' O1 ⟨rfl, rfl⟩ l
 exact ⟨vs, ho, h1, hk H' l⟩
end Go.Sx
namespace Go.Proofs.Ytbaegnnmedjkmaa
open Go Go.Sx Go.ChangeShapes Go.WideShapes Go.ChangeAt Go.RowKit
set_option maxRecDepth 100000
set_option maxHeartbeats 1000000
end Go.Proofs.Ytbaegnnmedjkmaa
namespace Go.Proofs.Ytbaegnnmedjkmaa
open Go Go.Sx
set_option maxRecDepth 100000
set_option maxHeartbeats 1000000
def seatOf (b : Bd) (p : Int) : St := if p = 0 then b.s0 else b.s1
def withSeat (b : Bd) (p : Int) (s : St) : Bd := if p = 0 then { b with s0 := s } else { b with s1 := s }
def putZ (s : St) (z id : Int) : St :=
 if z = 0 then { s with lib := s.lib ++ [id] } else if z = 1 then { s with hand := s.hand ++ [id] } else if z = 2 then { s with field := s.field ++ [id] } else if z = 3 then { s with grave := s.grave ++ [id] } else s
def putB (b : Bd) (p z id : Int) : Bd := withSeat b p (putZ (seatOf b p) z id)
def idsS (s : St) : List Int := s.lib ++ (s.hand ++ (s.field ++ s.grave))
def idsB (b : Bd) : List Int := idsS b.s0 ++ (idsS b.s1 ++ (cardsOn b.stack).map (·.id))
theorem ids_pairs (b : Bd) : (pairsB b).map (·.1) = idsB b := by
 simp [pairsB, pairsS, idsB, idsS, owned, Function.comp_def]
theorem placed_nodup {b : Bd} {val : Ob → Bool} (h : placedB val b = true) : (idsB b).Nodup := by
 simp only [placedB, Bool.and_eq_true, decide_eq_true_eq] at h
 rw [← ids_pairs]; exact h.1
/-- The parts of a board that is valid. -/
theorem valid_parts {b : Bd} (h : validBd b = true) : placedB validO b = true ∧ fightsBd b = true ∧ (b.active = 0 ∨ b.active = 1) ∧ b.stack.all (fun x => fineB x false) = true := by
 simp only [validBd, Bool.and_eq_true, withinB, decide_eq_true_eq, Bool.not_eq_true', List.any_eq_false] at h
 refine ⟨h.2.2.2.2.2.2.2.2.2.1, h.2.2.2.2.2.2.2.2.2.2, by have := h.1; omega, ?_⟩
 rw [List.all_eq_true]
 intro x hx
 have := h.2.2.2.2.2.2.2.1 x hx
 simpa using this
theorem placed_objs {b : Bd} (h : placedB validO b = true) : ordP none b.objs = true ∧ b.objs.all (ok1 (pairsB b) (carded b.stack)) = true ∧ (pairsB b).length = b.objs.length := by
 simp only [placedB, Bool.and_eq_true, decide_eq_true_eq, objsGo_eq] at h
 exact ⟨h.2.1.1, h.2.1.2, h.2.2⟩
theorem idxP_at {α : Type} {p : α → Bool} : ∀ {l : List α} {k : Nat} {x : α} (i : Int), l[k]? = some x → p x = true → (∀ (j : Nat) (y : α), j < k → l[j]? = some y → p y = false) → idxP p l i = i + k
 | [], k, x, i, h, _, _ => by simp at h
 | a :: l, 0, x, i, h, hp, _ => by
  simp at h; subst h
  simp [idxP, hp]
 | a :: l, k + 1, x, i, h, hp, hb => by
  have h0 := hb 0 a (by omega) rfl
  have := idxP_at (i + 1) (l := l) (k := k) (by simpa using h) hp fun j y hj e => hb (j + 1) y (by omega) (by simpa using e)
  simp only [idxP, h0, Bool.false_eq_true, if_false, this]
  omega
theorem idxO_at {b : Bd} (hn : (b.objs.map (·.id)).Nodup) {k : Nat} {o : Ob} (h : b.objs[k]? = some o) : idxO b o.id = k := by
 have := idxP_at (p := fun x : Ob => x.id == o.id) (l := b.objs) 0 h (by simp) fun j y hj e => by
  have hlt := (List.getElem?_eq_some_iff.1 h).1
  have h1 : (b.objs.map (·.id))[j]? = some y.id := by rw [List.getElem?_map, e]; rfl
  have h2 : (b.objs.map (·.id))[k]? = some o.id := by rw [List.getElem?_map, h]; rfl
  have hne : y.id ≠ o.id := by
   intro e2
   rw [e2] at h1
   have := (List.getElem?_inj (by simpa using (by omega : j < b.objs.length)) hn).1 (h1.trans h2.symm)
   omega
  simpa using hne
 rw [idxO, this]; omega
/-- What is known of an object of a valid board. -/
theorem obj_known {b : Bd} (h : placedB validO b = true) {k : Nat} {o : Ob} (hk : b.objs[k]? = some o) : validO o = true ∧ (o.id, o.owner) ∈ pairsB b ∧ idxO b o.id = k ∧ (o.owner = 0 ∨ o.owner = 1) := by
 obtain ⟨h1, h2, _⟩ := placed_objs h
 have hm := List.mem_of_getElem? hk
 have ho := List.all_eq_true.1 h2 o hm
 simp only [ok1, Bool.and_eq_true, beq_iff_eq] at ho
 obtain ⟨v, hl, hown, _⟩ := ho
 have hn := placed_nodup h
 rw [← ids_pairs] at hn
 refine ⟨v, ?_, idxO_at (ordP_spec h1).2 hk, validO_owner v⟩
 cases e : lookI (pairsB b) o.id with
 | none => rw [e] at hl; cases hl
 | some w =>
  rw [e] at hown
  have : w = o.owner := hown
  rw [this] at e
  exact (lookI_some hn).1 e
end Go.Proofs.Ytbaegnnmedjkmaa
namespace Go.Proofs.Ytbaegnnmedjkmaa
open Go Go.Sx
set_option maxRecDepth 100000
set_option maxHeartbeats 1000000
/-- A call that leaves what is owned as it is, and hands back a value of which S holds. -/
theorem call_givesO {P : Program} {f : FuncId} {args : List Value} {H : Heap} {O : Own} {S : Value → Heap → Prop} {d : Bool} {shp : Shp} {K : List Value → List (List Value) → Heap → Own → Prop}
  (h : Triple P f args H O fun v H' O' => S v H' ∧ O' = O) (hk : ∀ v H', S v H' → Heap.le H H' → ∃ vs, shp.open v = some vs ∧ Ones vs ∧ K vs [] H' O) :
  CallD (fun H1 O1 R => Triple P f args H1 O1 R) d [] [] shp K H O := by
 intro _
 refine ⟨H, O, [], fun v H' O' => S v H' ∧ O' = O, ?_, h, ?_⟩
 ·cases d
  ·show Ghost H O H (O ++ [])
   rw [List.append_nil]; exact Ghost.refl _ _
  ·exact ⟨rfl, .inr ⟨rfl, rfl, rfl, fun v H' O' h => h.2⟩⟩
 ·rintro v H' O' ⟨hs, rfl⟩ hle
  obtain ⟨vs, h1, h2, h3⟩ := hk v H' hs hle
  exact ⟨vs, [], O', h1, h2, trivial, rfl, by rw [List.append_nil]; exact h3⟩
abbrev i64 (n : Int) : Prop := -9223372036854775808 ≤ n ∧ n ≤ 9223372036854775807
theorem ob_ones (o : Ob) : Ones o.row := ⟨rfl, rfl, rfl, rfl, rfl, rfl, rfl, rfl, rfl, rfl, rfl, rfl, trivial⟩
theorem valid_len {b : Bd} (h : validBd b = true) : b.objs.length ≤ 1000000 := by
 simp only [validBd, midBad, Bool.and_eq_true, Bool.not_eq_true', Bool.or_eq_false_iff, decide_eq_false_iff_not] at h
 have := h.2.2.2.2.1.1.1.2
 omega
end Go.Proofs.Ytbaegnnmedjkmaa
namespace Go.Proofs.Ytbaegnnmedjkmaa
open Go Go.Sx
set_option maxRecDepth 100000
set_option maxHeartbeats 1000000
theorem OwnB.perm {t : Tys} {w : BV12} {b : Bd} {O O' : Own} (h : OwnB t w b O) (hp : O'.Perm O) : OwnB t w b O' :=
 let ⟨Oo, A0, B0, C0, D0, A1, B1, C1, D1, Os, Oq, Oa, Obk, hq, h⟩ := h
 ⟨Oo, A0, B0, C0, D0, A1, B1, C1, D1, Os, Oq, Oa, Obk, hp.trans hq, h⟩
theorem OwnB.zero (t : Tys) : OwnB t nilV zBd [] :=
 ⟨[], [], [], [], [], [], [], [], [], [], [], [], [], List.Perm.refl _, OSl.nil _ _, OSl.nil _ _, OSl.nil _ _, OSl.nil _ _, OSl.nil _ _, OSl.nil _ _, OSl.nil _ _, OSl.nil _ _, OSl.nil _ _,
  ⟨[], [], [], List.Perm.refl _, OSl.nil _ _, rfl, rfl, fun i r x T h => by simp at h⟩, ⟨[], [], [], List.Perm.refl _, OSl.nil _ _, rfl, rfl, fun i r x T h => by simp at h⟩, OSl.nil _ _, OSl.nil _ _⟩
end Go.Proofs.Ytbaegnnmedjkmaa
namespace Go.Proofs.Ytbaegnnmedjkmaa
open Go Go.Sx
set_option maxRecDepth 100000
set_option maxHeartbeats 1000000
end Go.Proofs.Ytbaegnnmedjkmaa
namespace Go.Proofs.Ytbaegnnmedjkmaa
open Go Go.Sx
set_option maxRecDepth 100000
set_option maxHeartbeats 1000000
end Go.Proofs.Ytbaegnnmedjkmaa
namespace Go.Proofs.Ytbaegnnmedjkmaa
open Go Go.Sx
set_option maxRecDepth 100000
set_option maxHeartbeats 1000000
end Go.Proofs.Ytbaegnnmedjkmaa
namespace Go.Proofs.Ytbaegnnmedjkmaa
open Go Go.Sx
set_option maxRecDepth 100000
set_option maxHeartbeats 1000000
end Go.Proofs.Ytbaegnnmedjkmaa
namespace Go.Sx
open Go
abbrev Mem := List (Nat × Option Bx)
abbrev Dec (α : Type) := List At → Option (List Ck × α)
def dI : At → Option Int
 | .k (.int .i64 n) => some n
 | _ => none
def dB : At → Option Bool
 | .k (.bool b) => some b
 | _ => none
theorem dI_eq {a : At} {n : Int} (h : dI a = some n) : a = .k (iV n) := by
 unfold dI at h
 split at h
 ·cases h; rfl
 ·cases h
theorem dB_eq {a : At} {n : Bool} (h : dB a = some n) : a = .k (.bool n) := by
 unfold dB at h
 split at h
 ·cases h; rfl
 ·cases h
def rowsD {α : Type} (size : Nat) (dec : Dec α) : Nat → List At → Option (List Ck × List α)
 | 0, _ => some ([], [])
 | n + 1, cs =>
  match dec (cs.take size) with
  | none => none
  | some (k, a) => match rowsD size dec n (cs.drop size) with
   | none => none
   | some (k', l) => some (k ++ k', a :: l)
def slD {α : Type} (mem : Mem) (size : Nat) (dec : Dec α) : At → Option (List Ck × List α)
 | .k (.slice none 0 0) => some ([], [])
 | .sl n r off len _ =>
  match lookB mem n with
  | some (some b) => if (Nat.ble (off + len * size) b.cs.length && Nat.blt len 4611686018427387904) = true then
    match rowsD size dec len (b.cs.drop off) with
    | some (k, l) => some (.eqN r b.r :: k, l)
    | none => none
   else none
  | _ => none
 | _ => none
def DecOk {α : Type} (size : Nat) (dec : Dec α) (Rl : List Value → α → Prop) : Prop :=
 ∀ cs k a, dec cs = some (k, a) → AllCk k → cs.length = size ∧ cs.all At.known = true ∧ Rl (cs.map At.den) a ∧ Ones (cs.map At.den)
theorem rowsD_ok {α : Type} {size : Nat} {dec : Dec α} {Rl : List Value → α → Prop} (hd : DecOk size dec Rl) : ∀ {n : Nat} {cs : List At} {vs : List Value} {k : List Ck} {l : List α}, rowsD size dec n cs = some (k, l) → AllCk k → CellsRel cs vs →
  l.length = n ∧ ∀ (i : Nat) (a : α), l[i]? = some a → Rl ((vs.drop (i * size)).take size) a ∧ Ones ((vs.drop (i * size)).take size) ∧ ((vs.drop (i * size)).take size).length = size
 | 0, cs, vs, k, l, h, _, _ => by
  simp only [rowsD, Option.some.injEq, Prod.mk.injEq] at h
  obtain ⟨_, rfl⟩ := h
  exact ⟨rfl, fun i a h => by simp at h⟩
 | n + 1, cs, vs, k, l, h, hk, hr => by
  simp only [rowsD] at h
  split at h
  ·cases h
  ·rename_i k1 a h1
   split at h
   ·cases h
   ·rename_i k2 l' h2
    simp only [Option.some.injEq, Prod.mk.injEq] at h
    obtain ⟨rfl, rfl⟩ := h
    rw [AllCk.append] at hk
    obtain ⟨d1, d2, d3, d4⟩ := hd _ _ _ h1 hk.1
    have e : vs.take size = (cs.take size).map At.den := (hr.take size).known d2
    obtain ⟨i1, i2⟩ := rowsD_ok hd h2 hk.2 (hr.drop size)
    refine ⟨by simp [i1], fun i a' hi => ?_⟩
    cases i with
    | zero =>
     simp only [List.getElem?_cons_zero, Option.some.injEq] at hi
     subst hi
     rw [Nat.zero_mul, List.drop_zero, e]
     exact ⟨d3, d4, by rw [List.length_map, d1]⟩
    | succ i =>
     have := i2 i a' (by simpa using hi)
     rw [List.drop_drop] at this
     rw [show (i + 1) * size = size + i * size by rw [Nat.add_mul]; omega]
     exact this
theorem slD_ok {α : Type} {mem : Mem} {size : Nat} {dec : Dec α} {Rl : List Value → α → Prop} (hd : DecOk size dec Rl) {x : At} {k : List Ck} {l : List α} (h : slD mem size dec x = some (k, l)) (hk : AllCk k) {L : Own} (hB : Boxes (fun n => (lookB mem n).getD none) L) (H : Heap) :
  x.known = true ∧ ∃ rows, RSl H L size x.den rows ∧ rows.length = l.length ∧ ∀ (i : Nat) (r : List Value) (a : α), rows[i]? = some r → l[i]? = some a → Rl r a := by
 unfold slD at h
 split at h
 ·simp only [Option.some.injEq, Prod.mk.injEq] at h
  obtain ⟨_, rfl⟩ := h
  exact ⟨rfl, [], (Sl.nil H size).rsl L, rfl, fun i r a h => by simp at h⟩
 ·rename_i n r off len cap
  split at h
  ·rename_i b hb
   split at h
   ·rename_i hc
    split at h
    ·rename_i k' l' hrow
     simp only [Option.some.injEq, Prod.mk.injEq] at h
     obtain ⟨rfl, rfl⟩ := h
     obtain ⟨hr, hk'⟩ := hk
     have hr : r = b.r := hr
     subst hr
     rw [Bool.and_eq_true] at hc
     have hfit : off + len * size ≤ b.cs.length := Nat.le_of_ble_eq_true hc.1
     have hlen : len < 4611686018427387904 := Nat.le_of_ble_eq_true hc.2
     obtain ⟨vs, L', hrel, hp, _⟩ := hB.take (n := n) (b := b) (by simp [hb])
     have hvl := hrel.length
     obtain ⟨l1, l2⟩ := rowsD_ok hd hrow hk' (hrel.drop off)
     refine ⟨rfl, (List.range len).map fun i => ((vs.drop off).drop (i * size)).take size, ⟨rfl, ?_, ?_, ?_⟩, by simp [l1], ?_⟩
     ·simp [At.den, evalPure, goInt]
     ·simp; omega
     ·intro kd i row hi
      have hlt : i < len := by
       have := (List.getElem?_eq_some_iff.1 hi).1
       simpa using this
      have hrowi : ((vs.drop off).drop (i * size)).take size = row := by
       rw [List.getElem?_map, List.getElem?_range hlt] at hi
       simpa using hi
      have hli : l'[i]? = some l'[i] := List.getElem?_eq_getElem (by omega)
      obtain ⟨q1, q2, q3⟩ := l2 i _ hli
      rw [hrowi] at q1 q2 q3
      have hmem : (b.r, Obj.cells vs.toArray b.T (0, 0)) ∈ L := hp.mem_iff.2 (by simp)
      refine ⟨⟨b.r, off + i * size, none⟩, ?_, .inr ⟨_, vs.toArray, b.T, rfl, rfl, hmem, ?_, q3⟩, fun o m hle => .inr ⟨⟨b.r, off + i * size + o, none⟩, vs.toArray, b.T, ?_, rfl, hmem, ?_, ?_⟩, q3, q2⟩
      ·simp only [At.den, evalPure, evalIdx]
       rw [if_pos ⟨by omega, by omega⟩, add_none]
       simp
      ·rw [← hrowi, List.drop_drop]
      ·show Value.pointer (some ((⟨b.r, off + i * size, none⟩ : Addr).add o)) = _
       rw [add_none]
      ·rw [← hrowi, List.drop_drop, List.drop_take, List.take_take, Nat.min_eq_left (by omega), List.drop_drop]
      ·rw [List.length_take, List.length_drop, q3]; omega
     ·intro i r a hi ha
      have hlt : i < len := by
       have := (List.getElem?_eq_some_iff.1 hi).1
       simpa using this
      rw [List.getElem?_map, List.getElem?_range hlt] at hi
      have hi : ((vs.drop off).drop (i * size)).take size = r := by simpa using hi
      rw [← hi]
      exact (l2 i a ha).1
    ·cases h
   ·cases h
  ·cases h
 ·cases h
/-- Rows that are just those of the data. -/
theorem slD_map {α : Type} {mem : Mem} {size : Nat} {dec : Dec α} {row : α → List Value} (hd : DecOk size dec fun r a => r = row a) {x : At} {k : List Ck} {l : List α} (h : slD mem size dec x = some (k, l)) (hk : AllCk k) {L : Own} (hB : Boxes (fun n => (lookB mem n).getD none) L) (H : Heap) :
  RSl H L size x.den (l.map row) := by
 obtain ⟨_, rows, h1, h2, h3⟩ := slD_ok hd h hk hB H
 have : rows = l.map row := by
  refine List.ext_getElem (by simp [h2]) fun i a b => ?_
  have := h3 i rows[i] l[i] (List.getElem?_eq_getElem a) (List.getElem?_eq_getElem (by omega))
  rw [this]; simp
 rw [← this]; exact h1
def decInt : Dec Int
 | [a] => match dI a with | some n => some ([], n) | none => none
 | _ => none
theorem decInt_ok : DecOk 1 decInt fun r n => r = [iV n] := by
 intro cs k a h _
 unfold decInt at h
 split at h
 ·split at h
  ·rename_i n hn
   simp only [Option.some.injEq, Prod.mk.injEq] at h
   obtain ⟨_, rfl⟩ := h
   obtain rfl := dI_eq hn
   exact ⟨rfl, rfl, rfl, rfl, trivial⟩
  ·cases h
 ·cases h
def decTwo {α : Type} (f : Int → Int → α) : Dec α
 | [a, b] => match dI a, dI b with | some n, some m => some ([], f n m) | _, _ => none
 | _ => none
theorem decTwo_ok {α : Type} {f : Int → Int → α} {row : α → List Value} (hf : ∀ n m, row (f n m) = [iV n, iV m]) : DecOk 2 (decTwo f) fun r a => r = row a := by
 intro cs k a h _
 unfold decTwo at h
 split at h
 ·split at h
  ·rename_i n m hn hm
   simp only [Option.some.injEq, Prod.mk.injEq] at h
   obtain ⟨_, rfl⟩ := h
   obtain rfl := dI_eq hn
   obtain rfl := dI_eq hm
   exact ⟨rfl, rfl, (hf n m).symm, rfl, rfl, trivial⟩
  ·cases h
 ·cases h
def decOb : Dec Ob
 | [a0, a1, a2, a3, a4, a5, a6, a7, a8, b0, b1, b2] =>
  (dI a0).bind fun n0 => (dI a1).bind fun n1 => (dI a2).bind fun n2 => (dI a3).bind fun n3 => (dI a4).bind fun n4 => (dI a5).bind fun n5 => (dI a6).bind fun n6 => (dI a7).bind fun n7 => (dI a8).bind fun n8 => (dB b0).bind fun m0 => (dB b1).bind fun m1 => (dB b2).bind fun m2 => some ([], ⟨n0, n1, n2, n3, n4, n5, n6, n7, n8, m0, m1, m2⟩)
 | _ => none
theorem decOb_ok : DecOk 12 decOb fun r o => r = Ob.row o := by
 intro cs k a h _
 unfold decOb at h
 split at h
 ·simp only [Option.bind_eq_some_iff, Option.some.injEq, Prod.mk.injEq] at h
  obtain ⟨n0, e0, n1, e1, n2, e2, n3, e3, n4, e4, n5, e5, n6, e6, n7, e7, n8, e8, m0, f0, m1, f1, m2, f2, _, rfl⟩ := h
  obtain rfl := dI_eq e0
  obtain rfl := dI_eq e1
  obtain rfl := dI_eq e2
  obtain rfl := dI_eq e3
  obtain rfl := dI_eq e4
  obtain rfl := dI_eq e5
  obtain rfl := dI_eq e6
  obtain rfl := dI_eq e7
  obtain rfl := dI_eq e8
  obtain rfl := dB_eq f0
  obtain rfl := dB_eq f1
  obtain rfl := dB_eq f2
  exact ⟨rfl, rfl, rfl, rfl, rfl, rfl, rfl, rfl, rfl, rfl, rfl, rfl, rfl, rfl, rfl, trivial⟩
 ·cases h
def decIt (mem : Mem) : Dec It
 | [a0, a1, a2, a3, s] => (dI a0).bind fun n0 => (dI a1).bind fun n1 => (dI a2).bind fun n2 => (dI a3).bind fun n3 => (slD mem 2 (decTwo Tg.mk) s).bind fun t => some (t.1, ⟨n0, n1, n2, n3, t.2⟩)
 | _ => none
theorem decTg_ok : DecOk 2 (decTwo Tg.mk) fun r t => r = Tg.row t := decTwo_ok fun _ _ => rfl
theorem decBl_ok : DecOk 2 (decTwo Bl.mk) fun r t => r = Bl.row t := decTwo_ok fun _ _ => rfl
theorem decIt_ok {mem : Mem} {L : Own} (hB : Boxes (fun n => (lookB mem n).getD none) L) (H : Heap) : DecOk 5 (decIt mem) fun r x => ItR H L r x := by
 intro cs k a h hk
 unfold decIt at h
 split at h
 ·simp only [Option.bind_eq_some_iff, Option.some.injEq, Prod.mk.injEq] at h
  obtain ⟨n0, e0, n1, e1, n2, e2, n3, e3, t, e4, rfl, rfl⟩ := h
  obtain rfl := dI_eq e0
  obtain rfl := dI_eq e1
  obtain rfl := dI_eq e2
  obtain rfl := dI_eq e3
  have hs := slD_map decTg_ok e4 hk hB H
  have hkn := (slD_ok decTg_ok e4 hk hB H).1
  exact ⟨rfl, by rw [List.all_cons, List.all_cons, List.all_cons, List.all_cons, List.all_cons, hkn]; rfl, ⟨_, rfl, hs⟩, rfl, rfl, rfl, rfl, hs.one, trivial⟩
 ·cases h
theorem slD_its {mem : Mem} {x : At} {k : List Ck} {l : List It} (h : slD mem 5 (decIt mem) x = some (k, l)) (hk : AllCk k) {L : Own} (hB : Boxes (fun n => (lookB mem n).getD none) L) (H : Heap) : ItsR H L x.den l := by
 obtain ⟨_, rows, h1, h2, h3⟩ := slD_ok (decIt_ok hB H) h hk hB H
 exact ⟨rows, h1, h2, h3⟩
def dBd (mem : Mem) : List At → Option (List Ck × BV12 × Bd)
 | a0 :: a1 :: a2 :: a3 :: a4 :: a5 :: a6 :: a7 :: a8 :: a9 :: a10 :: a11 :: a12 :: a13 :: a14 :: a15 :: a16 :: a17 :: a18 :: a19 :: a20 :: a21 :: a22 :: a23 :: a24 :: a25 :: a26 :: a27 :: a28 :: a29 :: a30 :: a31 :: a32 :: a33 :: a34 :: a35 :: a36 :: a37 :: [] =>
  (slD mem 12 decOb a0).bind fun n0 => (dI a1).bind fun n1 => (dI a2).bind fun n2 => (dI a3).bind fun n3 => (dI a4).bind fun n4 => (dI a5).bind fun n5 => (slD mem 1 decInt a6).bind fun n6 => (slD mem 1 decInt a7).bind fun n7 => (slD mem 1 decInt a8).bind fun n8 => (slD mem 1 decInt a9).bind fun n9 => (dB a10).bind fun n10 => (dB a11).bind fun n11 => (dB a12).bind fun n12 => (dI a13).bind fun n13 => (dI a14).bind fun n14 => (dI a15).bind fun n15 => (dI a16).bind fun n16 => (dI a17).bind fun n17 => (dI a18).bind fun n18 => (dI a19).bind fun n19 => (slD mem 1 decInt a20).bind fun n20 => (slD mem 1 decInt a21).bind fun n21 => (slD mem 1 decInt a22).bind fun n22 => (slD mem 1 decInt a23).bind fun n23 => (dB a24).bind fun n24 => (dB a25).bind fun n25 => (dB a26).bind fun n26 => (dI a27).bind fun n27 => (dI a28).bind fun n28 => (slD mem 5 (decIt mem) a29).bind fun n29 => (slD mem 5 (decIt mem) a30).bind fun n30 => (slD mem 1 decInt a31).bind fun n31 => (slD mem 2 (decTwo Bl.mk) a32).bind fun n32 => (dI a33).bind fun n33 => (dI a34).bind fun n34 => (dI a35).bind fun n35 => (dI a36).bind fun n36 => (dI a37).bind fun n37 => 
   some (n0.1 ++ (n6.1 ++ (n7.1 ++ (n8.1 ++ (n9.1 ++ (n20.1 ++ (n21.1 ++ (n22.1 ++ (n23.1 ++ (n29.1 ++ (n30.1 ++ (n31.1 ++ (n32.1)))))))))))), ⟨a0.den, a6.den, a7.den, a8.den, a9.den, a20.den, a21.den, a22.den, a23.den, a29.den, a30.den, a31.den, a32.den⟩, ⟨n0.2, ⟨n1, n2, n3, n4, n5, n6.2, n7.2, n8.2, n9.2, n10, n11, n12, n13, n14⟩, ⟨n15, n16, n17, n18, n19, n20.2, n21.2, n22.2, n23.2, n24, n25, n26, n27, n28⟩, n29.2, n30.2, n31.2, n32.2, n33, n34, n35, n36, n37⟩)
 | _ => none
theorem dBd_ok {mem : Mem} {l : List At} {k : List Ck} {v : BV12} {b : Bd} (h : dBd mem l = some (k, v, b)) (hk : AllCk k) {L : Own} (hB : Boxes (fun n => (lookB mem n).getD none) L) (H : Heap) : l.map At.den = boardC v b ∧ BdR H L v b := by
 unfold dBd at h
 split at h
 ·simp only [Option.bind_eq_some_iff, Option.some.injEq, Prod.mk.injEq] at h
  obtain ⟨n0, e0, n1, e1, n2, e2, n3, e3, n4, e4, n5, e5, n6, e6, n7, e7, n8, e8, n9, e9, n10, e10, n11, e11, n12, e12, n13, e13, n14, e14, n15, e15, n16, e16, n17, e17, n18, e18, n19, e19, n20, e20, n21, e21, n22, e22, n23, e23, n24, e24, n25, e25, n26, e26, n27, e27, n28, e28, n29, e29, n30, e30, n31, e31, n32, e32, n33, e33, n34, e34, n35, e35, n36, e36, n37, e37, rfl, rfl, rfl⟩ := h
  simp only [AllCk.append] at hk
  obtain ⟨c0, c6, c7, c8, c9, c20, c21, c22, c23, c29, c30, c31, c32⟩ := hk
  obtain rfl := dI_eq e1
  obtain rfl := dI_eq e2
  obtain rfl := dI_eq e3
  obtain rfl := dI_eq e4
  obtain rfl := dI_eq e5
  obtain rfl := dB_eq e10
  obtain rfl := dB_eq e11
  obtain rfl := dB_eq e12
  obtain rfl := dI_eq e13
  obtain rfl := dI_eq e14
  obtain rfl := dI_eq e15
  obtain rfl := dI_eq e16
  obtain rfl := dI_eq e17
  obtain rfl := dI_eq e18
  obtain rfl := dI_eq e19
  obtain rfl := dB_eq e24
  obtain rfl := dB_eq e25
  obtain rfl := dB_eq e26
  obtain rfl := dI_eq e27
  obtain rfl := dI_eq e28
  obtain rfl := dI_eq e33
  obtain rfl := dI_eq e34
  obtain rfl := dI_eq e35
  obtain rfl := dI_eq e36
  obtain rfl := dI_eq e37
  exact ⟨rfl, ⟨slD_map decOb_ok e0 c0 hB H, ⟨slD_map decInt_ok e6 c6 hB H, slD_map decInt_ok e7 c7 hB H, slD_map decInt_ok e8 c8 hB H, slD_map decInt_ok e9 c9 hB H⟩, ⟨slD_map decInt_ok e20 c20 hB H, slD_map decInt_ok e21 c21 hB H, slD_map decInt_ok e22 c22 hB H, slD_map decInt_ok e23 c23 hB H⟩, slD_its e29 c29 hB H, slD_its e30 c30 hB H, slD_map decInt_ok e31 c31 hB H, slD_map decBl_ok e32 c32 hB H⟩⟩
 ·cases h
/-- A function of one board that hands back a bool. -/
def sumB (fv : Nat) (val : Bd → Bool) : SumF := fun f args mem _ =>
 if Nat.beq f fv = true then
  match args with
  | [.agg l] => match dBd mem l with
   | some (k, _, b) => some (k, .s (.at (.k (.bool (val b)))))
   | none => none
  | _ => none
 else none
theorem sumB_ok {P : Program} {ok : FuncId → Bool} {fv : Nat} {val : Bd → Bool} (hc : ∀ (H : Heap) (O : Own) (v : BV12) (b : Bd), BdR H O v b → RetO P fv [.agg (boardC v b).toArray] H O (.bool (val b))) (H : Heap) : SumOk P ok H (sumB fv val) := by
 intro f args mem h cs sv _ hs hck
 unfold sumB at hs
 split at hs
 ·rename_i hf
  have hf : f = fv := Nat.eq_of_beq_eq_true hf
  subst hf
  split at hs
  ·rename_i l
   split at hs
   ·rename_i k v b hd
    simp only [Option.some.injEq, Prod.mk.injEq] at hs
    obtain ⟨rfl, rfl⟩ := hs
    refine ⟨ok_k _, fun F w next _ hm => ?_⟩
    obtain ⟨L, O, hB, hok, hM, hmod, hfr⟩ := hm
    obtain ⟨h1, h2⟩ := dBd_ok hd hck hB H
    have hret := Triple.frame (hc H L v b h2) O
    have e : (([S1.agg l] : List S1).map S1.den).toArray = [Value.agg (boardC v b).toArray].toArray := by simp [S1.den, h1]
    rw [e]
    refine (hret w F (by simpa using hmod)).mono ?_
    rintro e' w' ⟨v', H', O', he, ⟨O'', q1, q2, q3⟩, hle, hm'⟩
    rw [q1, q3] at hm'
    exact ⟨v', he, q2, L, O, hB, hok, hM, by simpa using hm'.less hle, hfr⟩
   ·cases hs
  ·cases hs
 ·cases hs
end Go.Sx
