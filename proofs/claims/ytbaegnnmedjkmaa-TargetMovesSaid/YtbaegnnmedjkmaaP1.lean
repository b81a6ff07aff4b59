/- Plain laws of boards that move: what is drawn, put, taken out. -/
import Derived.Test.YtbaegnnmedjkmaaC10
import Derived.Test.YtbaegnnmedjkmaaC21
import Derived.Test.YtbaegnnmedjkmaaFw3
namespace Go.Proofs.Ytbaegnnmedjkmaa
open Go Go.Sx
set_option maxRecDepth 100000
set_option maxHeartbeats 1000000
def resetO (o : Ob) (z : Int) : Ob := { o with dmg := 0, pp := 0, pt := 0, cnt := 0, tap := false, doom := false, sick := z == 2 }
def seatOf (b : Bd) (p : Int) : St := if p = 0 then b.s0 else b.s1
def withSeat (b : Bd) (p : Int) (s : St) : Bd := if p = 0 then { b with s0 := s } else { b with s1 := s }
def putZ (s : St) (z id : Int) : St :=
 if z = 0 then { s with lib := s.lib ++ [id] } else if z = 1 then { s with hand := s.hand ++ [id] } else if z = 2 then { s with field := s.field ++ [id] } else if z = 3 then { s with grave := s.grave ++ [id] } else s
def without (l : List Int) (id : Int) : List Int := l.filter fun n => n != id
def outS (s : St) (id : Int) : St := { s with lib := without s.lib id, hand := without s.hand id, field := without s.field id, grave := without s.grave id }
def isOn (id : Int) (x : It) : Bool := decide (x.trig < 0) && x.id == id
def inFight (id : Int) (x : Bl) : Bool := x.blocker == id || x.attacker == id
def outB (b : Bd) (id : Int) : Bd := { b with s0 := outS b.s0 id, s1 := outS b.s1 id, stack := b.stack.filter fun x => !isOn id x, att := without b.att id, blocks := b.blocks.filter fun x => !inFight id x }
def setOb (b : Bd) (k : Nat) (o : Ob) : Bd := { b with objs := b.objs.set k o }
def putB (b : Bd) (p z id : Int) : Bd := withSeat b p (putZ (seatOf b p) z id)
/-- The object o, as it is then, at place k, has moved. -/
def moveB (b : Bd) (k : Nat) (o : Ob) (z : Int) : Bd := putB (setOb (outB b o.id) k o) o.owner z o.id
def idsS (s : St) : List Int := s.lib ++ (s.hand ++ (s.field ++ s.grave))
def idsB (b : Bd) : List Int := idsS b.s0 ++ (idsS b.s1 ++ (cardsOn b.stack).map (·.id))
theorem ids_pairs (b : Bd) : (pairsB b).map (·.1) = idsB b := by
 simp [pairsB, pairsS, idsB, idsS, owned, Function.comp_def]
theorem placed_nodup {b : Bd} {val : Ob → Bool} (h : placedB val b = true) : (idsB b).Nodup := by
 simp only [placedB, Bool.and_eq_true, decide_eq_true_eq] at h
 rw [← ids_pairs]; exact h.1
/-- The parts of a board that is valid. -/
theorem valid_parts {b : Bd} (h : validBd b = true) : placedB validO b = true ∧ fightsBd b = true ∧ (b.active = 0 ∨ b.active = 1) ∧ b.stack.all (fun x => fineB x false) = true := by
 simp only [validBd, Bool.and_eq_true, withinB, decide_eq_true_eq, Bool.not_eq_true', List.any_eq_false] at h
 refine ⟨h.2.2.2.2.2.2.2.2.2.1, h.2.2.2.2.2.2.2.2.2.2, by have := h.1; omega, ?_⟩
 rw [List.all_eq_true]
 intro x hx
 have := h.2.2.2.2.2.2.2.1 x hx
 simpa using this
theorem placed_objs {b : Bd} (h : placedB validO b = true) : ordP none b.objs = true ∧ b.objs.all (ok1 (pairsB b) (carded b.stack)) = true ∧ (pairsB b).length = b.objs.length := by
 simp only [placedB, Bool.and_eq_true, decide_eq_true_eq, objsGo_eq] at h
 exact ⟨h.2.1.1, h.2.1.2, h.2.2⟩
theorem idxP_at {α : Type} {p : α → Bool} : ∀ {l : List α} {k : Nat} {x : α} (i : Int), l[k]? = some x → p x = true → (∀ (j : Nat) (y : α), j < k → l[j]? = some y → p y = false) → idxP p l i = i + k
 | [], k, x, i, h, _, _ => by simp at h
 | a :: l, 0, x, i, h, hp, _ => by
  simp at h; subst h
  simp [idxP, hp]
 | a :: l, k + 1, x, i, h, hp, hb => by
  have h0 := hb 0 a (by omega) rfl
  have := idxP_at (i + 1) (l := l) (k := k) (by simpa using h) hp fun j y hj e => hb (j + 1) y (by omega) (by simpa using e)
  simp only [idxP, h0, Bool.false_eq_true, if_false, this]
  omega
theorem idxO_at {b : Bd} (hn : (b.objs.map (·.id)).Nodup) {k : Nat} {o : Ob} (h : b.objs[k]? = some o) : idxO b o.id = k := by
 have := idxP_at (p := fun x : Ob => x.id == o.id) (l := b.objs) 0 h (by simp) fun j y hj e => by
  have hlt := (List.getElem?_eq_some_iff.1 h).1
  have h1 : (b.objs.map (·.id))[j]? = some y.id := by rw [List.getElem?_map, e]; rfl
  have h2 : (b.objs.map (·.id))[k]? = some o.id := by rw [List.getElem?_map, h]; rfl
  have hne : y.id ≠ o.id := by
   intro e2
   rw [e2] at h1
   have := (List.getElem?_inj (by simpa using (by omega : j < b.objs.length)) hn).1 (h1.trans h2.symm)
   omega
  simpa using hne
 rw [idxO, this]; omega
/-- What is known of an object of a valid board. -/
theorem obj_known {b : Bd} (h : placedB validO b = true) {k : Nat} {o : Ob} (hk : b.objs[k]? = some o) : validO o = true ∧ (o.id, o.owner) ∈ pairsB b ∧ idxO b o.id = k ∧ (o.owner = 0 ∨ o.owner = 1) := by
 obtain ⟨h1, h2, _⟩ := placed_objs h
 have hm := List.mem_of_getElem? hk
 have ho := List.all_eq_true.1 h2 o hm
 simp only [ok1, Bool.and_eq_true, beq_iff_eq] at ho
 obtain ⟨v, hl, hown, _⟩ := ho
 have hn := placed_nodup h
 rw [← ids_pairs] at hn
 refine ⟨v, ?_, idxO_at (ordP_spec h1).2 hk, validO_owner v⟩
 cases e : lookI (pairsB b) o.id with
 | none => rw [e] at hl; cases hl
 | some w =>
  rw [e] at hown
  have : w = o.owner := hown
  rw [this] at e
  exact (lookI_some hn).1 e
theorem lookI_perm {l l' : List (Int × Int)} (hn : (l.map (·.1)).Nodup) (hp : l.Perm l') (k : Int) : lookI l k = lookI l' k := by
 have hn' : (l'.map (·.1)).Nodup := (hp.map _).nodup_iff.1 hn
 cases e : lookI l k with
 | none =>
  rw [lookI_none] at e
  symm
  rw [lookI_none]
  intro h
  exact e ((hp.map _).mem_iff.2 h)
 | some v =>
  rw [lookI_some hn] at e
  exact ((lookI_some hn').2 (hp.mem_iff.1 e)).symm
theorem ordP_set : ∀ {l : List Ob} {prev : Option Int} {k : Nat} {o o' : Ob}, l[k]? = some o → o'.id = o.id → ordP prev (l.set k o') = ordP prev l
 | [], _, _, _, _, h, _ => by simp at h
 | a :: l, prev, 0, o, o', h, e => by
  simp at h; subst h
  simp only [List.set_cons_zero, ordP, e]
 | a :: l, prev, k + 1, o, o', h, e => by
  simp only [List.set_cons_succ, ordP]
  rw [ordP_set (by simpa using h) e]
theorem placed_set {b : Bd} {k : Nat} {o o' : Ob} (h : placedB validO b = true) (hk : b.objs[k]? = some o) (h1 : o'.id = o.id) (h2 : o'.owner = o.owner) (h3 : o'.card = o.card) (hv : validO o' = true) : placedB validO (setOb b k o') = true := by
 obtain ⟨p1, p2, p3⟩ := placed_objs h
 have hn := placed_nodup h
 have e1 : pairsB (setOb b k o') = pairsB b := rfl
 have e2 : (setOb b k o').stack = b.stack := rfl
 have e3 : (setOb b k o').objs = b.objs.set k o' := rfl
 simp only [placedB, Bool.and_eq_true, decide_eq_true_eq, objsGo_eq, e1, e2, e3, List.length_set, ids_pairs]
 refine ⟨hn, ⟨by rw [ordP_set hk h1]; exact p1, ?_⟩, p3⟩
 rw [List.all_eq_true]
 intro x hx
 rcases List.mem_or_eq_of_mem_set hx with hx | rfl
 ·exact List.all_eq_true.1 p2 x hx
 ·have := List.all_eq_true.1 p2 o (List.mem_of_getElem? hk)
  simp only [ok1, Bool.and_eq_true] at this ⊢
  rw [h1, h2, h3]
  exact ⟨hv, this.2⟩
theorem validO_reset {o : Ob} (z : Int) (h : validO o = true) : validO (resetO o z) = true := by
 rw [validO_iff] at h ⊢
 simp only [resetO]
 obtain ⟨⟨a1, a2, a3, a4, a5, a6⟩, a7⟩ := h
 exact ⟨⟨a1, a2, by omega, by omega, by omega, by omega⟩, a7⟩
end Go.Proofs.Ytbaegnnmedjkmaa
namespace Go.Proofs.Ytbaegnnmedjkmaa
open Go Go.Sx
set_option maxRecDepth 100000
set_option maxHeartbeats 1000000
/-- A call that leaves what is owned as it is, and hands back a value of which S holds. -/
theorem call_givesO {P : Program} {f : FuncId} {args : List Value} {H : Heap} {O : Own} {S : Value → Heap → Prop} {d : Bool} {shp : Shp} {K : List Value → List (List Value) → Heap → Own → Prop}
  (h : Triple P f args H O fun v H' O' => S v H' ∧ O' = O) (hk : ∀ v H', S v H' → Heap.le H H' → ∃ vs, shp.open v = some vs ∧ Ones vs ∧ K vs [] H' O) :
  CallD (fun H1 O1 R => Triple P f args H1 O1 R) d [] [] shp K H O := by
 intro _
 refine ⟨H, O, [], fun v H' O' => S v H' ∧ O' = O, ?_, h, ?_⟩
 ·cases d
  ·show Ghost H O H (O ++ [])
   rw [List.append_nil]; exact Ghost.refl _ _
  ·exact ⟨rfl, .inr ⟨rfl, rfl, rfl, fun v H' O' h => h.2⟩⟩
 ·rintro v H' O' ⟨hs, rfl⟩ hle
  obtain ⟨vs, h1, h2, h3⟩ := hk v H' hs hle
  exact ⟨vs, [], O', h1, h2, trivial, rfl, by rw [List.append_nil]; exact h3⟩
abbrev i64 (n : Int) : Prop := -9223372036854775808 ≤ n ∧ n ≤ 9223372036854775807
theorem ob_ones (o : Ob) : Ones o.row := ⟨rfl, rfl, rfl, rfl, rfl, rfl, rfl, rfl, rfl, rfl, rfl, rfl, trivial⟩
theorem valid_len {b : Bd} (h : validBd b = true) : b.objs.length ≤ 1000000 := by
 simp only [validBd, midBad, Bool.and_eq_true, Bool.not_eq_true', Bool.or_eq_false_iff, decide_eq_false_iff_not] at h
 have := h.2.2.2.2.1.1.1.2
 omega
theorem idxO_some {b : Bd} {id : Int} (h : ¬ idxO b id < 0) : ∃ (k : Nat) (o : Ob), b.objs[k]? = some o ∧ o.id = id ∧ idxO b id = k := by
 rcases idxP_spec (fun o : Ob => o.id == id) b.objs 0 (by omega) with ⟨e, _⟩ | ⟨k, o, e1, e2, e3⟩
 ·exact absurd (show idxO b id < 0 by rw [idxO, e]; omega) h
 ·exact ⟨k, o, e1, by simpa using e2, by rw [idxO, e3]; omega⟩
end Go.Proofs.Ytbaegnnmedjkmaa
namespace Go.Proofs.Ytbaegnnmedjkmaa
open Go Go.Sx
set_option maxRecDepth 100000
set_option maxHeartbeats 1000000
/-- A board's part is stored. -/
theorem OwnB.store_ob {t : Tys} {w : BV12} {b : Bd} {O X O' : Own} (h : OwnB t w b O) (hO : O'.Perm (O ++ X)) {k : Nat} {o : Ob} (hk : b.objs[k]? = some o) (o' : Ob) :
  ∃ a, evalPure (.idx 12) [w.o, iV k] = some (.pointer (some a)) ∧ ∃ O1, OwnStore O' (.pointer (some a)) o'.row O1 ∧ ∃ O2, O1.Perm (O2 ++ X) ∧ OwnB t w (setOb b k o') O2 := by
 obtain ⟨Oo, A0, B0, C0, D0, A1, B1, C1, D1, Os, Oq, Oa, Obk, hp, h⟩ := h
 have hp' : O'.Perm (Oo ++ ((A0 ++ (B0 ++ (C0 ++ (D0 ++ (A1 ++ (B1 ++ (C1 ++ (D1 ++ (Os ++ (Oq ++ (Oa ++ Obk))))))))))) ++ X)) := by
  refine hO.trans ((hp.append_right X).trans (List.Perm.of_eq ?_))
  simp only [List.append_assoc]
 obtain ⟨a, k1, k2⟩ := h.objs.store hp' (k := .i64) (i := k) (row := o.row) (by rw [List.getElem?_map, hk]; rfl)
 obtain ⟨O1', s1, s2⟩ := k2 0 o'.row (by simp [Ob.row]) (ob_ones o')
 rw [ptr0] at s1
 refine ⟨a, k1, _, s1, O1' ++ (A0 ++ (B0 ++ (C0 ++ (D0 ++ (A1 ++ (B1 ++ (C1 ++ (D1 ++ (Os ++ (Oq ++ (Oa ++ Obk))))))))))), List.Perm.of_eq (by simp only [List.append_assoc]), O1', A0, B0, C0, D0, A1, B1, C1, D1, Os, Oq, Oa, Obk, List.Perm.refl _, ?_⟩
 have e : (b.objs.map Ob.row).set k (splice o.row 0 o'.row) = (setOb b k o').objs.map Ob.row := by
  have : splice o.row 0 o'.row = o'.row := by simp [splice, Ob.row]
  rw [this, setOb, List.map_set]
 rw [e] at s2
 exact ⟨s2, h.l0, h.h0, h.f0, h.g0, h.l1, h.h1, h.f1, h.g1, h.stack, h.queue, h.att, h.blocks⟩
theorem OwnB.perm {t : Tys} {w : BV12} {b : Bd} {O O' : Own} (h : OwnB t w b O) (hp : O'.Perm O) : OwnB t w b O' :=
 let ⟨Oo, A0, B0, C0, D0, A1, B1, C1, D1, Os, Oq, Oa, Obk, hq, h⟩ := h
 ⟨Oo, A0, B0, C0, D0, A1, B1, C1, D1, Os, Oq, Oa, Obk, hp.trans hq, h⟩
theorem OwnB.zero (t : Tys) : OwnB t nilV zBd [] :=
 ⟨[], [], [], [], [], [], [], [], [], [], [], [], [], List.Perm.refl _, OSl.nil _ _, OSl.nil _ _, OSl.nil _ _, OSl.nil _ _, OSl.nil _ _, OSl.nil _ _, OSl.nil _ _, OSl.nil _ _, OSl.nil _ _,
  ⟨[], [], [], List.Perm.refl _, OSl.nil _ _, rfl, rfl, fun i r x T h => by simp at h⟩, ⟨[], [], [], List.Perm.refl _, OSl.nil _ _, rfl, rfl, fun i r x T h => by simp at h⟩, OSl.nil _ _, OSl.nil _ _⟩
def onR (id : Int) (x : It) : Bool := (x.trig == -1) && x.id == id
end Go.Proofs.Ytbaegnnmedjkmaa
namespace Go.Proofs.Ytbaegnnmedjkmaa
open Go Go.Sx
set_option maxRecDepth 100000
set_option maxHeartbeats 1000000
end Go.Proofs.Ytbaegnnmedjkmaa
namespace Go.Proofs.Ytbaegnnmedjkmaa
open Go Go.Sx
set_option maxRecDepth 100000
set_option maxHeartbeats 1000000
end Go.Proofs.Ytbaegnnmedjkmaa
namespace Go.Proofs.Ytbaegnnmedjkmaa
open Go Go.Sx
set_option maxRecDepth 100000
set_option maxHeartbeats 1000000
def restO (o : Ob) : Ob := { o with dmg := 0, pp := 0, pt := 0 }
theorem outB_B {b : Bd} (h : bdB b) (id : Int) : bdB (outB b id) := by
 obtain ⟨b1, ⟨b2, b3, b4, b5⟩, ⟨b6, b7, b8, b9⟩, ⟨b10, b10'⟩, b11, b12, b13⟩ := h
 have hw : ∀ {l : List Int}, l.length ≤ 1000000 → (without l id).length ≤ 1000000 := fun h => Nat.le_trans (List.length_filter_le _ _) h
 exact ⟨b1, ⟨hw b2, hw b3, hw b4, hw b5⟩, ⟨hw b6, hw b7, hw b8, hw b9⟩, ⟨Nat.le_trans (List.length_filter_le _ _) b10, fun x hx => b10' x (List.mem_filter.1 hx).1⟩, b11, hw b12, Nat.le_trans (List.length_filter_le _ _) b13⟩
end Go.Proofs.Ytbaegnnmedjkmaa
namespace Go.Proofs.Ytbaegnnmedjkmaa
open Go Go.Sx
set_option maxRecDepth 100000
set_option maxHeartbeats 1000000
end Go.Proofs.Ytbaegnnmedjkmaa
namespace Go.Sx
open Go
abbrev Mem := List (Nat × Option Bx)
abbrev Dec (α : Type) := List At → Option (List Ck × α)
def dI : At → Option Int
 | .k (.int .i64 n) => some n
 | _ => none
def dB : At → Option Bool
 | .k (.bool b) => some b
 | _ => none
theorem dI_eq {a : At} {n : Int} (h : dI a = some n) : a = .k (iV n) := by
 unfold dI at h
 split at h
 ·cases h; rfl
 ·cases h
theorem dB_eq {a : At} {n : Bool} (h : dB a = some n) : a = .k (.bool n) := by
 unfold dB at h
 split at h
 ·cases h; rfl
 ·cases h
def rowsD {α : Type} (size : Nat) (dec : Dec α) : Nat → List At → Option (List Ck × List α)
 | 0, _ => some ([], [])
 | n + 1, cs =>
  match dec (cs.take size) with
  | none => none
  | some (k, a) => match rowsD size dec n (cs.drop size) with
   | none => none
   | some (k', l) => some (k ++ k', a :: l)
def slD {α : Type} (mem : Mem) (size : Nat) (dec : Dec α) : At → Option (List Ck × List α)
 | .k (.slice none 0 0) => some ([], [])
 | .sl n r off len _ =>
  match lookB mem n with
  | some (some b) => if (Nat.ble (off + len * size) b.cs.length && Nat.blt len 4611686018427387904) = true then
    match rowsD size dec len (b.cs.drop off) with
    | some (k, l) => some (.eqN r b.r :: k, l)
    | none => none
   else none
  | _ => none
 | _ => none
def DecOk {α : Type} (size : Nat) (dec : Dec α) (Rl : List Value → α → Prop) : Prop :=
 ∀ cs k a, dec cs = some (k, a) → AllCk k → cs.length = size ∧ cs.all At.known = true ∧ Rl (cs.map At.den) a ∧ Ones (cs.map At.den)
theorem rowsD_ok {α : Type} {size : Nat} {dec : Dec α} {Rl : List Value → α → Prop} (hd : DecOk size dec Rl) : ∀ {n : Nat} {cs : List At} {vs : List Value} {k : List Ck} {l : List α}, rowsD size dec n cs = some (k, l) → AllCk k → CellsRel cs vs →
  l.length = n ∧ ∀ (i : Nat) (a : α), l[i]? = some a → Rl ((vs.drop (i * size)).take size) a ∧ Ones ((vs.drop (i * size)).take size) ∧ ((vs.drop (i * size)).take size).length = size
 | 0, cs, vs, k, l, h, _, _ => by
  simp only [rowsD, Option.some.injEq, Prod.mk.injEq] at h
  obtain ⟨_, rfl⟩ := h
  exact ⟨rfl, fun i a h => by simp at h⟩
 | n + 1, cs, vs, k, l, h, hk, hr => by
  simp only [rowsD] at h
  split at h
  ·cases h
  ·rename_i k1 a h1
   split at h
   ·cases h
   ·rename_i k2 l' h2
    simp only [Option.some.injEq, Prod.mk.injEq] at h
    obtain ⟨rfl, rfl⟩ := h
    rw [AllCk.append] at hk
    obtain ⟨d1, d2, d3, d4⟩ := hd _ _ _ h1 hk.1
    have e : vs.take size = (cs.take size).map At.den := (hr.take size).known d2
    obtain ⟨i1, i2⟩ := rowsD_ok hd h2 hk.2 (hr.drop size)
    refine ⟨by simp [i1], fun i a' hi => ?_⟩
    cases i with
    | zero =>
     simp only [List.getElem?_cons_zero, Option.some.injEq] at hi
     subst hi
     rw [Nat.zero_mul, List.drop_zero, e]
     exact ⟨d3, d4, by rw [List.length_map, d1]⟩
    | succ i =>
     have := i2 i a' (by simpa using hi)
     rw [List.drop_drop] at this
     rw [show (i + 1) * size = size + i * size by rw [Nat.add_mul]; omega]
     exact this
theorem slD_ok {α : Type} {mem : Mem} {size : Nat} {dec : Dec α} {Rl : List Value → α → Prop} (hd : DecOk size dec Rl) {x : At} {k : List Ck} {l : List α} (h : slD mem size dec x = some (k, l)) (hk : AllCk k) {L : Own} (hB : Boxes (fun n => (lookB mem n).getD none) L) (H : Heap) :
  x.known = true ∧ ∃ rows, RSl H L size x.den rows ∧ rows.length = l.length ∧ ∀ (i : Nat) (r : List Value) (a : α), rows[i]? = some r → l[i]? = some a → Rl r a := by
 unfold slD at h
 split at h
 ·simp only [Option.some.injEq, Prod.mk.injEq] at h
  obtain ⟨_, rfl⟩ := h
  exact ⟨rfl, [], (Sl.nil H size).rsl L, rfl, fun i r a h => by simp at h⟩
 ·rename_i n r off len cap
  split at h
  ·rename_i b hb
   split at h
   ·rename_i hc
    split at h
    ·rename_i k' l' hrow
     simp only [Option.some.injEq, Prod.mk.injEq] at h
     obtain ⟨rfl, rfl⟩ := h
     obtain ⟨hr, hk'⟩ := hk
     have hr : r = b.r := hr
     subst hr
     rw [Bool.and_eq_true] at hc
     have hfit : off + len * size ≤ b.cs.length := Nat.le_of_ble_eq_true hc.1
     have hlen : len < 4611686018427387904 := Nat.le_of_ble_eq_true hc.2
     obtain ⟨vs, L', hrel, hp, _⟩ := hB.take (n := n) (b := b) (by simp [hb])
     have hvl := hrel.length
     obtain ⟨l1, l2⟩ := rowsD_ok hd hrow hk' (hrel.drop off)
     refine ⟨rfl, (List.range len).map fun i => ((vs.drop off).drop (i * size)).take size, ⟨rfl, ?_, ?_, ?_⟩, by simp [l1], ?_⟩
     ·simp [At.den, evalPure, goInt]
     ·simp; omega
     ·intro kd i row hi
      have hlt : i < len := by
       have := (List.getElem?_eq_some_iff.1 hi).1
       simpa using this
      have hrowi : ((vs.drop off).drop (i * size)).take size = row := by
       rw [List.getElem?_map, List.getElem?_range hlt] at hi
       simpa using hi
      have hli : l'[i]? = some l'[i] := List.getElem?_eq_getElem (by omega)
      obtain ⟨q1, q2, q3⟩ := l2 i _ hli
      rw [hrowi] at q1 q2 q3
      have hmem : (b.r, Obj.cells vs.toArray b.T (0, 0)) ∈ L := hp.mem_iff.2 (by simp)
      refine ⟨⟨b.r, off + i * size, none⟩, ?_, .inr ⟨_, vs.toArray, b.T, rfl, rfl, hmem, ?_, q3⟩, fun o m hle => .inr ⟨⟨b.r, off + i * size + o, none⟩, vs.toArray, b.T, ?_, rfl, hmem, ?_, ?_⟩, q3, q2⟩
      ·simp only [At.den, evalPure, evalIdx]
       rw [if_pos ⟨by omega, by omega⟩, add_none]
       simp
      ·rw [← hrowi, List.drop_drop]
      ·show Value.pointer (some ((⟨b.r, off + i * size, none⟩ : Addr).add o)) = _
       rw [add_none]
      ·rw [← hrowi, List.drop_drop, List.drop_take, List.take_take, Nat.min_eq_left (by omega), List.drop_drop]
      ·rw [List.length_take, List.length_drop, q3]; omega
     ·intro i r a hi ha
      have hlt : i < len := by
       have := (List.getElem?_eq_some_iff.1 hi).1
       simpa using this
      rw [List.getElem?_map, List.getElem?_range hlt] at hi
      have hi : ((vs.drop off).drop (i * size)).take size = r := by simpa using hi
      rw [← hi]
      exact (l2 i a ha).1
    ·cases h
   ·cases h
  ·cases h
 ·cases h
/-- Rows that are just those of the data. -/
theorem slD_map {α : Type} {mem : Mem} {size : Nat} {dec : Dec α} {row : α → List Value} (hd : DecOk size dec fun r a => r = row a) {x : At} {k : List Ck} {l : List α} (h : slD mem size dec x = some (k, l)) (hk : AllCk k) {L : Own} (hB : Boxes (fun n => (lookB mem n).getD none) L) (H : Heap) :
  RSl H L size x.den (l.map row) := by
 obtain ⟨_, rows, h1, h2, h3⟩ := slD_ok hd h hk hB H
 have : rows = l.map row := by
  refine List.ext_getElem (by simp [h2]) fun i a b => ?_
  have := h3 i rows[i] l[i] (List.getElem?_eq_getElem a) (List.getElem?_eq_getElem (by omega))
  rw [this]; simp
 rw [← this]; exact h1
def decInt : Dec Int
 | [a] => match dI a with | some n => some ([], n) | none => none
 | _ => none
theorem decInt_ok : DecOk 1 decInt fun r n => r = [iV n] := by
 intro cs k a h _
 unfold decInt at h
 split at h
 ·split at h
  ·rename_i n hn
   simp only [Option.some.injEq, Prod.mk.injEq] at h
   obtain ⟨_, rfl⟩ := h
   obtain rfl := dI_eq hn
   exact ⟨rfl, rfl, rfl, rfl, trivial⟩
  ·cases h
 ·cases h
def decTwo {α : Type} (f : Int → Int → α) : Dec α
 | [a, b] => match dI a, dI b with | some n, some m => some ([], f n m) | _, _ => none
 | _ => none
theorem decTwo_ok {α : Type} {f : Int → Int → α} {row : α → List Value} (hf : ∀ n m, row (f n m) = [iV n, iV m]) : DecOk 2 (decTwo f) fun r a => r = row a := by
 intro cs k a h _
 unfold decTwo at h
 split at h
 ·split at h
  ·rename_i n m hn hm
   simp only [Option.some.injEq, Prod.mk.injEq] at h
   obtain ⟨_, rfl⟩ := h
   obtain rfl := dI_eq hn
   obtain rfl := dI_eq hm
   exact ⟨rfl, rfl, (hf n m).symm, rfl, rfl, trivial⟩
  ·cases h
 ·cases h
def decOb : Dec Ob
 | [a0, a1, a2, a3, a4, a5, a6, a7, a8, b0, b1, b2] =>
  (dI a0).bind fun n0 => (dI a1).bind fun n1 => (dI a2).bind fun n2 => (dI a3).bind fun n3 => (dI a4).bind fun n4 => (dI a5).bind fun n5 => (dI a6).bind fun n6 => (dI a7).bind fun n7 => (dI a8).bind fun n8 => (dB b0).bind fun m0 => (dB b1).bind fun m1 => (dB b2).bind fun m2 => some ([], ⟨n0, n1, n2, n3, n4, n5, n6, n7, n8, m0, m1, m2⟩)
 | _ => none
theorem decOb_ok : DecOk 12 decOb fun r o => r = Ob.row o := by
 intro cs k a h _
 unfold decOb at h
 split at h
 ·simp only [Option.bind_eq_some_iff, Option.some.injEq, Prod.mk.injEq] at h
  obtain ⟨n0, e0, n1, e1, n2, e2, n3, e3, n4, e4, n5, e5, n6, e6, n7, e7, n8, e8, m0, f0, m1, f1, m2, f2, _, rfl⟩ := h
  obtain rfl := dI_eq e0
  obtain rfl := dI_eq e1
  obtain rfl := dI_eq e2
  obtain rfl := dI_eq e3
  obtain rfl := dI_eq e4
  obtain rfl := dI_eq e5
  obtain rfl := dI_eq e6
  obtain rfl := dI_eq e7
  obtain rfl := dI_eq e8
  obtain rfl := dB_eq f0
  obtain rfl := dB_eq f1
  obtain rfl := dB_eq f2
  exact ⟨rfl, rfl, rfl, rfl, rfl, rfl, rfl, rfl, rfl, rfl, rfl, rfl, rfl, rfl, rfl, trivial⟩
 ·cases h
def decIt (mem : Mem) : Dec It
 | [a0, a1, a2, a3, s] => (dI a0).bind fun n0 => (dI a1).bind fun n1 => (dI a2).bind fun n2 => (dI a3).bind fun n3 => (slD mem 2 (decTwo Tg.mk) s).bind fun t => some (t.1, ⟨n0, n1, n2, n3, t.2⟩)
 | _ => none
theorem decTg_ok : DecOk 2 (decTwo Tg.mk) fun r t => r = Tg.row t := decTwo_ok fun _ _ => rfl
theorem decBl_ok : DecOk 2 (decTwo Bl.mk) fun r t => r = Bl.row t := decTwo_ok fun _ _ => rfl
theorem decIt_ok {mem : Mem} {L : Own} (hB : Boxes (fun n => (lookB mem n).getD none) L) (H : Heap) : DecOk 5 (decIt mem) fun r x => ItR H L r x := by
 intro cs k a h hk
 unfold decIt at h
 split at h
 ·simp only [Option.bind_eq_some_iff, Option.some.injEq, Prod.mk.injEq] at h
  obtain ⟨n0, e0, n1, e1, n2, e2, n3, e3, t, e4, rfl, rfl⟩ := h
  obtain rfl := dI_eq e0
  obtain rfl := dI_eq e1
  obtain rfl := dI_eq e2
  obtain rfl := dI_eq e3
  have hs := slD_map decTg_ok e4 hk hB H
  have hkn := (slD_ok decTg_ok e4 hk hB H).1
  exact ⟨rfl, by rw [List.all_cons, List.all_cons, List.all_cons, List.all_cons, List.all_cons, hkn]; rfl, ⟨_, rfl, hs⟩, rfl, rfl, rfl, rfl, hs.one, trivial⟩
 ·cases h
theorem slD_its {mem : Mem} {x : At} {k : List Ck} {l : List It} (h : slD mem 5 (decIt mem) x = some (k, l)) (hk : AllCk k) {L : Own} (hB : Boxes (fun n => (lookB mem n).getD none) L) (H : Heap) : ItsR H L x.den l := by
 obtain ⟨_, rows, h1, h2, h3⟩ := slD_ok (decIt_ok hB H) h hk hB H
 exact ⟨rows, h1, h2, h3⟩
def dBd (mem : Mem) : List At → Option (List Ck × BV12 × Bd)
 | a0 :: a1 :: a2 :: a3 :: a4 :: a5 :: a6 :: a7 :: a8 :: a9 :: a10 :: a11 :: a12 :: a13 :: a14 :: a15 :: a16 :: a17 :: a18 :: a19 :: a20 :: a21 :: a22 :: a23 :: a24 :: a25 :: a26 :: a27 :: a28 :: a29 :: a30 :: a31 :: a32 :: a33 :: a34 :: a35 :: a36 :: a37 :: [] =>
  (slD mem 12 decOb a0).bind fun n0 => (dI a1).bind fun n1 => (dI a2).bind fun n2 => (dI a3).bind fun n3 => (dI a4).bind fun n4 => (dI a5).bind fun n5 => (slD mem 1 decInt a6).bind fun n6 => (slD mem 1 decInt a7).bind fun n7 => (slD mem 1 decInt a8).bind fun n8 => (slD mem 1 decInt a9).bind fun n9 => (dB a10).bind fun n10 => (dB a11).bind fun n11 => (dB a12).bind fun n12 => (dI a13).bind fun n13 => (dI a14).bind fun n14 => (dI a15).bind fun n15 => (dI a16).bind fun n16 => (dI a17).bind fun n17 => (dI a18).bind fun n18 => (dI a19).bind fun n19 => (slD mem 1 decInt a20).bind fun n20 => (slD mem 1 decInt a21).bind fun n21 => (slD mem 1 decInt a22).bind fun n22 => (slD mem 1 decInt a23).bind fun n23 => (dB a24).bind fun n24 => (dB a25).bind fun n25 => (dB a26).bind fun n26 => (dI a27).bind fun n27 => (dI a28).bind fun n28 => (slD mem 5 (decIt mem) a29).bind fun n29 => (slD mem 5 (decIt mem) a30).bind fun n30 => (slD mem 1 decInt a31).bind fun n31 => (slD mem 2 (decTwo Bl.mk) a32).bind fun n32 => (dI a33).bind fun n33 => (dI a34).bind fun n34 => (dI a35).bind fun n35 => (dI a36).bind fun n36 => (dI a37).bind fun n37 => 
   some (n0.1 ++ (n6.1 ++ (n7.1 ++ (n8.1 ++ (n9.1 ++ (n20.1 ++ (n21.1 ++ (n22.1 ++ (n23.1 ++ (n29.1 ++ (n30.1 ++ (n31.1 ++ (n32.1)))))))))))), ⟨a0.den, a6.den, a7.den, a8.den, a9.den, a20.den, a21.den, a22.den, a23.den, a29.den, a30.den, a31.den, a32.den⟩, ⟨n0.2, ⟨n1, n2, n3, n4, n5, n6.2, n7.2, n8.2, n9.2, n10, n11, n12, n13, n14⟩, ⟨n15, n16, n17, n18, n19, n20.2, n21.2, n22.2, n23.2, n24, n25, n26, n27, n28⟩, n29.2, n30.2, n31.2, n32.2, n33, n34, n35, n36, n37⟩)
 | _ => none
theorem dBd_ok {mem : Mem} {l : List At} {k : List Ck} {v : BV12} {b : Bd} (h : dBd mem l = some (k, v, b)) (hk : AllCk k) {L : Own} (hB : Boxes (fun n => (lookB mem n).getD none) L) (H : Heap) : l.map At.den = boardC v b ∧ BdR H L v b := by
 unfold dBd at h
 split at h
 ·simp only [Option.bind_eq_some_iff, Option.some.injEq, Prod.mk.injEq] at h
  obtain ⟨n0, e0, n1, e1, n2, e2, n3, e3, n4, e4, n5, e5, n6, e6, n7, e7, n8, e8, n9, e9, n10, e10, n11, e11, n12, e12, n13, e13, n14, e14, n15, e15, n16, e16, n17, e17, n18, e18, n19, e19, n20, e20, n21, e21, n22, e22, n23, e23, n24, e24, n25, e25, n26, e26, n27, e27, n28, e28, n29, e29, n30, e30, n31, e31, n32, e32, n33, e33, n34, e34, n35, e35, n36, e36, n37, e37, rfl, rfl, rfl⟩ := h
  simp only [AllCk.append] at hk
  obtain ⟨c0, c6, c7, c8, c9, c20, c21, c22, c23, c29, c30, c31, c32⟩ := hk
  obtain rfl := dI_eq e1
  obtain rfl := dI_eq e2
  obtain rfl := dI_eq e3
  obtain rfl := dI_eq e4
  obtain rfl := dI_eq e5
  obtain rfl := dB_eq e10
  obtain rfl := dB_eq e11
  obtain rfl := dB_eq e12
  obtain rfl := dI_eq e13
  obtain rfl := dI_eq e14
  obtain rfl := dI_eq e15
  obtain rfl := dI_eq e16
  obtain rfl := dI_eq e17
  obtain rfl := dI_eq e18
  obtain rfl := dI_eq e19
  obtain rfl := dB_eq e24
  obtain rfl := dB_eq e25
  obtain rfl := dB_eq e26
  obtain rfl := dI_eq e27
  obtain rfl := dI_eq e28
  obtain rfl := dI_eq e33
  obtain rfl := dI_eq e34
  obtain rfl := dI_eq e35
  obtain rfl := dI_eq e36
  obtain rfl := dI_eq e37
  exact ⟨rfl, ⟨slD_map decOb_ok e0 c0 hB H, ⟨slD_map decInt_ok e6 c6 hB H, slD_map decInt_ok e7 c7 hB H, slD_map decInt_ok e8 c8 hB H, slD_map decInt_ok e9 c9 hB H⟩, ⟨slD_map decInt_ok e20 c20 hB H, slD_map decInt_ok e21 c21 hB H, slD_map decInt_ok e22 c22 hB H, slD_map decInt_ok e23 c23 hB H⟩, slD_its e29 c29 hB H, slD_its e30 c30 hB H, slD_map decInt_ok e31 c31 hB H, slD_map decBl_ok e32 c32 hB H⟩⟩
 ·cases h
/-- A function of one board that hands back a bool. -/
def sumB (fv : Nat) (val : Bd → Bool) : SumF := fun f args mem _ =>
 if Nat.beq f fv = true then
  match args with
  | [.agg l] => match dBd mem l with
   | some (k, _, b) => some (k, .s (.at (.k (.bool (val b)))))
   | none => none
  | _ => none
 else none
theorem sumB_ok {P : Program} {ok : FuncId → Bool} {fv : Nat} {val : Bd → Bool} (hc : ∀ (H : Heap) (O : Own) (v : BV12) (b : Bd), BdR H O v b → RetO P fv [.agg (boardC v b).toArray] H O (.bool (val b))) (H : Heap) : SumOk P ok H (sumB fv val) := by
 intro f args mem h cs sv _ hs hck
 unfold sumB at hs
 split at hs
 ·rename_i hf
  have hf : f = fv := Nat.eq_of_beq_eq_true hf
  subst hf
  split at hs
  ·rename_i l
   split at hs
   ·rename_i k v b hd
    simp only [Option.some.injEq, Prod.mk.injEq] at hs
    obtain ⟨rfl, rfl⟩ := hs
    refine ⟨ok_k _, fun F w next _ hm => ?_⟩
    obtain ⟨L, O, hB, hok, hM, hmod, hfr⟩ := hm
    obtain ⟨h1, h2⟩ := dBd_ok hd hck hB H
    have hret := Triple.frame (hc H L v b h2) O
    have e : (([S1.agg l] : List S1).map S1.den).toArray = [Value.agg (boardC v b).toArray].toArray := by simp [S1.den, h1]
    rw [e]
    refine (hret w F (by simpa using hmod)).mono ?_
    rintro e' w' ⟨v', H', O', he, ⟨O'', q1, q2, q3⟩, hle, hm'⟩
    rw [q1, q3] at hm'
    exact ⟨v', he, q2, L, O, hB, hok, hM, by simpa using hm'.less hle, hfr⟩
   ·cases hs
  ·cases hs
 ·cases hs
end Go.Sx
