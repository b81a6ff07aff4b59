/- Plain laws of boards that move: what is drawn, put, taken out. -/
import Derived.Test.YtjaegdkkiefchaaGreatDoorC8
import Derived.Test.YtjaegdkkiefchaaGreatDoorC18
import Derived.Test.YtjaegdkkiefchaaGreatDoorFw3
namespace Go.Proofs.YtjaegdkkiefchaaGreatDoor
open Go Go.Sx
set_option maxRecDepth 100000
set_option maxHeartbeats 1000000
def resetO (o : Ob) (z : Int) : Ob := { o with dmg := 0, pp := 0, pt := 0, cnt := 0, tap := false, doom := false, sick := z == 2 }
def seatOf (b : Bd) (p : Int) : St := if p = 0 then b.s0 else b.s1
def withSeat (b : Bd) (p : Int) (s : St) : Bd := if p = 0 then { b with s0 := s } else { b with s1 := s }
def putZ (s : St) (z id : Int) : St :=
 if z = 0 then { s with lib := s.lib ++ [id] } else if z = 1 then { s with hand := s.hand ++ [id] } else if z = 2 then { s with field := s.field ++ [id] } else if z = 3 then { s with grave := s.grave ++ [id] } else s
def without (l : List Int) (id : Int) : List Int := l.filter fun n => n != id
def outS (s : St) (id : Int) : St := { s with lib := without s.lib id, hand := without s.hand id, field := without s.field id, grave := without s.grave id }
def isOn (id : Int) (x : It) : Bool := decide (x.trig < 0) && x.id == id
def inFight (id : Int) (x : Bl) : Bool := x.blocker == id || x.attacker == id
def outB (b : Bd) (id : Int) : Bd := { b with s0 := outS b.s0 id, s1 := outS b.s1 id, stack := b.stack.filter fun x => !isOn id x, att := without b.att id, blocks := b.blocks.filter fun x => !inFight id x }
def setOb (b : Bd) (k : Nat) (o : Ob) : Bd := { b with objs := b.objs.set k o }
def putB (b : Bd) (p z id : Int) : Bd := withSeat b p (putZ (seatOf b p) z id)
/-- The object o, as it is then, at place k, has moved. -/
def moveB (b : Bd) (k : Nat) (o : Ob) (z : Int) : Bd := putB (setOb (outB b o.id) k o) o.owner z o.id
def idsS (s : St) : List Int := s.lib ++ (s.hand ++ (s.field ++ s.grave))
def idsB (b : Bd) : List Int := idsS b.s0 ++ (idsS b.s1 ++ (cardsOn b.stack).map (·.id))
theorem ids_pairs (b : Bd) : (pairsB b).map (·.1) = idsB b := by
 simp [pairsB, pairsS, idsB, idsS, owned, Function.comp_def]
theorem without_self {l : List Int} {id : Int} (h : l.count id = 0) : without l id = l := by
 rw [without, List.filter_eq_self]
 intro x hx
 have : id ∉ l := List.count_eq_zero.1 h
 simp only [bne_iff_ne, ne_eq]
 rintro rfl
 exact this hx
theorem placed_nodup {b : Bd} {val : Ob → Bool} (h : placedB val b = true) : (idsB b).Nodup := by
 simp only [placedB, Bool.and_eq_true, decide_eq_true_eq] at h
 rw [← ids_pairs]; exact h.1
/-- The parts of a board that is valid. -/
theorem valid_parts {b : Bd} (h : validBd b = true) : placedB validO b = true ∧ fightsBd b = true ∧ (b.active = 0 ∨ b.active = 1) ∧ b.stack.all (fun x => fineB x false) = true := by
 simp only [validBd, Bool.and_eq_true, withinB, decide_eq_true_eq, Bool.not_eq_true', List.any_eq_false] at h
 refine ⟨h.2.2.2.2.2.2.2.2.2.1, h.2.2.2.2.2.2.2.2.2.2, by have := h.1; omega, ?_⟩
 rw [List.all_eq_true]
 intro x hx
 have := h.2.2.2.2.2.2.2.1 x hx
 simpa using this
theorem placed_objs {b : Bd} (h : placedB validO b = true) : ordP none b.objs = true ∧ b.objs.all (ok1 (pairsB b) (carded b.stack)) = true ∧ (pairsB b).length = b.objs.length := by
 simp only [placedB, Bool.and_eq_true, decide_eq_true_eq, objsGo_eq] at h
 exact ⟨h.2.1.1, h.2.1.2, h.2.2⟩
theorem idxP_at {α : Type} {p : α → Bool} : ∀ {l : List α} {k : Nat} {x : α} (i : Int), l[k]? = some x → p x = true → (∀ (j : Nat) (y : α), j < k → l[j]? = some y → p y = false) → idxP p l i = i + k
 | [], k, x, i, h, _, _ => by simp at h
 | a :: l, 0, x, i, h, hp, _ => by
  simp at h; subst h
  simp [idxP, hp]
 | a :: l, k + 1, x, i, h, hp, hb => by
  have h0 := hb 0 a (by omega) rfl
  have := idxP_at (i + 1) (l := l) (k := k) (by simpa using h) hp fun j y hj e => hb (j + 1) y (by omega) (by simpa using e)
  simp only [idxP, h0, Bool.false_eq_true, if_false, this]
  omega
theorem idxO_at {b : Bd} (hn : (b.objs.map (·.id)).Nodup) {k : Nat} {o : Ob} (h : b.objs[k]? = some o) : idxO b o.id = k := by
 have := idxP_at (p := fun x : Ob => x.id == o.id) (l := b.objs) 0 h (by simp) fun j y hj e => by
  have hlt := (List.getElem?_eq_some_iff.1 h).1
  have h1 : (b.objs.map (·.id))[j]? = some y.id := by rw [List.getElem?_map, e]; rfl
  have h2 : (b.objs.map (·.id))[k]? = some o.id := by rw [List.getElem?_map, h]; rfl
  have hne : y.id ≠ o.id := by
   intro e2
   rw [e2] at h1
   have := (List.getElem?_inj (by simpa using (by omega : j < b.objs.length)) hn).1 (h1.trans h2.symm)
   omega
  simpa using hne
 rw [idxO, this]; omega
/-- What is known of an object of a valid board. -/
theorem obj_known {b : Bd} (h : placedB validO b = true) {k : Nat} {o : Ob} (hk : b.objs[k]? = some o) : validO o = true ∧ (o.id, o.owner) ∈ pairsB b ∧ idxO b o.id = k ∧ (o.owner = 0 ∨ o.owner = 1) := by
 obtain ⟨h1, h2, _⟩ := placed_objs h
 have hm := List.mem_of_getElem? hk
 have ho := List.all_eq_true.1 h2 o hm
 simp only [ok1, Bool.and_eq_true, beq_iff_eq] at ho
 obtain ⟨v, hl, hown, _⟩ := ho
 have hn := placed_nodup h
 rw [← ids_pairs] at hn
 refine ⟨v, ?_, idxO_at (ordP_spec h1).2 hk, validO_owner v⟩
 cases e : lookI (pairsB b) o.id with
 | none => rw [e] at hl; cases hl
 | some w =>
  rw [e] at hown
  have : w = o.owner := hown
  rw [this] at e
  exact (lookI_some hn).1 e
/-- An id that is somewhere has its object. -/
theorem id_obj {b : Bd} (h : placedB validO b = true) {id p : Int} (hm : (id, p) ∈ pairsB b) : ∃ (k : Nat) (o : Ob), b.objs[k]? = some o ∧ o.id = id ∧ o.owner = p := by
 obtain ⟨o, ho, e, _⟩ := placed_ids h id (List.mem_map_of_mem (f := Prod.fst) hm)
 obtain ⟨k, hk⟩ := List.mem_iff_getElem?.1 ho
 refine ⟨k, o, hk, e, ?_⟩
 obtain ⟨_, h2, _⟩ := obj_known h hk
 have hn := placed_nodup h
 rw [← ids_pairs] at hn
 rw [e] at h2
 have a := (lookI_some hn).2 h2
 have c := (lookI_some hn).2 hm
 rw [a] at c
 exact Option.some.inj c
theorem lookI_perm {l l' : List (Int × Int)} (hn : (l.map (·.1)).Nodup) (hp : l.Perm l') (k : Int) : lookI l k = lookI l' k := by
 have hn' : (l'.map (·.1)).Nodup := (hp.map _).nodup_iff.1 hn
 cases e : lookI l k with
 | none =>
  rw [lookI_none] at e
  symm
  rw [lookI_none]
  intro h
  exact e ((hp.map _).mem_iff.2 h)
 | some v =>
  rw [lookI_some hn] at e
  exact ((lookI_some hn').2 (hp.mem_iff.1 e)).symm
theorem ordP_set : ∀ {l : List Ob} {prev : Option Int} {k : Nat} {o o' : Ob}, l[k]? = some o → o'.id = o.id → ordP prev (l.set k o') = ordP prev l
 | [], _, _, _, _, h, _ => by simp at h
 | a :: l, prev, 0, o, o', h, e => by
  simp at h; subst h
  simp only [List.set_cons_zero, ordP, e]
 | a :: l, prev, k + 1, o, o', h, e => by
  simp only [List.set_cons_succ, ordP]
  rw [ordP_set (by simpa using h) e]
theorem placed_set {b : Bd} {k : Nat} {o o' : Ob} (h : placedB validO b = true) (hk : b.objs[k]? = some o) (h1 : o'.id = o.id) (h2 : o'.owner = o.owner) (h3 : o'.card = o.card) (hv : validO o' = true) : placedB validO (setOb b k o') = true := by
 obtain ⟨p1, p2, p3⟩ := placed_objs h
 have hn := placed_nodup h
 have e1 : pairsB (setOb b k o') = pairsB b := rfl
 have e2 : (setOb b k o').stack = b.stack := rfl
 have e3 : (setOb b k o').objs = b.objs.set k o' := rfl
 simp only [placedB, Bool.and_eq_true, decide_eq_true_eq, objsGo_eq, e1, e2, e3, List.length_set, ids_pairs]
 refine ⟨hn, ⟨by rw [ordP_set hk h1]; exact p1, ?_⟩, p3⟩
 rw [List.all_eq_true]
 intro x hx
 rcases List.mem_or_eq_of_mem_set hx with hx | rfl
 ·exact List.all_eq_true.1 p2 x hx
 ·have := List.all_eq_true.1 p2 o (List.mem_of_getElem? hk)
  simp only [ok1, Bool.and_eq_true] at this ⊢
  rw [h1, h2, h3]
  exact ⟨hv, this.2⟩
theorem placed_perm {b c : Bd} (h : placedB validO b = true) (hp : (pairsB b).Perm (pairsB c)) (ho : c.objs = b.objs) (hc : carded c.stack = carded b.stack) : placedB validO c = true := by
 obtain ⟨p1, p2, p3⟩ := placed_objs h
 have hn := placed_nodup h
 rw [← ids_pairs] at hn
 simp only [placedB, Bool.and_eq_true, decide_eq_true_eq, objsGo_eq, ho, hc]
 refine ⟨(hp.map _).nodup_iff.1 hn, ⟨p1, ?_⟩, by rw [← hp.length_eq]; exact p3⟩
 have : (b.objs.all (ok1 (pairsB c) (carded b.stack))) = b.objs.all (ok1 (pairsB b) (carded b.stack)) := by
  congr 1
  funext o
  simp only [ok1, lookI_perm hn hp]
 rw [this]; exact p2
theorem validO_reset {o : Ob} (z : Int) (h : validO o = true) : validO (resetO o z) = true := by
 rw [validO_iff] at h ⊢
 simp only [resetO]
 obtain ⟨⟨a1, a2, a3, a4, a5, a6⟩, a7⟩ := h
 exact ⟨⟨a1, a2, by omega, by omega, by omega, by omega⟩, a7⟩
/-! Drawing one card -/
def midS (s : St) (id : Int) : St := { s with lib := s.lib.dropLast, hand := s.hand ++ [id] }
def midB (b : Bd) (p id : Int) : Bd := withSeat b p (midS (seatOf b p) id)
theorem pairs_mid {s : St} {l : List Int} {id : Int} (p : Int) (hl : s.lib = l ++ [id]) : (pairsS s p).Perm (pairsS (midS s id) p) := by
 simp only [pairsS, midS, hl, List.dropLast_concat]
 refine List.Perm.map _ ?_
 simp only [List.append_assoc]
 exact List.Perm.append_left l ((List.perm_append_comm_assoc _ _ _))
theorem mid_facts {b : Bd} {p : Int} (hp : p = 0 ∨ p = 1) {l : List Int} {id : Int} (hl : (seatOf b p).lib = l ++ [id]) :
  (pairsB b).Perm (pairsB (midB b p id)) ∧ (midB b p id).objs = b.objs ∧ (midB b p id).stack = b.stack ∧ (id, p) ∈ pairsB b := by
 rcases hp with rfl | rfl
 ·have hl' : b.s0.lib = l ++ [id] := hl
  refine ⟨?_, rfl, rfl, ?_⟩
  ·exact (pairs_mid 0 hl').append_right _
  ·simp [pairsB, pairsS, hl']
 ·have hl' : b.s1.lib = l ++ [id] := hl
  refine ⟨?_, rfl, rfl, ?_⟩
  ·exact ((pairs_mid 1 hl').append_right _).append_left _
  ·simp [pairsB, pairsS, hl']
/-- Two boards that differ in nothing that validity looks at, but for objects and places. -/
theorem valid_of {b c : Bd} (h : validBd b = true) (hpl : placedB validO c = true) (hf : fightsBd c = fightsBd b) (h0 : seatOkB c.s0 = seatOkB b.s0) (h1 : seatOkB c.s1 = seatOkB b.s1)
  (e1 : c.active = b.active) (e2 : c.turn = b.turn) (e3 : c.phase = b.phase) (e4 : c.holder = b.holder) (e5 : c.passes = b.passes) (e6 : c.stack = b.stack) (e7 : c.queue = b.queue) (e8 : c.objs.length = b.objs.length) : validBd c = true := by
 have hp := (valid_parts h).1
 have : validBd c = validBd b := by
  simp only [validBd, midBad, hf, h0, h1, e1, e2, e3, e4, e5, e6, e7, e8, hpl, hp]
 rw [this]; exact h
theorem mid_valid {b : Bd} (h : validBd b = true) {p : Int} (hp : p = 0 ∨ p = 1) {l : List Int} {id : Int} (hl : (seatOf b p).lib = l ++ [id]) : validBd (midB b p id) = true := by
 obtain ⟨m1, m2, m3, _⟩ := mid_facts hp hl
 have hpl := placed_perm (valid_parts h).1 m1 m2 (by rw [m3])
 rcases hp with rfl | rfl <;> exact valid_of h hpl rfl rfl rfl rfl rfl rfl rfl rfl rfl rfl rfl
theorem set_valid {b : Bd} {k : Nat} {o o' : Ob} (h : validBd b = true) (hk : b.objs[k]? = some o) (h1 : o'.id = o.id) (h2 : o'.owner = o.owner) (h3 : o'.card = o.card) (hv : validO o' = true) : validBd (setOb b k o') = true :=
 valid_of h (placed_set (valid_parts h).1 hk h1 h2 h3 hv) rfl rfl rfl rfl rfl rfl rfl rfl rfl rfl (by simp [setOb])
theorem fights_sub {own other att : List Int} {bl : List Bl} (h : fightsB own other att bl = true) : (∀ x ∈ att, x ∈ own) ∧ ∀ x ∈ bl, x.attacker ∈ own ∧ x.blocker ∈ other := by
 simp only [fightsB, Bool.and_eq_true, List.all_eq_true, List.contains_iff_mem] at h
 obtain ⟨_, h2, h3⟩ := h
 refine ⟨h2, ?_⟩
 have key : ∀ (bl : List Bl) (ua ub : List Int), blkGo att other ua ub bl = true → ∀ x ∈ bl, x.attacker ∈ att ∧ x.blocker ∈ other := by
  intro bl
  induction bl with
  | nil => intro _ _ _ x hx; simp at hx
  | cons a r ih =>
   intro ua ub h x hx
   simp only [blkGo, Bool.and_eq_true, List.contains_iff_mem] at h
   rcases List.mem_cons.1 hx with rfl | hx
   ·exact ⟨h.1.1.2, h.1.2.2⟩
   ·exact ih _ _ h.2 x hx
 intro x hx
 obtain ⟨a, c⟩ := key bl [] [] h3 x hx
 exact ⟨h2 _ a, c⟩
theorem fights_ids {b : Bd} (h : fightsBd b = true) : (∀ x ∈ b.att, x ∈ b.s0.field ∨ x ∈ b.s1.field) ∧ ∀ x ∈ b.blocks, (x.attacker ∈ b.s0.field ∨ x.attacker ∈ b.s1.field) ∧ (x.blocker ∈ b.s0.field ∨ x.blocker ∈ b.s1.field) := by
 unfold fightsBd at h
 split at h
 ·obtain ⟨a, c⟩ := fights_sub h
  exact ⟨fun x hx => .inl (a x hx), fun x hx => ⟨.inl (c x hx).1, .inr (c x hx).2⟩⟩
 ·obtain ⟨a, c⟩ := fights_sub h
  exact ⟨fun x hx => .inr (a x hx), fun x hx => ⟨.inr (c x hx).1, .inl (c x hx).2⟩⟩
theorem without_last {l : List Int} {id : Int} (h : l.count id = 0) : without (l ++ [id]) id = l := by
 have : without (l ++ [id]) id = without l id := by simp [without]
 rw [this, without_self h]
/-- What is in no place but in the library is drawn when it moves. -/
theorem move_mid {b : Bd} (h : validBd b = true) {p : Int} (hp : p = 0 ∨ p = 1) {l : List Int} {id : Int} (hl : (seatOf b p).lib = l ++ [id]) {k : Nat} {o : Ob} (hk : b.objs[k]? = some o) (hid : o.id = id) (hown : o.owner = p) :
  moveB b k (resetO o 1) 1 = setOb (midB b p id) k (resetO o 1) := by
 obtain ⟨hpl, hfi, _, _⟩ := valid_parts h
 have hn := placed_nodup hpl
 have hc := List.nodup_iff_count.1 hn id
 obtain ⟨f1, f2⟩ := fights_ids hfi
 have hst : ∀ c : Nat, ((cardsOn b.stack).map (·.id)).count id = 0 → (b.stack.filter fun x => !isOn id x) = b.stack := by
  intro _ h0
  rw [List.filter_eq_self]
  intro x hx
  have hni := List.count_eq_zero.1 h0
  simp only [isOn, Bool.not_eq_true', Bool.and_eq_false_iff, decide_eq_false_iff_not, beq_eq_false_iff_ne, ne_eq]
  by_cases ht : x.trig < 0
  ·right
   intro e
   exact hni (List.mem_map.2 ⟨x, by simp [cardsOn, hx, ht], e⟩)
  ·exact .inl ht
 have hfight : b.s0.field.count id = 0 → b.s1.field.count id = 0 → without b.att id = b.att ∧ (b.blocks.filter fun x => !inFight id x) = b.blocks := by
  intro a0 a1
  have n0 := List.count_eq_zero.1 a0
  have n1 := List.count_eq_zero.1 a1
  constructor
  ·apply without_self
   apply List.count_eq_zero.2
   intro hm
   rcases f1 id hm with h | h
   ·exact n0 h
   ·exact n1 h
  ·rw [List.filter_eq_self]
   intro x hx
   obtain ⟨g1, g2⟩ := f2 x hx
   simp only [inFight, Bool.not_eq_true', Bool.or_eq_false_iff, beq_eq_false_iff_ne, ne_eq]
   constructor
   ·rintro rfl
    rcases g2 with h | h
    ·exact n0 h
    ·exact n1 h
   ·rintro rfl
    rcases g1 with h | h
    ·exact n0 h
    ·exact n1 h
 have r1 : (resetO o 1).id = id := hid
 have r2 : (resetO o 1).owner = p := hown
 rw [moveB, r1, r2]
 rcases hp with rfl | rfl
 ·have hl' : b.s0.lib = l ++ [id] := hl
  simp only [idsB, idsS, hl', List.count_append, List.count_singleton_self] at hc
  obtain ⟨q1, q2⟩ := hfight (by omega) (by omega)
  have q3 := hst 0 (by omega)
  simp only [putB, withSeat, seatOf, if_true, setOb, outB, outS, putZ, midB, midS, hl', q1, q2, q3]
  rw [without_last (by omega), without_self (by omega), without_self (by omega), without_self (by omega), without_self (by omega), without_self (by omega), without_self (by omega), without_self (by omega), List.dropLast_concat]
  simp
 ·have hl' : b.s1.lib = l ++ [id] := hl
  simp only [idsB, idsS, hl', List.count_append, List.count_singleton_self] at hc
  obtain ⟨q1, q2⟩ := hfight (by omega) (by omega)
  have q3 := hst 0 (by omega)
  have ne : ¬ (1 : Int) = 0 := by omega
  simp only [putB, withSeat, seatOf, ne, if_false, setOb, outB, outS, putZ, midB, midS, hl', q1, q2, q3]
  rw [without_last (by omega), without_self (by omega), without_self (by omega), without_self (by omega), without_self (by omega), without_self (by omega), without_self (by omega), without_self (by omega), List.dropLast_concat]
  simp
end Go.Proofs.YtjaegdkkiefchaaGreatDoor
namespace Go.Proofs.YtjaegdkkiefchaaGreatDoor
open Go Go.Sx
set_option maxRecDepth 100000
set_option maxHeartbeats 1000000
/-- A call that leaves what is owned as it is, and hands back a value of which S holds. -/
theorem call_givesO {P : Program} {f : FuncId} {args : List Value} {H : Heap} {O : Own} {S : Value → Heap → Prop} {d : Bool} {shp : Shp} {K : List Value → List (List Value) → Heap → Own → Prop}
  (h : Triple P f args H O fun v H' O' => S v H' ∧ O' = O) (hk : ∀ v H', S v H' → Heap.le H H' → ∃ vs, shp.open v = some vs ∧ Ones vs ∧ K vs [] H' O) :
  CallD (fun H1 O1 R => Triple P f args H1 O1 R) d [] [] shp K H O := by
 intro _
 refine ⟨H, O, [], fun v H' O' => S v H' ∧ O' = O, ?_, h, ?_⟩
 ·cases d
  ·show Ghost H O H (O ++ [])
   rw [List.append_nil]; exact Ghost.refl _ _
  ·exact ⟨rfl, .inr ⟨rfl, rfl, rfl, fun v H' O' h => h.2⟩⟩
 ·rintro v H' O' ⟨hs, rfl⟩ hle
  obtain ⟨vs, h1, h2, h3⟩ := hk v H' hs hle
  exact ⟨vs, [], O', h1, h2, trivial, rfl, by rw [List.append_nil]; exact h3⟩
abbrev i64 (n : Int) : Prop := -9223372036854775808 ≤ n ∧ n ≤ 9223372036854775807
theorem ob_ones (o : Ob) : Ones o.row := ⟨rfl, rfl, rfl, rfl, rfl, rfl, rfl, rfl, rfl, rfl, rfl, rfl, trivial⟩
theorem c_index_1 (o : Ob) (id : Int) (H : Heap) (O : Own) : RetO PP F_board_index_1 [.agg o.row.toArray, iV id] H O (iV (IntKind.i64.wrap (o.id - id))) := by
 refine run_board_index_1 (vs := o.row ++ [iV id]) (by kernel_rfl) (ones_app (ob_ones o) ⟨rfl, trivial⟩) ?_
 simp only [T_board_index_1]
 exact newbox_den fun r0 => chkN_den (pure_den _ rfl (ret_denO ⟨rfl, rfl⟩))
theorem wrap_zero {a id : Int} (h : i64 id) (ha : 1 ≤ a) (hb : a ≤ 500) : (IntKind.i64.wrap (a - id) == 0) = (a == id) := by
 rw [Bool.eq_iff_iff]
 simp only [beq_iff_eq, IntKind.wrap, IntKind.bits, IntKind.signed]
 simp
 omega
theorem wrap_small {a id : Int} (ha : 1 ≤ a) (hb : a ≤ 500) (h1 : 1 ≤ id) (h2 : id ≤ 500) : IntKind.i64.wrap (a - id) = a - id := wrap_id (by omega) (by omega)
theorem ord_lt : ∀ {l : List Ob} {prev : Option Int}, ordP prev l = true → ∀ {j k : Nat} {x y : Ob}, j < k → l[j]? = some x → l[k]? = some y → x.id < y.id
 | [], _, _, j, k, x, y, _, h, _ => by simp at h
 | a :: l, prev, h, j, k, x, y, hjk, hx, hy => by
  simp only [ordP, Bool.and_eq_true] at h
  cases k with
  | zero => omega
  | succ k =>
   cases j with
   | zero =>
    simp at hx; subst hx
    have hm : y ∈ l := List.mem_of_getElem? (by simpa using hy)
    exact (ordP_spec h.2).1 y hm _ rfl
   | succ j => exact ord_lt h.2 (j := j) (k := k) (by omega) (by simpa using hx) (by simpa using hy)
theorem add_nat' {i n : Nat} (h : i + n < 2 ^ 63) : evalPure (.bin .add .int) [iV (i : Int), iV (n : Int)] = some (iV ((i + n : Nat) : Int)) := add_nat h
theorem conv_u {n : Nat} (h : n < 2 ^ 63) : evalPure (.conv .u64) [iV (n : Int)] = some (.int .u64 (n : Int)) := by
 simp only [evalPure, IntKind.wrap, IntKind.bits, IntKind.signed]
 simp
 omega
theorem conv_i {n : Nat} (h : n < 2 ^ 63) : evalPure (.conv .i64) [.int .u64 (n : Int)] = some (iV (n : Int)) := by
 simp only [evalPure]
 rw [wrap_id (by omega) (by omega)]
theorem shr_one {n : Nat} (h : n < 2 ^ 63) : evalPure (.bin .shr .int) [.int .u64 (n : Int), .int .u64 1] = some (.int .u64 ((n / 2 : Nat) : Int)) := by
 simp only [evalPure, evalBin, evalShift]
 simp [IntKind.bits]
 rw [Int.fdiv_eq_ediv_of_nonneg]
 all_goals omega
/-- The search: it finds what is there, where the list is in order. -/
theorem c_BinarySearch {H : Heap} {O : Own} {v : Value} {l : List Ob} (h : RSl H O 12 v (l.map Ob.row)) {id : Int} (hid : i64 id) (hv : ∀ o ∈ l, 1 ≤ o.id ∧ o.id ≤ 500) (ho : ordP none l = true) (hlen : l.length ≤ 1000000) :
  Triple PP F_slices_BinarySearchFunc_api_Object_api_Object_int [v, iV id, .func (.func F_board_index_1) #[] #[]] H O fun r _ O' => (∃ (i : Nat) (f : Bool), r = .tuple #[iV i, .bool f] ∧ (f = true → ∃ o, l[i]? = some o ∧ o.id = id) ∧ (f = false → ∀ o ∈ l, o.id ≠ id)) ∧ O' = O := by
 refine run_slices_BinarySearchFunc_api_Object_api_Object_int (vs := [v, iV id, .func (.func F_board_index_1) #[] #[]]) (by kernel_rfl) ⟨h.one, rfl, rfl, trivial⟩ ?_
 simp only [T_slices_BinarySearchFunc_api_Object_api_Object_int]
 have hl := h.len
 have hB := h.lenB
 rw [List.length_map] at hl hB
 refine pure_den _ hl ?_
 refine loop_den (fun vs H' O' => ∃ i j : Nat, vs = [iV i, iV j] ∧ i ≤ j ∧ j ≤ l.length ∧ O' = O ∧ Heap.le H H' ∧ (1 ≤ id → id ≤ 500 → (∀ (k : Nat) (o : Ob), k < i → l[k]? = some o → o.id < id) ∧ ∀ (k : Nat) (o : Ob), j ≤ k → l[k]? = some o → id ≤ o.id))
  (fun vs _ _ => match g vs 0, g vs 1 with | .int _ a, .int _ b => (b - a).toNat | _, _ => 0) ⟨0, l.length, rfl, Nat.zero_le _, Nat.le_refl _, rfl, Heap.le_refl _, fun _ _ => ⟨fun k o hk => absurd hk (Nat.not_lt_zero k), fun k o hk e => by
   have := (List.getElem?_eq_some_iff.1 e).1; omega⟩⟩ ?_
 rintro vs H' O' - - - ⟨i, j, rfl, hij, hj, rfl, hle, hinv⟩
 refine pure_den _ (lss_eq _ _) (br_den (fun hb => ?_) (fun hb => ?_))
 ·have hlt : i < j := by simpa using hb
  have hm : (i + j) / 2 < l.length := by omega
  obtain ⟨a, h1, h2, _, h3, h4⟩ := (h.le hle).idx .i64 ((i + j) / 2) (Ob.row l[(i + j) / 2]) (by simp [hm])
  refine pure_den _ (add_nat' (by omega)) (pure_den _ (conv_u (by omega)) (pure_den _ (shr_one (by omega)) (pure_den _ (conv_i (by omega)) (pure_den _ h1 (load_denR h2 h3 h4 ?_)))))
  refine callv_den rfl (okFn_of okL_ok (by decide)) (c_index_1 l[(i + j) / 2] id H' O') rfl ⟨rfl, trivial⟩ fun H2 l2 => pure_den _ (lss_eq _ _) (br_den (fun hc => ?_) (fun hc => ?_))
  ·refine pure_den _ (add_one (by omega)) (cont_den (by simp [Eqs]) ⟨(i + j) / 2 + 1, j, rfl, by omega, hj, rfl, Heap.le_trans hle l2, fun a1 a2 => ⟨fun k o hk e => ?_, (hinv a1 a2).2⟩⟩ ?_)
   ·have hc := of_decide_eq_true hc
    have hm1 := hv _ (List.getElem_mem hm)
    rw [wrap_small hm1.1 hm1.2 a1 a2] at hc
    rcases Nat.lt_or_ge k ((i + j) / 2) with hk2 | hk2
    ·have := ord_lt ho hk2 e (List.getElem?_eq_getElem hm); omega
    ·have : k = (i + j) / 2 := by omega
     subst this
     rw [List.getElem?_eq_getElem hm] at e
     obtain rfl := Option.some.inj e
     omega
   ·show (((j : Int) - (((i + j) / 2 + 1 : Nat) : Int)).toNat) < ((j : Int) - (i : Int)).toNat
    omega
  ·refine cont_den (by simp [Eqs]) ⟨i, (i + j) / 2, rfl, by omega, by omega, rfl, Heap.le_trans hle l2, fun a1 a2 => ⟨(hinv a1 a2).1, fun k o hk e => ?_⟩⟩ ?_
   ·have hc := of_decide_eq_false hc
    have hm1 := hv _ (List.getElem_mem hm)
    rw [wrap_small hm1.1 hm1.2 a1 a2] at hc
    rcases Nat.lt_or_ge ((i + j) / 2) k with hk2 | hk2
    ·have := ord_lt ho hk2 (List.getElem?_eq_getElem hm) e; omega
    ·have : k = (i + j) / 2 := by omega
     subst this
     rw [List.getElem?_eq_getElem hm] at e
     obtain rfl := Option.some.inj e
     omega
   ·show (((((i + j) / 2 : Nat) : Int) - (i : Int)).toNat) < ((j : Int) - (i : Int)).toNat
    omega
 ·have hie : i = j := by
   have : ¬ ((i : Int) < (j : Int)) := of_decide_eq_false hb
   omega
  subst hie
  refine pure_den _ (lss_eq _ _) (br_den (fun hb => ?_) (fun hb => ?_))
  ·have hlt : i < l.length := by simpa using hb
   obtain ⟨a, h1, h2, _, h3, h4⟩ := (h.le hle).idx .i64 i (Ob.row l[i]) (by simp [hlt])
   have hm1 := hv _ (List.getElem_mem hlt)
   refine pure_den _ h1 (load_denR h2 h3 h4 (callv_den rfl (okFn_of okL_ok (by decide)) (c_index_1 l[i] id H' O') rfl ⟨rfl, trivial⟩ fun H2 l2 => pure_den _ (eql_eq _ _) (ret_denO ⟨⟨i, (IntKind.i64.wrap (l[i].id - id) == 0), rfl, fun hc => ?_, fun hc => ?_⟩, rfl⟩)))
   ·rw [wrap_zero hid hm1.1 hm1.2] at hc
    exact ⟨l[i], List.getElem?_eq_getElem hlt, by simpa using hc⟩
   ·rw [wrap_zero hid hm1.1 hm1.2] at hc
    have hne : l[i].id ≠ id := by simpa using hc
    intro o hmem e
    have hob := hv o hmem
    obtain ⟨i1, i2⟩ := hinv (by omega) (by omega)
    obtain ⟨k, hk⟩ := List.mem_iff_getElem?.1 hmem
    rcases Nat.lt_trichotomy k i with hki | hki | hki
    ·have := i1 k o hki hk; omega
    ·subst hki
     rw [List.getElem?_eq_getElem hlt] at hk
     obtain rfl := Option.some.inj hk
     exact hne e
    ·have := ord_lt ho hki (List.getElem?_eq_getElem hlt) hk
     have := i2 i l[i] (Nat.le_refl _) (List.getElem?_eq_getElem hlt)
     omega
  ·have hge : l.length ≤ i := by simpa using hb
   refine ret_denO ⟨⟨i, false, rfl, fun hc => (by cases hc), fun _ o hmem e => ?_⟩, rfl⟩
   have hob := hv o hmem
   obtain ⟨i1, _⟩ := hinv (by omega) (by omega)
   obtain ⟨k, hk⟩ := List.mem_iff_getElem?.1 hmem
   have := i1 k o (by have := (List.getElem?_eq_some_iff.1 hk).1; omega) hk
   omega
theorem valid_ids {b : Bd} (h : validBd b = true) : (∀ o ∈ b.objs, 1 ≤ o.id ∧ o.id ≤ 500) ∧ ordP none b.objs = true := by
 obtain ⟨p1, p2, _⟩ := placed_objs (valid_parts h).1
 refine ⟨fun o ho => ?_, p1⟩
 have := List.all_eq_true.1 p2 o ho
 simp only [ok1, Bool.and_eq_true] at this
 exact validO_id this.1
theorem valid_len {b : Bd} (h : validBd b = true) : b.objs.length ≤ 1000000 := by
 simp only [validBd, midBad, Bool.and_eq_true, Bool.not_eq_true', Bool.or_eq_false_iff, decide_eq_false_iff_not] at h
 have := h.2.2.2.2.1.1.1.2
 omega
theorem idxO_none {b : Bd} {id : Int} (h : ∀ o ∈ b.objs, o.id ≠ id) : idxO b id = -1 := by
 rcases idxP_spec (fun o : Ob => o.id == id) b.objs 0 (by omega) with ⟨e, _⟩ | ⟨k, o, e1, e2, _⟩
 ·exact e
 ·exact absurd (by simpa using e2) (h o (List.mem_of_getElem? e1))
theorem idxO_some {b : Bd} {id : Int} (h : ¬ idxO b id < 0) : ∃ (k : Nat) (o : Ob), b.objs[k]? = some o ∧ o.id = id ∧ idxO b id = k := by
 rcases idxP_spec (fun o : Ob => o.id == id) b.objs 0 (by omega) with ⟨e, _⟩ | ⟨k, o, e1, e2, e3⟩
 ·exact absurd (show idxO b id < 0 by rw [idxO, e]; omega) h
 ·exact ⟨k, o, e1, by simpa using e2, by rw [idxO, e3]; omega⟩
/-- The index and the error. -/
def indexE (b : Bd) (id : Int) : Int := if validBd b = true then (if idxO b id < 0 then 9 else 0) else 2
def indexI (b : Bd) (id : Int) : Int := if validBd b = true then (if idxO b id < 0 then 0 else idxO b id) else 0
theorem c_index {H : Heap} {O : Own} {v : BV12} {b : Bd} (h : BdR H O v b) {id : Int} (hid : i64 id) : RetO PP F_board_index [.agg (boardC v b).toArray, iV id] H O (.tuple #[iV (indexI b id), iV (indexE b id)]) := by
 refine run_board_index (vs := boardC v b ++ [iV id]) (by kernel_rfl) (ones_app (boardC_ones h) ⟨rfl, trivial⟩) ?_
 simp only [T_board_index]
 refine newbox_den fun r0 => chkN_den (call_retO (c_board_Valid h) rfl ⟨rfl, trivial⟩ fun H1 l1 => pure_den _ (not_eq' _) (br_den (fun hb => ret_denO ⟨?_, rfl⟩) (fun hb => chkN_den ?_)))
 ·have hf : validBd b = false := notT hb
  simp [indexI, indexE, hf]
 have ht : validBd b = true := notF hb
 obtain ⟨hv, ho⟩ := valid_ids ht
 refine call_givesO (c_BinarySearch (h.le l1).objs hid hv ho (valid_len ht)) ?_
 rintro _ H2 ⟨i, f, rfl, f1, f2⟩ l2
 refine ⟨[iV i, .bool f], rfl, ⟨rfl, rfl, trivial⟩, pure_den _ (not_eq' _) (br_den (fun hb => ret_denO ⟨?_, rfl⟩) (fun hb => ret_denO ⟨?_, rfl⟩))⟩
 ·have hf : f = false := notT hb
  have := idxO_none (f2 hf)
  simp [indexI, indexE, ht, this]
 ·have hf : f = true := notF hb
  obtain ⟨o, e1, rfl⟩ := f1 hf
  have := idxO_at (ordP_spec ho).2 e1
  have hn : ¬ ((i : Int) < 0) := by omega
  simp only [indexI, indexE, ht, this, hn, if_true, if_false]
  rfl
end Go.Proofs.YtjaegdkkiefchaaGreatDoor
namespace Go.Sx
open Go
theorem Cons.ghost {H H' : Heap} {O O' : Own} (h : Cons H O) (g : Ghost H O H' O') : Cons H' O' := by
 obtain ⟨w, F, hm⟩ := h
 exact ⟨w, F, (g w F hm).1⟩
theorem Cons.perm {H : Heap} {O O' : Own} (h : Cons H O) (hp : O.Perm O') : Cons H O' := h.ghost (Ghost.perm hp)
theorem Triple.ghost {P : Program} {f : FuncId} {args : List Value} {H : Heap} {O : Own} {Q Q' : Value → Heap → Own → Prop} (h : Triple P f args H O Q)
  (hq : ∀ v H' O', Heap.le H H' → Cons H' O' → Q v H' O' → ∃ H'' O'', Ghost H' O' H'' O'' ∧ Q' v H'' O'') : Triple P f args H O Q' :=
 fun w F hm => (h w F hm).mono fun _ w' ⟨v, H', O', he, q, hle, hm'⟩ =>
  let ⟨H'', O'', g, q'⟩ := hq v H' O' hle ⟨w', F, hm'⟩ q
  ⟨v, H'', O'', he, q', Heap.le_trans hle (g _ _ hm').2, (g _ _ hm').1⟩
theorem its_freeze {te : TypeId} : ∀ (l : List It) (rows : List (List Value)) (Ts : List Own) (H : Heap) (X : Own), rows.length = l.length → Ts.length = l.length →
  (∀ (i : Nat) (r : List Value) (x : It) (T : Own), rows[i]? = some r → l[i]? = some x → Ts[i]? = some T → ∃ s, r = [iV x.player, iV x.id, iV x.card, iV x.trig, s] ∧ OSl te 2 s (x.tgs.map Tg.row) T) →
  Cons H (List.flatten Ts ++ X) → ∃ H', Ghost H (List.flatten Ts ++ X) H' X ∧ Heap.le H H' ∧
   ∀ (i : Nat) (r : List Value) (x : It), rows[i]? = some r → l[i]? = some x → ∃ s, r = [iV x.player, iV x.id, iV x.card, iV x.trig, s] ∧ Sl H' 2 s (x.tgs.map Tg.row)
 | [], [], [], H, X, _, _, _, _ => ⟨H, Ghost.refl _ _, Heap.le_refl _, fun i r x h => by simp at h⟩
 | x :: l, r :: rows, T :: Ts, H, X, h1, h2, hs, hc => by
  obtain ⟨s, e, hT⟩ := hs 0 r x T rfl rfl rfl
  rw [List.flatten_cons, List.append_assoc] at hc
  obtain ⟨H1, g1, k1, l1⟩ := hT.freeze hc
  obtain ⟨H2, g2, l2, k2⟩ := its_freeze l rows Ts H1 X (by simpa using h1) (by simpa using h2) (fun i r x T a b c => hs (i + 1) r x T (by simpa using a) (by simpa using b) (by simpa using c)) (hc.ghost g1)
  refine ⟨H2, ?_, Heap.le_trans l1 l2, fun i r' x' a b => ?_⟩
  ·rw [List.flatten_cons, List.append_assoc]; exact g1.trans g2
  ·cases i with
   | zero => simp at a b; subst a; subst b; exact ⟨s, e, k1.le l2⟩
   | succ i => exact k2 i r' x' (by simpa using a) (by simpa using b)
 | [], _ :: _, _, _, _, h, _, _, _ => by simp at h
 | _ :: _, [], _, _, _, h, _, _, _ => by simp at h
 | [], [], _ :: _, _, _, _, h, _, _ => by simp at h
 | _ :: _, _ :: _, [], _, _, _, h, _, _ => by simp at h
theorem OIts.freeze {te ti : TypeId} {v : Value} {l : List It} {O1 X : Own} {H : Heap} (h : OIts te ti v l O1) (hc : Cons H (O1 ++ X)) : ∃ H', Ghost H (O1 ++ X) H' X ∧ ItsS H' v l ∧ Heap.le H H' := by
 obtain ⟨rows, A, Ts, hp, h1, h2, h3, h4⟩ := h
 have hp' : (O1 ++ X).Perm (A ++ (List.flatten Ts ++ X)) := (hp.append_right X).trans (List.Perm.of_eq (List.append_assoc _ _ _))
 obtain ⟨H1, g1, k1, l1⟩ := h1.freeze (hc.perm hp')
 obtain ⟨H2, g2, l2, k2⟩ := its_freeze l rows Ts H1 X h2 h3 h4 ((hc.perm hp').ghost g1)
 exact ⟨H2, (Ghost.perm hp').trans (g1.trans g2), ⟨rows, k1.le l2, h2, k2⟩, Heap.le_trans l1 l2⟩
theorem OwnB.freeze {t : Tys} {w : BV12} {b : Bd} {O X : Own} {H : Heap} (h : OwnB t w b O) (hc : Cons H (O ++ X)) : ∃ H', Ghost H (O ++ X) H' X ∧ BdS H' w b ∧ Heap.le H H' := by
 obtain ⟨Oo, A0, B0, C0, D0, A1, B1, C1, D1, Os, Oq, Oa, Obk, hp, h⟩ := h
 have hp' : (O ++ X).Perm (Oo ++ (A0 ++ (B0 ++ (C0 ++ (D0 ++ (A1 ++ (B1 ++ (C1 ++ (D1 ++ (Os ++ (Oq ++ (Oa ++ (Obk ++ X))))))))))))) := by
  refine (hp.append_right X).trans (List.Perm.of_eq ?_)
  simp only [List.append_assoc]
 replace hc := hc.perm hp'
 obtain ⟨H1, g1, k1, l1⟩ := h.objs.freeze hc
 replace hc := hc.ghost g1
 obtain ⟨H2, g2, k2, l2⟩ := h.l0.freeze hc
 replace hc := hc.ghost g2
 obtain ⟨H3, g3, k3, l3⟩ := h.h0.freeze hc
 replace hc := hc.ghost g3
 obtain ⟨H4, g4, k4, l4⟩ := h.f0.freeze hc
 replace hc := hc.ghost g4
 obtain ⟨H5, g5, k5, l5⟩ := h.g0.freeze hc
 replace hc := hc.ghost g5
 obtain ⟨H6, g6, k6, l6⟩ := h.l1.freeze hc
 replace hc := hc.ghost g6
 obtain ⟨H7, g7, k7, l7⟩ := h.h1.freeze hc
 replace hc := hc.ghost g7
 obtain ⟨H8, g8, k8, l8⟩ := h.f1.freeze hc
 replace hc := hc.ghost g8
 obtain ⟨H9, g9, k9, l9⟩ := h.g1.freeze hc
 replace hc := hc.ghost g9
 obtain ⟨H10, g10, k10, l10⟩ := h.stack.freeze hc
 replace hc := hc.ghost g10
 obtain ⟨H11, g11, k11, l11⟩ := h.queue.freeze hc
 replace hc := hc.ghost g11
 obtain ⟨H12, g12, k12, l12⟩ := h.att.freeze hc
 replace hc := hc.ghost g12
 obtain ⟨H13, g13, k13, l13⟩ := h.blocks.freeze hc
 have m12 := l13
 have m11 := Heap.le_trans l12 m12
 have m10 := Heap.le_trans l11 m11
 have m9 := Heap.le_trans l10 m10
 have m8 := Heap.le_trans l9 m9
 have m7 := Heap.le_trans l8 m8
 have m6 := Heap.le_trans l7 m7
 have m5 := Heap.le_trans l6 m6
 have m4 := Heap.le_trans l5 m5
 have m3 := Heap.le_trans l4 m4
 have m2 := Heap.le_trans l3 m3
 have m1 := Heap.le_trans l2 m2
 exact ⟨H13, (Ghost.perm hp').trans (g1.trans (g2.trans (g3.trans (g4.trans (g5.trans (g6.trans (g7.trans (g8.trans (g9.trans (g10.trans (g11.trans (g12.trans g13)))))))))))),
  ⟨k1.le m1, ⟨k2.le m2, k3.le m3, k4.le m4, k5.le m5⟩, ⟨k6.le m6, k7.le m7, k8.le m8, k9.le m9⟩, k10.le m10, k11.le m11, k12.le m12, k13⟩, Heap.le_trans l1 m1⟩
/-- What is handed back is frozen at once. -/
theorem Triple.frozen {P : Program} {f : FuncId} {args : List Value} {H : Heap} {t : Tys} {b : Bd} (h : Triple P f args H [] fun r _ O' => ∃ w, r = .agg (boardC w b).toArray ∧ OwnB t w b O') :
  Triple P f args H [] fun r H' O' => (∃ w, r = .agg (boardC w b).toArray ∧ BdS H' w b) ∧ O' = [] := by
 refine h.ghost ?_
 rintro v H' O' _ hc ⟨w, rfl, ho⟩
 obtain ⟨H'', g, k, _⟩ := ho.freeze (X := []) (by simpa using hc)
 exact ⟨H'', [], by simpa using g, ⟨w, rfl, k⟩, rfl⟩
end Go.Sx
namespace Go.Proofs.YtjaegdkkiefchaaGreatDoor
open Go Go.Sx
set_option maxRecDepth 100000
set_option maxHeartbeats 1000000
def zO : Ob := ⟨0, 0, 0, 0, 0, 0, 0, 0, 0, false, false, false⟩
theorem indexE_ok {b : Bd} {id : Int} (h : (indexE b id != 0) = false) : validBd b = true ∧ ∃ (k : Nat) (o : Ob), b.objs[k]? = some o ∧ o.id = id ∧ idxO b id = k ∧ indexI b id = k := by
 unfold indexE at h
 by_cases hv : validBd b = true
 ·rw [if_pos hv] at h
  by_cases hi : idxO b id < 0
  ·rw [if_pos hi] at h; simp at h
  ·obtain ⟨k, o, e1, e2, e3⟩ := idxO_some hi
   exact ⟨hv, k, o, e1, e2, e3, by rw [indexI, if_pos hv, if_neg hi, e3]⟩
 ·rw [if_neg hv] at h; simp at h
/-- The object with an id. -/
def findO (b : Bd) (id : Int) : Ob := if indexE b id != 0 then zO else b.objs.getD (idxO b id).toNat zO
theorem findO_eq {b : Bd} {id : Int} (h : (indexE b id != 0) = false) {k : Nat} {o : Ob} (e : b.objs[k]? = some o) (hi : idxO b id = k) : findO b id = o := by
 simp [findO, h, hi, e]
/-- A board's part is stored. -/
theorem OwnB.store_ob {t : Tys} {w : BV12} {b : Bd} {O X O' : Own} (h : OwnB t w b O) (hO : O'.Perm (O ++ X)) {k : Nat} {o : Ob} (hk : b.objs[k]? = some o) (o' : Ob) :
  ∃ a, evalPure (.idx 12) [w.o, iV k] = some (.pointer (some a)) ∧ ∃ O1, OwnStore O' (.pointer (some a)) o'.row O1 ∧ ∃ O2, O1.Perm (O2 ++ X) ∧ OwnB t w (setOb b k o') O2 := by
 obtain ⟨Oo, A0, B0, C0, D0, A1, B1, C1, D1, Os, Oq, Oa, Obk, hp, h⟩ := h
 have hp' : O'.Perm (Oo ++ ((A0 ++ (B0 ++ (C0 ++ (D0 ++ (A1 ++ (B1 ++ (C1 ++ (D1 ++ (Os ++ (Oq ++ (Oa ++ Obk))))))))))) ++ X)) := by
  refine hO.trans ((hp.append_right X).trans (List.Perm.of_eq ?_))
  simp only [List.append_assoc]
 obtain ⟨a, k1, k2⟩ := h.objs.store hp' (k := .i64) (i := k) (row := o.row) (by rw [List.getElem?_map, hk]; rfl)
 obtain ⟨O1', s1, s2⟩ := k2 0 o'.row (by simp [Ob.row]) (ob_ones o')
 rw [ptr0] at s1
 refine ⟨a, k1, _, s1, O1' ++ (A0 ++ (B0 ++ (C0 ++ (D0 ++ (A1 ++ (B1 ++ (C1 ++ (D1 ++ (Os ++ (Oq ++ (Oa ++ Obk))))))))))), List.Perm.of_eq (by simp only [List.append_assoc]), O1', A0, B0, C0, D0, A1, B1, C1, D1, Os, Oq, Oa, Obk, List.Perm.refl _, ?_⟩
 have e : (b.objs.map Ob.row).set k (splice o.row 0 o'.row) = (setOb b k o').objs.map Ob.row := by
  have : splice o.row 0 o'.row = o'.row := by simp [splice, Ob.row]
  rw [this, setOb, List.map_set]
 rw [e] at s2
 exact ⟨s2, h.l0, h.h0, h.f0, h.g0, h.l1, h.h1, h.f1, h.g1, h.stack, h.queue, h.att, h.blocks⟩
theorem OwnB.perm {t : Tys} {w : BV12} {b : Bd} {O O' : Own} (h : OwnB t w b O) (hp : O'.Perm O) : OwnB t w b O' :=
 let ⟨Oo, A0, B0, C0, D0, A1, B1, C1, D1, Os, Oq, Oa, Obk, hq, h⟩ := h
 ⟨Oo, A0, B0, C0, D0, A1, B1, C1, D1, Os, Oq, Oa, Obk, hp.trans hq, h⟩
theorem OwnB.zero (t : Tys) : OwnB t nilV zBd [] :=
 ⟨[], [], [], [], [], [], [], [], [], [], [], [], [], List.Perm.refl _, OSl.nil _ _, OSl.nil _ _, OSl.nil _ _, OSl.nil _ _, OSl.nil _ _, OSl.nil _ _, OSl.nil _ _, OSl.nil _ _, OSl.nil _ _,
  ⟨[], [], [], List.Perm.refl _, OSl.nil _ _, rfl, rfl, fun i r x T h => by simp at h⟩, ⟨[], [], [], List.Perm.refl _, OSl.nil _ _, rfl, rfl, fun i r x T h => by simp at h⟩, OSl.nil _ _, OSl.nil _ _⟩
def onR (id : Int) (x : It) : Bool := (x.trig == -1) && x.id == id
end Go.Proofs.YtjaegdkkiefchaaGreatDoor
namespace Go.Sx
open Go
theorem ret_permD {P : Program} {v : Value} {H : Heap} {O O' : Own} {Q : Value → Heap → Own → Prop} (hp : O.Perm O') (h : Q v H O') : (Tree.ret v []).den P Q H O := fun _ => ⟨H, O', Ghost.perm (by simpa using hp), h⟩
theorem RetO.frame {P : Program} {f : FuncId} {args : List Value} {H : Heap} {O : Own} {r : Value} (h : RetO P f args H O r) (X : Own) : RetO P f args H (O ++ X) r :=
 (Triple.frame h X).mono fun _ _ _ _ ⟨O'', e, e1, e2⟩ => ⟨e1, by rw [e, e2]⟩
theorem RetO.perm {P : Program} {f : FuncId} {args : List Value} {H : Heap} {O O' : Own} {r : Value} (h : RetO P f args H O r) (hp : O.Perm O') : RetO P f args H O' r :=
 fun w F hm => (h w F (hm.perm (hp.symm.append_right F))).mono fun _ _ ⟨v, H', O1, he, ⟨q1, q2⟩, hle, hm'⟩ => ⟨v, H', O', he, ⟨q1, rfl⟩, hle, hm'.perm (by rw [q2]; exact hp.append_right F)⟩
theorem row_eq {r : List Value} {n : Nat} (h : r.length = n) : (List.range n).map (g r) = r := by
 subst h
 refine List.ext_getElem (by simp) fun i h1 h2 => ?_
 simp [g, h2]
theorem splice_all {r ys : List Value} (h : r.length = ys.length) : splice r 0 ys = ys := by simp [splice, h]
theorem chunk {size : Nat} : ∀ (k : Nat) (zs : List Value), zs.length = k * size → Ones zs → ∃ rows : List (List Value), rows.length = k ∧ (∀ r ∈ rows, r.length = size) ∧ (∀ r ∈ rows, Ones r) ∧ rows.flatten = zs
 | 0, zs, h, _ => ⟨[], rfl, by simp, by simp, by
   have : zs = [] := List.eq_nil_of_length_eq_zero (by simpa using h)
   rw [this]; rfl⟩
 | k + 1, zs, h, ho => by
  rw [Nat.add_mul, Nat.one_mul] at h
  obtain ⟨rows, h1, h2, h3, h4⟩ := chunk (size := size) k (zs.drop size) (by rw [List.length_drop]; omega) (ho.drop size)
  refine ⟨zs.take size :: rows, by simp [h1], ?_, ?_, by rw [List.flatten_cons, h4, List.take_append_drop]⟩
  ·intro r hr
   rcases List.mem_cons.1 hr with rfl | hr
   ·rw [List.length_take]; omega
   ·exact h2 r hr
  ·intro r hr
   rcases List.mem_cons.1 hr with rfl | hr
   ·exact ho.take size
   ·exact h3 r hr
theorem zero_ones {z : Array Value} {n : Nat} (h : ∀ v ∈ z.toList, v.oneCell' = true) : ∀ v ∈ (Builtin.zeroCells z n).toList, v.oneCell' = true := by
 intro v hv
 simp only [Builtin.zeroCells, Array.toList_map, List.mem_map, Array.toList_range, List.mem_range] at hv
 obtain ⟨i, hi, rfl⟩ := hv
 have hpos : 0 < z.size := by
  rcases Nat.eq_zero_or_pos z.size with e | e
  ·rw [e] at hi; omega
  ·exact e
 have hlt := Nat.mod_lt i hpos
 rw [getElem!_pos z (i % z.size) hlt]
 exact h _ (by simp)
/-- v[:i] -/
theorem OSl.upto {e : TypeId} {size : Nat} {v : Value} {rows : List (List Value)} {O : Own} (h : OSl e size v rows O) {i : Nat} (hi : i ≤ rows.length) :
  ∃ u, evalPure (.slc size false true false) [v, .int .i64 i] = some u ∧ OSl e size u (rows.take i) O := by
 rcases h with ⟨⟨a, rfl⟩, rfl, rfl⟩ | ⟨r, cs, cap, rfl, rfl, hcl, hlc, hcap, hl, ho, ht⟩
 ·have h0 : i = 0 := by simpa using hi
  subst h0
  refine ⟨.slice a 0 0, ?_, .inl ⟨⟨a, rfl⟩, rfl, rfl⟩⟩
  simp [evalPure, takeArgs, evalSlc, slcBounds, boundOr, boundHi, boundI, asI]
 ·have hb : slcBounds rows.length cap none (some (.int .i64 (i : Int))) none = some (0, i, cap) := by
   have : i ≤ cap := by omega
   simp [slcBounds, boundOr, boundHi, boundI, asI, this]
  refine ⟨.slice (some ⟨r, 0, none⟩) i cap, ?_, .inr ⟨r, cs, cap, ?_, rfl, hcl, ?_, hcap, fun x hx => hl x (List.mem_of_mem_take hx), fun x hx => ho x (List.mem_of_mem_take hx), ?_⟩⟩
  ·simp only [evalPure, takeArgs, evalSlc, hb, Option.map_some]
   simp [Addr.add]
  ·simp [Nat.min_eq_left hi]
  ·rw [List.length_take]; omega
  ·have h1 : (rows.take i).length = i := by rw [List.length_take]; omega
   have h2 := congrArg (fun l => l.take (i * size)) ht
   simp only [List.take_take] at h2
   have h3 : i * size ≤ rows.length * size := Nat.mul_le_mul_right _ hi
   rw [Nat.min_eq_left h3] at h2
   rw [h1, h2]
   have h4 : rows.flatten = (rows.take i).flatten ++ (rows.drop i).flatten := by rw [← List.flatten_append, List.take_append_drop]
   have h5 := flatten_len (rows := rows.take i) (size := size) fun x hx => hl x (List.mem_of_mem_take hx)
   rw [h1] at h5
   rw [h4, ← h5, List.take_left]
/-- clear(v[i:]) -/
theorem call_clear {P : Program} {t ty e : TypeId} {size : Nat} {z : Value} (ht : P.underlying t = some (.slice e)) (hz : ∀ w, (zeroValue e).run P w = .ok z w) (hzs : z.cells.size = size) (hz1 : ∀ v ∈ z.cells.toList, v.oneCell' = true)
  {v : Value} {rows : List (List Value)} {O O1 O2 : Own} (h : OSl e size v rows O1) (hO : O.Perm (O1 ++ O2)) {i : Nat} (hi : i ≤ rows.length) :
  ∃ u, evalPure (.slc size true false false) [v, .int .i64 i] = some u ∧ ∀ (H : Heap) (K : List Value → List (List Value) → Heap → Own → Prop),
   (∀ rows' O1', rows'.take i = rows.take i → rows'.length = rows.length → OSl e size v rows' O1' → K [] [] H (O1' ++ O2)) →
   CallD (fun H1 O1 R => OpTriple P ((PrimOp.bi .clear #[t] ty).sem [u]) H1 O1 R) false [] [] (.tup []) K H O := by
 rcases h with ⟨⟨a, rfl⟩, rfl, rfl⟩ | ⟨r, cs, cap, rfl, rfl, hcl, hlc, hcap, hl, ho, htk⟩
 ·have h0 : i = 0 := by simpa using hi
  subst h0
  refine ⟨.slice a 0 0, ?_, fun H K hk => ?_⟩
  ·simp [evalPure, takeArgs, evalSlc, slcBounds, boundOr, boundHi, boundI, asI]
  ·intro _
   refine ⟨H, [], O2, fun v' H' O' => v' = .tuple #[] ∧ H' = H ∧ O' = [], Ghost.perm (by simpa using hO), fun w F hm => ⟨.tuple #[], w, H, [], ?_, ⟨rfl, rfl, rfl⟩, Heap.le_refl H, by simpa using hm⟩, ?_⟩
   ·have : (Builtin.clear_ #[t] ty #[.slice a 0 0]).run P w = .ok (.tuple #[]) w := by cases a <;> simp [Builtin.clear_, run_underlying ht]
    simp only [PrimOp.sem, builtin, Sem.run_bind]
    rw [this]; rfl
   ·rintro v' H' O' ⟨rfl, rfl, rfl⟩ _
    exact ⟨[], [], [], rfl, trivial, trivial, rfl, hk [] [] rfl rfl (.inl ⟨⟨a, rfl⟩, rfl, rfl⟩)⟩
 ·have hb : slcBounds rows.length cap (some (.int .i64 (i : Int))) none none = some (i, rows.length, cap) := by
   simp [slcBounds, boundOr, boundHi, boundI, asI, hi]
  have hmul : i * size ≤ rows.length * size := Nat.mul_le_mul_right _ hi
  have hmul2 : rows.length * size ≤ cap * size := Nat.mul_le_mul_right _ hlc
  have hsub : (rows.length - i) * size = rows.length * size - i * size := Nat.sub_mul _ _ _
  refine ⟨.slice (some ⟨r, if cap = i then 0 else i * size, none⟩) (rows.length - i) (cap - i), ?_, fun H K hk => ?_⟩
  ·simp only [evalPure, takeArgs, evalSlc, hb, Option.map_some]
   split
   ·rfl
   ·show some (Value.slice (some ((⟨r, 0, none⟩ : Addr).add (i * size))) (rows.length - i) (cap - i)) = _
    rw [add_none, Nat.zero_add]
  ·
   have hzl : (Builtin.zeroCells z.cells (rows.length - i)).toList.length = (rows.length - i) * size := by
    have := size_zeroCells z.cells (rows.length - i)
    rw [Array.length_toList, this, hzs]
   have hz1' := zero_ones (n := rows.length - i) hz1
   obtain ⟨junk, j1, j2, j3, j4⟩ := chunk (rows.length - i) _ hzl (ones_of_iff hz1')
   generalize hoff : (if cap = i then 0 else i * size) = off
   have hfit : off + (rows.length - i) * z.cells.size ≤ cs.length := by
    rw [hzs, hsub, hcl, ← hoff]
    split
    ·rename_i e; subst e; omega
    ·omega
   generalize hcs : cs.take off ++ (Builtin.zeroCells z.cells (rows.length - i)).toList ++ cs.drop (off + (Builtin.zeroCells z.cells (rows.length - i)).toList.length) = cs'
   have hlen' : cs'.length = cs.length := by
    rw [← hcs]
    simp only [List.length_append, List.length_take, List.length_drop, hzl]
    rw [hzs] at hfit
    omega
   intro _
   refine ⟨H, [(r, .cells cs.toArray e (0, 0))], O2, fun v' H' O' => v' = .tuple #[] ∧ H' = H ∧ O' = [(r, .cells cs'.toArray e (0, 0))], Ghost.perm hO, fun w F hm => ?_, ?_⟩
   ·have hrow := (hm.own (r, .cells cs.toArray e (0, 0)) (by simp)).1
    have hrun := run_clear_in (ty := ty) (cap := cap - i) (n := rows.length - i) (off := off) ht hz hrow hfit hz1'
    rw [hcs] at hrun
    refine ⟨.tuple #[], w.setRow r cs'.toArray, H, _, ?_, ⟨rfl, rfl, rfl⟩, Heap.le_refl H, ?_⟩
    ·simp only [PrimOp.sem, builtin, Sem.run_bind]
     rw [hrun]; rfl
    ·exact models_row (vs := cs) (by simpa using hm)
   ·rintro v' H' O' ⟨rfl, rfl, rfl⟩ _
    refine ⟨[], [], _, rfl, trivial, trivial, rfl, ?_⟩
    have hrl : (rows.take i ++ junk).length = rows.length := by rw [List.length_append, List.length_take, j1]; omega
    refine hk (rows.take i ++ junk) _ ?_ hrl (.inr ⟨r, cs', cap, ?_, rfl, by rw [hlen', hcl], by rw [hrl]; exact hlc, hcap, ?_, ?_, ?_⟩)
    ·rw [List.take_append_of_le_length (by rw [List.length_take]; omega), List.take_take, Nat.min_self]
    ·rw [hrl]
    ·intro x hx
     rcases List.mem_append.1 hx with hx | hx
     ·exact hl x (List.mem_of_mem_take hx)
     ·exact j2 x hx
    ·intro x hx
     rcases List.mem_append.1 hx with hx | hx
     ·exact ho x (List.mem_of_mem_take hx)
     ·exact j3 x hx
    ·rw [hrl, List.flatten_append, j4]
     have ht5 : (rows.take i).flatten = cs.take (i * size) := by
      have h5 := flatten_len (rows := rows.take i) (size := size) fun x hx => hl x (List.mem_of_mem_take hx)
      have h1 : (rows.take i).length = i := by rw [List.length_take]; omega
      rw [h1] at h5
      have h4 : rows.flatten = (rows.take i).flatten ++ (rows.drop i).flatten := by rw [← List.flatten_append, List.take_append_drop]
      have h2 := congrArg (fun l => l.take (i * size)) htk
      simp only [List.take_take] at h2
      rw [Nat.min_eq_left hmul, h4, ← h5, List.take_left] at h2
      rw [← h5]; exact h2.symm
     rw [ht5]
     rw [← hcs]
     by_cases hci : cap = i
     ·have hn : rows.length - i = 0 := by omega
      have hz0 : (Builtin.zeroCells z.cells (rows.length - i)).toList = [] := List.eq_nil_of_length_eq_zero (by rw [hzl, hn]; simp)
      have hoff0 : off = 0 := by rw [← hoff, if_pos hci]
      rw [hz0, hoff0]
      have : rows.length = i := by omega
      simp [this]
     ·have hoff0 : off = i * size := by rw [← hoff, if_neg hci]
      rw [hoff0]
      have e1 : (cs.take (i * size) ++ (Builtin.zeroCells z.cells (rows.length - i)).toList).length = rows.length * size := by
       rw [List.length_append, List.length_take, hzl, hsub]; omega
      rw [List.take_append_of_le_length (by omega), ← e1, List.take_length]
/-- A call with own boxes and an own part. -/
theorem call_own2 {P : Program} {f : FuncId} {args : List Value} {H : Heap} {O O1 O2 : Own} {own : List BV} {shp : Shp} {K : List Value → List (List Value) → Heap → Own → Prop} {R : Value → Heap → Own → Prop}
  (hO : O.Perm (O1 ++ O2)) (h : Triple P f args H (own.map BV.obj ++ O1) fun v H' O' => ∃ O3, O' = own.map BV.obj ++ O3 ∧ R v H' O3) (hf : Fits own (own.map (·.vs)))
  (hk : ∀ v H' O3, R v H' O3 → Heap.le H H' → ∃ vs, shp.open v = some vs ∧ Ones vs ∧ K vs (own.map (·.vs)) H' (O3 ++ O2)) :
  CallD (fun H1 O1 R => Triple P f args H1 O1 R) false [] own shp K H O := by
 intro _
 refine ⟨H, O1, O2, _, Ghost.perm hO, h, ?_⟩
 rintro v H' O' ⟨O3, rfl, hr⟩ hle
 obtain ⟨vs, h1, h2, h3⟩ := hk v H' O3 hr hle
 exact ⟨vs, own.map (·.vs), O3, h1, h2, hf, by rw [newCells_self], h3⟩
/-- A call that is handed an own part. -/
theorem call_part {P : Program} {f : FuncId} {args : List Value} {H : Heap} {O O1 O2 : Own} {shp : Shp} {K : List Value → List (List Value) → Heap → Own → Prop} {R : Value → Heap → Own → Prop}
  (hO : O.Perm (O1 ++ O2)) (h : Triple P f args H O1 R) (hk : ∀ v H' O3, R v H' O3 → Heap.le H H' → ∃ vs, shp.open v = some vs ∧ Ones vs ∧ K vs [] H' (O3 ++ O2)) :
  CallD (fun H1 O1 R => Triple P f args H1 O1 R) false [] [] shp K H O := by
 intro _
 refine ⟨H, O1, O2, R, Ghost.perm hO, by simpa using h, ?_⟩
 intro v H' O' hr hle
 obtain ⟨vs, h1, h2, h3⟩ := hk v H' O' hr hle
 exact ⟨vs, [], O', h1, h2, trivial, rfl, h3⟩
end Go.Sx
namespace Go.Proofs.YtjaegdkkiefchaaGreatDoor
open Go Go.Sx
set_option maxRecDepth 100000
set_option maxHeartbeats 1000000
theorem idxP_first {α : Type} (p : α → Bool) : ∀ (l : List α) (i : Int), 0 ≤ i → (idxP p l i = -1 ∧ ∀ x ∈ l, p x = false) ∨ ∃ (k : Nat) (x : α), l[k]? = some x ∧ p x = true ∧ (∀ y ∈ l.take k, p y = false) ∧ idxP p l i = i + k
 | [], i, _ => .inl ⟨rfl, by simp⟩
 | a :: l, i, h => by
  simp only [idxP]
  by_cases hp : p a = true
  ·right; exact ⟨0, a, rfl, hp, by simp, by rw [if_pos hp]; simp⟩
  ·rw [if_neg hp]
   have hp : p a = false := by simpa using hp
   rcases idxP_first p l (i + 1) (by omega) with ⟨h1, h2⟩ | ⟨k, x, h1, h2, h3, h4⟩
   ·left
    refine ⟨h1, fun x hx => ?_⟩
    rcases List.mem_cons.1 hx with rfl | hx
    ·exact hp
    ·exact h2 x hx
   ·right
    refine ⟨k + 1, x, by simpa using h1, h2, fun y hy => ?_, by rw [h4]; omega⟩
    rw [List.take_succ_cons] at hy
    rcases List.mem_cons.1 hy with rfl | hy
    ·exact hp
    ·exact h3 y hy
theorem filter_none {α : Type} {p : α → Bool} {l : List α} (h : ∀ x ∈ l, p x = false) : (l.filter fun x => !p x) = l := by
 rw [List.filter_eq_self]
 intro x hx
 rw [h x hx]; rfl
/-- Part of a board: it may be put in the place of another one. -/
theorem OwnB.pick_l0 {t : Tys} {w : BV12} {b : Bd} {O : Own} (h : OwnB t w b O) : ∃ A R, O.Perm (A ++ R) ∧ OSl t.int 1 w.l0 (ints b.s0.lib) A ∧ ∀ v' l' A', OSl t.int 1 v' (ints l') A' → OwnB t { w with l0 := v' } { b with s0 := { b.s0 with lib := l' } } (A' ++ R) := by
 obtain ⟨Oo, A0, B0, C0, D0, A1, B1, C1, D1, Os, Oq, Oa, Obk, hp, h⟩ := h
 refine ⟨A0, Oo ++ (B0 ++ (C0 ++ (D0 ++ (A1 ++ (B1 ++ (C1 ++ (D1 ++ (Os ++ (Oq ++ (Oa ++ (Obk))))))))))), hp.trans (perm_count fun a _ _ => by simp only [List.count_append] <;> omega), h.l0, fun v' l' A' h' => ⟨Oo, A', B0, C0, D0, A1, B1, C1, D1, Os, Oq, Oa, Obk, perm_count fun a _ _ => by simp only [List.count_append] <;> omega, ⟨h.objs, h', h.h0, h.f0, h.g0, h.l1, h.h1, h.f1, h.g1, h.stack, h.queue, h.att, h.blocks⟩⟩⟩
theorem OwnB.pick_h0 {t : Tys} {w : BV12} {b : Bd} {O : Own} (h : OwnB t w b O) : ∃ A R, O.Perm (A ++ R) ∧ OSl t.int 1 w.h0 (ints b.s0.hand) A ∧ ∀ v' l' A', OSl t.int 1 v' (ints l') A' → OwnB t { w with h0 := v' } { b with s0 := { b.s0 with hand := l' } } (A' ++ R) := by
 obtain ⟨Oo, A0, B0, C0, D0, A1, B1, C1, D1, Os, Oq, Oa, Obk, hp, h⟩ := h
 refine ⟨B0, Oo ++ (A0 ++ (C0 ++ (D0 ++ (A1 ++ (B1 ++ (C1 ++ (D1 ++ (Os ++ (Oq ++ (Oa ++ (Obk))))))))))), hp.trans (perm_count fun a _ _ => by simp only [List.count_append] <;> omega), h.h0, fun v' l' A' h' => ⟨Oo, A0, A', C0, D0, A1, B1, C1, D1, Os, Oq, Oa, Obk, perm_count fun a _ _ => by simp only [List.count_append] <;> omega, ⟨h.objs, h.l0, h', h.f0, h.g0, h.l1, h.h1, h.f1, h.g1, h.stack, h.queue, h.att, h.blocks⟩⟩⟩
theorem OwnB.pick_f0 {t : Tys} {w : BV12} {b : Bd} {O : Own} (h : OwnB t w b O) : ∃ A R, O.Perm (A ++ R) ∧ OSl t.int 1 w.f0 (ints b.s0.field) A ∧ ∀ v' l' A', OSl t.int 1 v' (ints l') A' → OwnB t { w with f0 := v' } { b with s0 := { b.s0 with field := l' } } (A' ++ R) := by
 obtain ⟨Oo, A0, B0, C0, D0, A1, B1, C1, D1, Os, Oq, Oa, Obk, hp, h⟩ := h
 refine ⟨C0, Oo ++ (A0 ++ (B0 ++ (D0 ++ (A1 ++ (B1 ++ (C1 ++ (D1 ++ (Os ++ (Oq ++ (Oa ++ (Obk))))))))))), hp.trans (perm_count fun a _ _ => by simp only [List.count_append] <;> omega), h.f0, fun v' l' A' h' => ⟨Oo, A0, B0, A', D0, A1, B1, C1, D1, Os, Oq, Oa, Obk, perm_count fun a _ _ => by simp only [List.count_append] <;> omega, ⟨h.objs, h.l0, h.h0, h', h.g0, h.l1, h.h1, h.f1, h.g1, h.stack, h.queue, h.att, h.blocks⟩⟩⟩
theorem OwnB.pick_g0 {t : Tys} {w : BV12} {b : Bd} {O : Own} (h : OwnB t w b O) : ∃ A R, O.Perm (A ++ R) ∧ OSl t.int 1 w.g0 (ints b.s0.grave) A ∧ ∀ v' l' A', OSl t.int 1 v' (ints l') A' → OwnB t { w with g0 := v' } { b with s0 := { b.s0 with grave := l' } } (A' ++ R) := by
 obtain ⟨Oo, A0, B0, C0, D0, A1, B1, C1, D1, Os, Oq, Oa, Obk, hp, h⟩ := h
 refine ⟨D0, Oo ++ (A0 ++ (B0 ++ (C0 ++ (A1 ++ (B1 ++ (C1 ++ (D1 ++ (Os ++ (Oq ++ (Oa ++ (Obk))))))))))), hp.trans (perm_count fun a _ _ => by simp only [List.count_append] <;> omega), h.g0, fun v' l' A' h' => ⟨Oo, A0, B0, C0, A', A1, B1, C1, D1, Os, Oq, Oa, Obk, perm_count fun a _ _ => by simp only [List.count_append] <;> omega, ⟨h.objs, h.l0, h.h0, h.f0, h', h.l1, h.h1, h.f1, h.g1, h.stack, h.queue, h.att, h.blocks⟩⟩⟩
theorem OwnB.pick_l1 {t : Tys} {w : BV12} {b : Bd} {O : Own} (h : OwnB t w b O) : ∃ A R, O.Perm (A ++ R) ∧ OSl t.int 1 w.l1 (ints b.s1.lib) A ∧ ∀ v' l' A', OSl t.int 1 v' (ints l') A' → OwnB t { w with l1 := v' } { b with s1 := { b.s1 with lib := l' } } (A' ++ R) := by
 obtain ⟨Oo, A0, B0, C0, D0, A1, B1, C1, D1, Os, Oq, Oa, Obk, hp, h⟩ := h
 refine ⟨A1, Oo ++ (A0 ++ (B0 ++ (C0 ++ (D0 ++ (B1 ++ (C1 ++ (D1 ++ (Os ++ (Oq ++ (Oa ++ (Obk))))))))))), hp.trans (perm_count fun a _ _ => by simp only [List.count_append] <;> omega), h.l1, fun v' l' A' h' => ⟨Oo, A0, B0, C0, D0, A', B1, C1, D1, Os, Oq, Oa, Obk, perm_count fun a _ _ => by simp only [List.count_append] <;> omega, ⟨h.objs, h.l0, h.h0, h.f0, h.g0, h', h.h1, h.f1, h.g1, h.stack, h.queue, h.att, h.blocks⟩⟩⟩
theorem OwnB.pick_h1 {t : Tys} {w : BV12} {b : Bd} {O : Own} (h : OwnB t w b O) : ∃ A R, O.Perm (A ++ R) ∧ OSl t.int 1 w.h1 (ints b.s1.hand) A ∧ ∀ v' l' A', OSl t.int 1 v' (ints l') A' → OwnB t { w with h1 := v' } { b with s1 := { b.s1 with hand := l' } } (A' ++ R) := by
 obtain ⟨Oo, A0, B0, C0, D0, A1, B1, C1, D1, Os, Oq, Oa, Obk, hp, h⟩ := h
 refine ⟨B1, Oo ++ (A0 ++ (B0 ++ (C0 ++ (D0 ++ (A1 ++ (C1 ++ (D1 ++ (Os ++ (Oq ++ (Oa ++ (Obk))))))))))), hp.trans (perm_count fun a _ _ => by simp only [List.count_append] <;> omega), h.h1, fun v' l' A' h' => ⟨Oo, A0, B0, C0, D0, A1, A', C1, D1, Os, Oq, Oa, Obk, perm_count fun a _ _ => by simp only [List.count_append] <;> omega, ⟨h.objs, h.l0, h.h0, h.f0, h.g0, h.l1, h', h.f1, h.g1, h.stack, h.queue, h.att, h.blocks⟩⟩⟩
theorem OwnB.pick_f1 {t : Tys} {w : BV12} {b : Bd} {O : Own} (h : OwnB t w b O) : ∃ A R, O.Perm (A ++ R) ∧ OSl t.int 1 w.f1 (ints b.s1.field) A ∧ ∀ v' l' A', OSl t.int 1 v' (ints l') A' → OwnB t { w with f1 := v' } { b with s1 := { b.s1 with field := l' } } (A' ++ R) := by
 obtain ⟨Oo, A0, B0, C0, D0, A1, B1, C1, D1, Os, Oq, Oa, Obk, hp, h⟩ := h
 refine ⟨C1, Oo ++ (A0 ++ (B0 ++ (C0 ++ (D0 ++ (A1 ++ (B1 ++ (D1 ++ (Os ++ (Oq ++ (Oa ++ (Obk))))))))))), hp.trans (perm_count fun a _ _ => by simp only [List.count_append] <;> omega), h.f1, fun v' l' A' h' => ⟨Oo, A0, B0, C0, D0, A1, B1, A', D1, Os, Oq, Oa, Obk, perm_count fun a _ _ => by simp only [List.count_append] <;> omega, ⟨h.objs, h.l0, h.h0, h.f0, h.g0, h.l1, h.h1, h', h.g1, h.stack, h.queue, h.att, h.blocks⟩⟩⟩
theorem OwnB.pick_g1 {t : Tys} {w : BV12} {b : Bd} {O : Own} (h : OwnB t w b O) : ∃ A R, O.Perm (A ++ R) ∧ OSl t.int 1 w.g1 (ints b.s1.grave) A ∧ ∀ v' l' A', OSl t.int 1 v' (ints l') A' → OwnB t { w with g1 := v' } { b with s1 := { b.s1 with grave := l' } } (A' ++ R) := by
 obtain ⟨Oo, A0, B0, C0, D0, A1, B1, C1, D1, Os, Oq, Oa, Obk, hp, h⟩ := h
 refine ⟨D1, Oo ++ (A0 ++ (B0 ++ (C0 ++ (D0 ++ (A1 ++ (B1 ++ (C1 ++ (Os ++ (Oq ++ (Oa ++ (Obk))))))))))), hp.trans (perm_count fun a _ _ => by simp only [List.count_append] <;> omega), h.g1, fun v' l' A' h' => ⟨Oo, A0, B0, C0, D0, A1, B1, C1, A', Os, Oq, Oa, Obk, perm_count fun a _ _ => by simp only [List.count_append] <;> omega, ⟨h.objs, h.l0, h.h0, h.f0, h.g0, h.l1, h.h1, h.f1, h', h.stack, h.queue, h.att, h.blocks⟩⟩⟩
theorem OwnB.pick_att {t : Tys} {w : BV12} {b : Bd} {O : Own} (h : OwnB t w b O) : ∃ A R, O.Perm (A ++ R) ∧ OSl t.int 1 w.a (ints b.att) A ∧ ∀ v' l' A', OSl t.int 1 v' (ints l') A' → OwnB t { w with a := v' } { b with att := l' } (A' ++ R) := by
 obtain ⟨Oo, A0, B0, C0, D0, A1, B1, C1, D1, Os, Oq, Oa, Obk, hp, h⟩ := h
 refine ⟨Oa, Oo ++ (A0 ++ (B0 ++ (C0 ++ (D0 ++ (A1 ++ (B1 ++ (C1 ++ (D1 ++ (Os ++ (Oq ++ (Obk))))))))))), hp.trans (perm_count fun a _ _ => by simp only [List.count_append] <;> omega), h.att, fun v' l' A' h' => ⟨Oo, A0, B0, C0, D0, A1, B1, C1, D1, Os, Oq, A', Obk, perm_count fun a _ _ => by simp only [List.count_append] <;> omega, ⟨h.objs, h.l0, h.h0, h.f0, h.g0, h.l1, h.h1, h.f1, h.g1, h.stack, h.queue, h', h.blocks⟩⟩⟩
theorem OwnB.pick_objs {t : Tys} {w : BV12} {b : Bd} {O : Own} (h : OwnB t w b O) : ∃ A R, O.Perm (A ++ R) ∧ OSl t.ob 12 w.o (b.objs.map Ob.row) A ∧ ∀ v' l' A', OSl t.ob 12 v' (List.map Ob.row l') A' → OwnB t { w with o := v' } { b with objs := l' } (A' ++ R) := by
 obtain ⟨Oo, A0, B0, C0, D0, A1, B1, C1, D1, Os, Oq, Oa, Obk, hp, h⟩ := h
 refine ⟨Oo, A0 ++ (B0 ++ (C0 ++ (D0 ++ (A1 ++ (B1 ++ (C1 ++ (D1 ++ (Os ++ (Oq ++ (Oa ++ (Obk))))))))))), hp.trans (perm_count fun a _ _ => by simp only [List.count_append] <;> omega), h.objs, fun v' l' A' h' => ⟨A', A0, B0, C0, D0, A1, B1, C1, D1, Os, Oq, Oa, Obk, perm_count fun a _ _ => by simp only [List.count_append] <;> omega, ⟨h', h.l0, h.h0, h.f0, h.g0, h.l1, h.h1, h.f1, h.g1, h.stack, h.queue, h.att, h.blocks⟩⟩⟩
theorem OwnB.pick_blocks {t : Tys} {w : BV12} {b : Bd} {O : Own} (h : OwnB t w b O) : ∃ A R, O.Perm (A ++ R) ∧ OSl t.bl 2 w.b (b.blocks.map Bl.row) A ∧ ∀ v' l' A', OSl t.bl 2 v' (List.map Bl.row l') A' → OwnB t { w with b := v' } { b with blocks := l' } (A' ++ R) := by
 obtain ⟨Oo, A0, B0, C0, D0, A1, B1, C1, D1, Os, Oq, Oa, Obk, hp, h⟩ := h
 refine ⟨Obk, Oo ++ (A0 ++ (B0 ++ (C0 ++ (D0 ++ (A1 ++ (B1 ++ (C1 ++ (D1 ++ (Os ++ (Oq ++ (Oa))))))))))), hp.trans (perm_count fun a _ _ => by simp only [List.count_append] <;> omega), h.blocks, fun v' l' A' h' => ⟨Oo, A0, B0, C0, D0, A1, B1, C1, D1, Os, Oq, Oa, A', perm_count fun a _ _ => by simp only [List.count_append] <;> omega, ⟨h.objs, h.l0, h.h0, h.f0, h.g0, h.l1, h.h1, h.f1, h.g1, h.stack, h.queue, h.att, h'⟩⟩⟩
theorem OwnB.pick_stack {t : Tys} {w : BV12} {b : Bd} {O : Own} (h : OwnB t w b O) : ∃ A R, O.Perm (A ++ R) ∧ OIts t.tg t.it w.s b.stack A ∧ ∀ v' l' A', OIts t.tg t.it v' l' A' → OwnB t { w with s := v' } { b with stack := l' } (A' ++ R) := by
 obtain ⟨Oo, A0, B0, C0, D0, A1, B1, C1, D1, Os, Oq, Oa, Obk, hp, h⟩ := h
 refine ⟨Os, Oo ++ (A0 ++ (B0 ++ (C0 ++ (D0 ++ (A1 ++ (B1 ++ (C1 ++ (D1 ++ (Oq ++ (Oa ++ (Obk))))))))))), hp.trans (perm_count fun a _ _ => by simp only [List.count_append] <;> omega), h.stack, fun v' l' A' h' => ⟨Oo, A0, B0, C0, D0, A1, B1, C1, D1, A', Oq, Oa, Obk, perm_count fun a _ _ => by simp only [List.count_append] <;> omega, ⟨h.objs, h.l0, h.h0, h.f0, h.g0, h.l1, h.h1, h.f1, h.g1, h', h.queue, h.att, h.blocks⟩⟩⟩
theorem slice_u {t e : TypeId} (h : (match PP.underlying t with | some (.slice x) => x == e | _ => false) = true) : PP.underlying t = some (.slice e) := by
 split at h
 ·rename_i x hx; rw [hx, beq_iff_eq.1 h]
 ·cases h
theorem notT' {b : Bool} (h : (!b) = true) : b = false := by simpa using h
theorem notF' {b : Bool} (h : (!b) = false) : b = true := by simpa using h
theorem c_IndexFuncR_int {H : Heap} {O : Own} {v fv : Value} {rows : List (List Value)} {pr : List Value → Bool} (h : RSl H O 1 v rows) {f : FuncId} {caps : Array Value} (hf : fv = .func (.func f) #[] caps) (hok : OkFn PP f)
  (hp : ∀ H', Heap.le H H' → ∀ row ∈ rows, RetO PP f ([g row 0] ++ caps.toList) H' O (.bool (pr row))) : RetO PP F_slices_IndexFunc_int_int [v, fv] H O (iV (idxP pr rows 0)) := by
 subst hf
 refine run_slices_IndexFunc_int_int (vs := [v, .func (.func f) #[] caps]) (by kernel_rfl) ⟨h.one, rfl, trivial⟩ ?_
 simp only [T_slices_IndexFunc_int_int]
 have hB := h.lenB
 refine pure_den _ h.len ?_
 refine count_den rows.length (fun i H' O' => O' = O ∧ Heap.le H H' ∧ idxP pr rows 0 = idxP pr (rows.drop i) i) ⟨rfl, Heap.le_refl H, by simp⟩ ?_
 rintro i H' O' hi - ⟨rfl, hle, hor⟩
 refine pure_den _ (lss_eq _ _) (br_den (fun hb => ?_) (fun hb => ?_))
 ·have hlt : i < rows.length := by simpa using hb
  obtain ⟨a, h1, h2, _, h3, h4⟩ := (h.le hle).idx .i64 i rows[i] (List.getElem?_eq_getElem hlt)
  refine pure_den _ h1 (load_denR h2 h3 h4 ?_)
  repeat (first | refine chkN_den ?_ | refine chkV_den ?_ | refine newbox_den fun _ => ?_)
  refine callv_den rfl hok (hp H' hle rows[i] (List.getElem_mem hlt)) rfl ⟨rfl, trivial⟩ fun H2 hle2 => br_den (fun hb => ?_) (fun hb => ?_)
  ·refine ret_denO ⟨?_, rfl⟩
   have hb : pr rows[i] = true := hb
   rw [hor, List.drop_eq_getElem_cons hlt, idxP, if_pos hb]; rfl
  ·have hb : pr rows[i] = false := hb
   refine pure_den _ (add_one (by omega)) (count_cont (by simp [Eqs]) hlt ⟨rfl, Heap.le_trans hle hle2, ?_⟩)
   rw [hor, List.drop_eq_getElem_cons hlt, idxP, if_neg (by rw [hb]; simp)]; rfl
 ·have hge : rows.length ≤ i := by simpa using hb
  refine ret_denO ⟨?_, rfl⟩
  rw [hor, List.drop_of_length_le hge]; rfl
theorem zero_int : ∀ w, (zeroValue Ty_int).run PP w = .ok (iV 0) w := by
 intro w
 have : (PP.info? Ty_int).bind (·.zero) = some (iV 0) := by kernel_rfl
 simp only [Option.bind_eq_some_iff] at this
 obtain ⟨i, hi, hz⟩ := this
 simp [zeroValue, typeInfo, hi, hz]
theorem c_DeleteFuncR_int {H : Heap} {B A : Own} {v fv : Value} {rows : List (List Value)} {pr : List Value → Bool} (h : OSl Ty_int 1 v rows A) {f : FuncId} {caps : Array Value} (hf : fv = .func (.func f) #[] caps) (hok : OkFn PP f)
  (hp : ∀ H', Heap.le H H' → ∀ row ∈ rows, RetO PP f ([g row 0] ++ caps.toList) H' B (.bool (pr row))) :
  Triple PP F_slices_DeleteFunc_int_int [v, fv] H (B ++ A) fun v' _ O' => ∃ A', O' = B ++ A' ∧ OSl Ty_int 1 v' (rows.filter fun r => !pr r) A' := by
 subst hf
 have hR := h.rsl (O := B ++ A) (fun p hp => List.mem_append_right _ hp) H
 have hB := h.lenB
 refine run_slices_DeleteFunc_int_int (vs := [v, .func (.func f) #[] caps]) (by kernel_rfl) ⟨h.one, rfl, trivial⟩ ?_
 simp only [T_slices_DeleteFunc_int_int]
 refine call_retO (c_IndexFuncR_int hR rfl hok fun H' hl row hr => (hp H' hl row hr).frame A) rfl ⟨rfl, trivial⟩ fun H1 l1 => pure_den _ (eql_eq _ _) (br_den (fun hb => ?_) (fun hb => ?_))
 ·have e : idxP pr rows 0 = -1 := by simpa using hb
  rcases idxP_first pr rows 0 (by omega) with ⟨_, hn⟩ | ⟨k, x, _, _, _, e2⟩
  ·exact ret_denO ⟨A, rfl, by rw [filter_none hn]; exact h⟩
  ·omega
 rcases idxP_first pr rows 0 (by omega) with ⟨e, _⟩ | ⟨k, x, e1, e2, e3, e4⟩
 ·rw [e] at hb; simp at hb
 have e4 : idxP pr rows 0 = (k : Int) := by omega
 have hklt : k < rows.length := (List.getElem?_eq_some_iff.1 e1).1
 rw [e4]
 refine pure_den _ (add_one (by omega)) ?_
 refine loop_den (fun vs H' O' => ∃ (i j : Nat) (rows' : List (List Value)) (A' : Own), vs = [iV i, iV j] ∧ i < j ∧ j ≤ rows.length ∧ O'.Perm (B ++ A') ∧ Heap.le H1 H' ∧ OSl Ty_int 1 v rows' A' ∧ rows'.length = rows.length ∧ rows'.take i = ((rows.take j).filter fun r => !pr r) ∧ rows'.drop j = rows.drop j)
  (fun vs _ _ => match g vs 1 with | .int _ n => rows.length - n.toNat | _ => 0) ⟨k, k + 1, rows, A, rfl, by omega, by omega, List.Perm.refl _, Heap.le_refl _, h, rfl, ?_, rfl⟩ ?_
 ·rw [List.take_add_one, e1, List.filter_append, filter_none e3]
  simp [e2]
 rintro vs H' O' - - - ⟨i, j, rows', A', rfl, hij, hj, hp', hle, hA, hl', ht, hd⟩
 have hlen := hA.len
 rw [hl'] at hlen
 have hp2 : O'.Perm (A' ++ B) := hp'.trans List.perm_append_comm
 refine pure_den _ hlen (pure_den _ (lss_eq _ _) (br_den (fun hb => ?_) (fun hb => ?_)))
 ·have hlt : j < rows.length := by simpa using hb
  have hrj : rows'[j]? = some rows[j] := by
   have := congrArg (fun l => l[0]?) hd
   simp only [List.getElem?_drop, Nat.add_zero] at this
   rw [this, List.getElem?_eq_getElem hlt]
  have ro := hA.rows_ok hrj
  obtain ⟨a, k1, _, k2, _⟩ := hA.idx (fun p h => hp'.mem_iff.2 (List.mem_append_right _ h)) H' (k := .i64) hrj
  have htj : (rows.take (j + 1)).filter (fun r => !pr r) = ((rows.take j).filter fun r => !pr r) ++ (if pr rows[j] then [] else [rows[j]]) := by
   rw [List.take_add_one, List.getElem?_eq_getElem hlt, List.filter_append]
   cases hpr : pr rows[j] <;> simp [hpr]
  refine pure_den _ k1 (load_denR k2 ro.1 ro.2 ?_)
  repeat (first | refine chkN_den ?_ | refine chkV_den ?_ | refine newbox_den fun _ => ?_)
  refine callv_den rfl hok (((hp H' (Heap.le_trans l1 hle) _ (List.getElem_mem hlt)).frame A').perm hp'.symm) rfl ⟨rfl, trivial⟩ fun H2 l2 => pure_den _ (not_eq' _) (br_den (fun hc => ?_) (fun hc => ?_))
  ·have hc : pr rows[j] = false := notT' hc
   have hri : rows'[i]? = some rows'[i] := List.getElem?_eq_getElem (by omega)
   have ri := hA.rows_ok hri
   obtain ⟨a2, j1, j2⟩ := hA.store hp2 (k := .i64) hri
   have hy : [g rows[j] 0] = rows[j] := row_eq ro.1
   obtain ⟨A2, hst, hA2⟩ := j2 0 [g rows[j] 0] (by rw [hy, ro.1]; simp) (by rw [hy]; exact ro.2)
   rw [ptr0] at hst
   rw [hy, splice_all (by rw [ri.1, ro.1])] at hA2
   repeat (first | refine chkN_den ?_ | refine chkV_den ?_)
   refine pure_den _ j1 ?_
   repeat (first | refine chkN_den ?_ | refine chkV_den ?_ | refine chkP_den rfl ?_)
   refine ⟨_, hst, ?_⟩
   repeat (first | refine chkN_den ?_ | refine chkV_den ?_)
   refine pure_den _ (add_one (by omega)) (pure_den _ (add_one (by omega)) (cont_den (by simp [Eqs]) ⟨i + 1, j + 1, rows'.set i rows[j], A2, rfl, by omega, by omega, List.perm_append_comm, Heap.le_trans hle l2, hA2, by simp [hl'], ?_, ?_⟩ ?_))
   ·rw [htj, hc, ← ht, List.take_add_one, List.getElem?_set_self (by omega), List.take_set, List.set_eq_of_length_le (by rw [List.length_take]; omega)]
    simp
   ·rw [List.drop_set_of_lt (by omega)]
    have := congrArg (fun l => l.drop 1) hd
    simpa [List.drop_drop] using this
   ·show rows.length - ((j + 1 : Nat) : Int).toNat < rows.length - ((j : Nat) : Int).toNat
    omega
  ·have hc : pr rows[j] = true := notF' hc
   refine pure_den _ (add_one (by omega)) (cont_den (by simp [Eqs]) ⟨i, j + 1, rows', A', rfl, by omega, by omega, hp', Heap.le_trans hle l2, hA, hl', ?_, ?_⟩ ?_)
   ·rw [htj, hc, ht]; simp
   ·have := congrArg (fun l => l.drop 1) hd
    simpa [List.drop_drop] using this
   ·show rows.length - ((j + 1 : Nat) : Int).toNat < rows.length - ((j : Nat) : Int).toNat
    omega
 ·have hje : j = rows.length := by
   have : ¬ ((j : Int) < (rows.length : Int)) := of_decide_eq_false hb
   omega
  rw [hje, List.take_length] at ht
  obtain ⟨u, c1, c2⟩ := call_clear (P := PP) (t := 25) (ty := 0) (e := Ty_int) (slice_u (by kernel_rfl)) zero_int rfl (by simp [Value.cells, Value.oneCell']) hA hp2 (i := i) (by omega)
  refine pure_den _ c1 (c2 H' _ fun rows2 A2 f1 f2 hA2 => ?_)
  obtain ⟨u2, d1, hu⟩ := hA2.upto (i := i) (by omega)
  refine pure_den _ d1 (ret_permD List.perm_append_comm ⟨A2, rfl, ?_⟩)
  rw [f1, ht] at hu
  exact hu
theorem c_IndexFuncR_api_Block {H : Heap} {O : Own} {v fv : Value} {rows : List (List Value)} {pr : List Value → Bool} (h : RSl H O 2 v rows) {f : FuncId} {caps : Array Value} (hf : fv = .func (.func f) #[] caps) (hok : OkFn PP f)
  (hp : ∀ H', Heap.le H H' → ∀ row ∈ rows, RetO PP f ([.agg #[g row 0, g row 1]] ++ caps.toList) H' O (.bool (pr row))) : RetO PP F_slices_IndexFunc_api_Block_api_Block [v, fv] H O (iV (idxP pr rows 0)) := by
 subst hf
 refine run_slices_IndexFunc_api_Block_api_Block (vs := [v, .func (.func f) #[] caps]) (by kernel_rfl) ⟨h.one, rfl, trivial⟩ ?_
 simp only [T_slices_IndexFunc_api_Block_api_Block]
 have hB := h.lenB
 refine pure_den _ h.len ?_
 refine count_den rows.length (fun i H' O' => O' = O ∧ Heap.le H H' ∧ idxP pr rows 0 = idxP pr (rows.drop i) i) ⟨rfl, Heap.le_refl H, by simp⟩ ?_
 rintro i H' O' hi - ⟨rfl, hle, hor⟩
 refine pure_den _ (lss_eq _ _) (br_den (fun hb => ?_) (fun hb => ?_))
 ·have hlt : i < rows.length := by simpa using hb
  obtain ⟨a, h1, h2, _, h3, h4⟩ := (h.le hle).idx .i64 i rows[i] (List.getElem?_eq_getElem hlt)
  refine pure_den _ h1 (load_denR h2 h3 h4 ?_)
  repeat (first | refine chkN_den ?_ | refine chkV_den ?_ | refine newbox_den fun _ => ?_)
  refine callv_den rfl hok (hp H' hle rows[i] (List.getElem_mem hlt)) rfl ⟨rfl, trivial⟩ fun H2 hle2 => br_den (fun hb => ?_) (fun hb => ?_)
  ·refine ret_denO ⟨?_, rfl⟩
   have hb : pr rows[i] = true := hb
   rw [hor, List.drop_eq_getElem_cons hlt, idxP, if_pos hb]; rfl
  ·have hb : pr rows[i] = false := hb
   refine pure_den _ (add_one (by omega)) (count_cont (by simp [Eqs]) hlt ⟨rfl, Heap.le_trans hle hle2, ?_⟩)
   rw [hor, List.drop_eq_getElem_cons hlt, idxP, if_neg (by rw [hb]; simp)]; rfl
 ·have hge : rows.length ≤ i := by simpa using hb
  refine ret_denO ⟨?_, rfl⟩
  rw [hor, List.drop_of_length_le hge]; rfl
theorem zero_api_Block : ∀ w, (zeroValue Ty_api_Block).run PP w = .ok (.agg #[iV 0, iV 0]) w := by
 intro w
 have : (PP.info? Ty_api_Block).bind (·.zero) = some (.agg #[iV 0, iV 0]) := by kernel_rfl
 simp only [Option.bind_eq_some_iff] at this
 obtain ⟨i, hi, hz⟩ := this
 simp [zeroValue, typeInfo, hi, hz]
theorem c_DeleteFuncR_api_Block {H : Heap} {B A : Own} {v fv : Value} {rows : List (List Value)} {pr : List Value → Bool} (h : OSl Ty_api_Block 2 v rows A) {f : FuncId} {caps : Array Value} (hf : fv = .func (.func f) #[] caps) (hok : OkFn PP f)
  (hp : ∀ H', Heap.le H H' → ∀ row ∈ rows, RetO PP f ([.agg #[g row 0, g row 1]] ++ caps.toList) H' B (.bool (pr row))) :
  Triple PP F_slices_DeleteFunc_api_Block_api_Block [v, fv] H (B ++ A) fun v' _ O' => ∃ A', O' = B ++ A' ∧ OSl Ty_api_Block 2 v' (rows.filter fun r => !pr r) A' := by
 subst hf
 have hR := h.rsl (O := B ++ A) (fun p hp => List.mem_append_right _ hp) H
 have hB := h.lenB
 refine run_slices_DeleteFunc_api_Block_api_Block (vs := [v, .func (.func f) #[] caps]) (by kernel_rfl) ⟨h.one, rfl, trivial⟩ ?_
 simp only [T_slices_DeleteFunc_api_Block_api_Block]
 refine call_retO (c_IndexFuncR_api_Block hR rfl hok fun H' hl row hr => (hp H' hl row hr).frame A) rfl ⟨rfl, trivial⟩ fun H1 l1 => pure_den _ (eql_eq _ _) (br_den (fun hb => ?_) (fun hb => ?_))
 ·have e : idxP pr rows 0 = -1 := by simpa using hb
  rcases idxP_first pr rows 0 (by omega) with ⟨_, hn⟩ | ⟨k, x, _, _, _, e2⟩
  ·exact ret_denO ⟨A, rfl, by rw [filter_none hn]; exact h⟩
  ·omega
 rcases idxP_first pr rows 0 (by omega) with ⟨e, _⟩ | ⟨k, x, e1, e2, e3, e4⟩
 ·rw [e] at hb; simp at hb
 have e4 : idxP pr rows 0 = (k : Int) := by omega
 have hklt : k < rows.length := (List.getElem?_eq_some_iff.1 e1).1
 rw [e4]
 refine pure_den _ (add_one (by omega)) ?_
 refine loop_den (fun vs H' O' => ∃ (i j : Nat) (rows' : List (List Value)) (A' : Own), vs = [iV i, iV j] ∧ i < j ∧ j ≤ rows.length ∧ O'.Perm (B ++ A') ∧ Heap.le H1 H' ∧ OSl Ty_api_Block 2 v rows' A' ∧ rows'.length = rows.length ∧ rows'.take i = ((rows.take j).filter fun r => !pr r) ∧ rows'.drop j = rows.drop j)
  (fun vs _ _ => match g vs 1 with | .int _ n => rows.length - n.toNat | _ => 0) ⟨k, k + 1, rows, A, rfl, by omega, by omega, List.Perm.refl _, Heap.le_refl _, h, rfl, ?_, rfl⟩ ?_
 ·rw [List.take_add_one, e1, List.filter_append, filter_none e3]
  simp [e2]
 rintro vs H' O' - - - ⟨i, j, rows', A', rfl, hij, hj, hp', hle, hA, hl', ht, hd⟩
 have hlen := hA.len
 rw [hl'] at hlen
 have hp2 : O'.Perm (A' ++ B) := hp'.trans List.perm_append_comm
 refine pure_den _ hlen (pure_den _ (lss_eq _ _) (br_den (fun hb => ?_) (fun hb => ?_)))
 ·have hlt : j < rows.length := by simpa using hb
  have hrj : rows'[j]? = some rows[j] := by
   have := congrArg (fun l => l[0]?) hd
   simp only [List.getElem?_drop, Nat.add_zero] at this
   rw [this, List.getElem?_eq_getElem hlt]
  have ro := hA.rows_ok hrj
  obtain ⟨a, k1, _, k2, _⟩ := hA.idx (fun p h => hp'.mem_iff.2 (List.mem_append_right _ h)) H' (k := .i64) hrj
  have htj : (rows.take (j + 1)).filter (fun r => !pr r) = ((rows.take j).filter fun r => !pr r) ++ (if pr rows[j] then [] else [rows[j]]) := by
   rw [List.take_add_one, List.getElem?_eq_getElem hlt, List.filter_append]
   cases hpr : pr rows[j] <;> simp [hpr]
  refine pure_den _ k1 (load_denR k2 ro.1 ro.2 ?_)
  repeat (first | refine chkN_den ?_ | refine chkV_den ?_ | refine newbox_den fun _ => ?_)
  refine callv_den rfl hok (((hp H' (Heap.le_trans l1 hle) _ (List.getElem_mem hlt)).frame A').perm hp'.symm) rfl ⟨rfl, trivial⟩ fun H2 l2 => pure_den _ (not_eq' _) (br_den (fun hc => ?_) (fun hc => ?_))
  ·have hc : pr rows[j] = false := notT' hc
   have hri : rows'[i]? = some rows'[i] := List.getElem?_eq_getElem (by omega)
   have ri := hA.rows_ok hri
   obtain ⟨a2, j1, j2⟩ := hA.store hp2 (k := .i64) hri
   have hy : [g rows[j] 0, g rows[j] 1] = rows[j] := row_eq ro.1
   obtain ⟨A2, hst, hA2⟩ := j2 0 [g rows[j] 0, g rows[j] 1] (by rw [hy, ro.1]; simp) (by rw [hy]; exact ro.2)
   rw [ptr0] at hst
   rw [hy, splice_all (by rw [ri.1, ro.1])] at hA2
   repeat (first | refine chkN_den ?_ | refine chkV_den ?_)
   refine pure_den _ j1 ?_
   repeat (first | refine chkN_den ?_ | refine chkV_den ?_ | refine chkP_den rfl ?_)
   refine ⟨_, hst, ?_⟩
   repeat (first | refine chkN_den ?_ | refine chkV_den ?_)
   refine pure_den _ (add_one (by omega)) (pure_den _ (add_one (by omega)) (cont_den (by simp [Eqs]) ⟨i + 1, j + 1, rows'.set i rows[j], A2, rfl, by omega, by omega, List.perm_append_comm, Heap.le_trans hle l2, hA2, by simp [hl'], ?_, ?_⟩ ?_))
   ·rw [htj, hc, ← ht, List.take_add_one, List.getElem?_set_self (by omega), List.take_set, List.set_eq_of_length_le (by rw [List.length_take]; omega)]
    simp
   ·rw [List.drop_set_of_lt (by omega)]
    have := congrArg (fun l => l.drop 1) hd
    simpa [List.drop_drop] using this
   ·show rows.length - ((j + 1 : Nat) : Int).toNat < rows.length - ((j : Nat) : Int).toNat
    omega
  ·have hc : pr rows[j] = true := notF' hc
   refine pure_den _ (add_one (by omega)) (cont_den (by simp [Eqs]) ⟨i, j + 1, rows', A', rfl, by omega, by omega, hp', Heap.le_trans hle l2, hA, hl', ?_, ?_⟩ ?_)
   ·rw [htj, hc, ht]; simp
   ·have := congrArg (fun l => l.drop 1) hd
    simpa [List.drop_drop] using this
   ·show rows.length - ((j + 1 : Nat) : Int).toNat < rows.length - ((j : Nat) : Int).toNat
    omega
 ·have hje : j = rows.length := by
   have : ¬ ((j : Int) < (rows.length : Int)) := of_decide_eq_false hb
   omega
  rw [hje, List.take_length] at ht
  obtain ⟨u, c1, c2⟩ := call_clear (P := PP) (t := 30) (ty := 0) (e := Ty_api_Block) (slice_u (by kernel_rfl)) zero_api_Block rfl (by simp [Value.cells, Value.oneCell']) hA hp2 (i := i) (by omega)
  refine pure_den _ c1 (c2 H' _ fun rows2 A2 f1 f2 hA2 => ?_)
  obtain ⟨u2, d1, hu⟩ := hA2.upto (i := i) (by omega)
  refine pure_den _ d1 (ret_permD List.perm_append_comm ⟨A2, rfl, ?_⟩)
  rw [f1, ht] at hu
  exact hu
theorem c_IndexFuncR_api_Item {H : Heap} {O : Own} {v fv : Value} {rows : List (List Value)} {pr : List Value → Bool} (h : RSl H O 5 v rows) {f : FuncId} {caps : Array Value} (hf : fv = .func (.func f) #[] caps) (hok : OkFn PP f)
  (hp : ∀ H', Heap.le H H' → ∀ row ∈ rows, RetO PP f ([.agg #[g row 0, g row 1, g row 2, g row 3, g row 4]] ++ caps.toList) H' O (.bool (pr row))) : RetO PP F_slices_IndexFunc_api_Item_api_Item [v, fv] H O (iV (idxP pr rows 0)) := by
 subst hf
 refine run_slices_IndexFunc_api_Item_api_Item (vs := [v, .func (.func f) #[] caps]) (by kernel_rfl) ⟨h.one, rfl, trivial⟩ ?_
 simp only [T_slices_IndexFunc_api_Item_api_Item]
 have hB := h.lenB
 refine pure_den _ h.len ?_
 refine count_den rows.length (fun i H' O' => O' = O ∧ Heap.le H H' ∧ idxP pr rows 0 = idxP pr (rows.drop i) i) ⟨rfl, Heap.le_refl H, by simp⟩ ?_
 rintro i H' O' hi - ⟨rfl, hle, hor⟩
 refine pure_den _ (lss_eq _ _) (br_den (fun hb => ?_) (fun hb => ?_))
 ·have hlt : i < rows.length := by simpa using hb
  obtain ⟨a, h1, h2, _, h3, h4⟩ := (h.le hle).idx .i64 i rows[i] (List.getElem?_eq_getElem hlt)
  refine pure_den _ h1 (load_denR h2 h3 h4 ?_)
  repeat (first | refine chkN_den ?_ | refine chkV_den ?_ | refine newbox_den fun _ => ?_)
  refine callv_den rfl hok (hp H' hle rows[i] (List.getElem_mem hlt)) rfl ⟨rfl, trivial⟩ fun H2 hle2 => br_den (fun hb => ?_) (fun hb => ?_)
  ·refine ret_denO ⟨?_, rfl⟩
   have hb : pr rows[i] = true := hb
   rw [hor, List.drop_eq_getElem_cons hlt, idxP, if_pos hb]; rfl
  ·have hb : pr rows[i] = false := hb
   refine pure_den _ (add_one (by omega)) (count_cont (by simp [Eqs]) hlt ⟨rfl, Heap.le_trans hle hle2, ?_⟩)
   rw [hor, List.drop_eq_getElem_cons hlt, idxP, if_neg (by rw [hb]; simp)]; rfl
 ·have hge : rows.length ≤ i := by simpa using hb
  refine ret_denO ⟨?_, rfl⟩
  rw [hor, List.drop_of_length_le hge]; rfl
theorem zero_api_Item : ∀ w, (zeroValue Ty_api_Item).run PP w = .ok (.agg #[iV 0, iV 0, iV 0, iV 0, nilS]) w := by
 intro w
 have : (PP.info? Ty_api_Item).bind (·.zero) = some (.agg #[iV 0, iV 0, iV 0, iV 0, nilS]) := by kernel_rfl
 simp only [Option.bind_eq_some_iff] at this
 obtain ⟨i, hi, hz⟩ := this
 simp [zeroValue, typeInfo, hi, hz]
theorem c_DeleteFuncR_api_Item {H : Heap} {B A : Own} {v fv : Value} {rows : List (List Value)} {pr : List Value → Bool} (h : OSl Ty_api_Item 5 v rows A) {f : FuncId} {caps : Array Value} (hf : fv = .func (.func f) #[] caps) (hok : OkFn PP f)
  (hp : ∀ H', Heap.le H H' → ∀ row ∈ rows, RetO PP f ([.agg #[g row 0, g row 1, g row 2, g row 3, g row 4]] ++ caps.toList) H' B (.bool (pr row))) :
  Triple PP F_slices_DeleteFunc_api_Item_api_Item [v, fv] H (B ++ A) fun v' _ O' => ∃ A', O' = B ++ A' ∧ OSl Ty_api_Item 5 v' (rows.filter fun r => !pr r) A' := by
 subst hf
 have hR := h.rsl (O := B ++ A) (fun p hp => List.mem_append_right _ hp) H
 have hB := h.lenB
 refine run_slices_DeleteFunc_api_Item_api_Item (vs := [v, .func (.func f) #[] caps]) (by kernel_rfl) ⟨h.one, rfl, trivial⟩ ?_
 simp only [T_slices_DeleteFunc_api_Item_api_Item]
 refine call_retO (c_IndexFuncR_api_Item hR rfl hok fun H' hl row hr => (hp H' hl row hr).frame A) rfl ⟨rfl, trivial⟩ fun H1 l1 => pure_den _ (eql_eq _ _) (br_den (fun hb => ?_) (fun hb => ?_))
 ·have e : idxP pr rows 0 = -1 := by simpa using hb
  rcases idxP_first pr rows 0 (by omega) with ⟨_, hn⟩ | ⟨k, x, _, _, _, e2⟩
  ·exact ret_denO ⟨A, rfl, by rw [filter_none hn]; exact h⟩
  ·omega
 rcases idxP_first pr rows 0 (by omega) with ⟨e, _⟩ | ⟨k, x, e1, e2, e3, e4⟩
 ·rw [e] at hb; simp at hb
 have e4 : idxP pr rows 0 = (k : Int) := by omega
 have hklt : k < rows.length := (List.getElem?_eq_some_iff.1 e1).1
 rw [e4]
 refine pure_den _ (add_one (by omega)) ?_
 refine loop_den (fun vs H' O' => ∃ (i j : Nat) (rows' : List (List Value)) (A' : Own), vs = [iV i, iV j] ∧ i < j ∧ j ≤ rows.length ∧ O'.Perm (B ++ A') ∧ Heap.le H1 H' ∧ OSl Ty_api_Item 5 v rows' A' ∧ rows'.length = rows.length ∧ rows'.take i = ((rows.take j).filter fun r => !pr r) ∧ rows'.drop j = rows.drop j)
  (fun vs _ _ => match g vs 1 with | .int _ n => rows.length - n.toNat | _ => 0) ⟨k, k + 1, rows, A, rfl, by omega, by omega, List.Perm.refl _, Heap.le_refl _, h, rfl, ?_, rfl⟩ ?_
 ·rw [List.take_add_one, e1, List.filter_append, filter_none e3]
  simp [e2]
 rintro vs H' O' - - - ⟨i, j, rows', A', rfl, hij, hj, hp', hle, hA, hl', ht, hd⟩
 have hlen := hA.len
 rw [hl'] at hlen
 have hp2 : O'.Perm (A' ++ B) := hp'.trans List.perm_append_comm
 refine pure_den _ hlen (pure_den _ (lss_eq _ _) (br_den (fun hb => ?_) (fun hb => ?_)))
 ·have hlt : j < rows.length := by simpa using hb
  have hrj : rows'[j]? = some rows[j] := by
   have := congrArg (fun l => l[0]?) hd
   simp only [List.getElem?_drop, Nat.add_zero] at this
   rw [this, List.getElem?_eq_getElem hlt]
  have ro := hA.rows_ok hrj
  obtain ⟨a, k1, _, k2, _⟩ := hA.idx (fun p h => hp'.mem_iff.2 (List.mem_append_right _ h)) H' (k := .i64) hrj
  have htj : (rows.take (j + 1)).filter (fun r => !pr r) = ((rows.take j).filter fun r => !pr r) ++ (if pr rows[j] then [] else [rows[j]]) := by
   rw [List.take_add_one, List.getElem?_eq_getElem hlt, List.filter_append]
   cases hpr : pr rows[j] <;> simp [hpr]
  refine pure_den _ k1 (load_denR k2 ro.1 ro.2 ?_)
  repeat (first | refine chkN_den ?_ | refine chkV_den ?_ | refine newbox_den fun _ => ?_)
  refine callv_den rfl hok (((hp H' (Heap.le_trans l1 hle) _ (List.getElem_mem hlt)).frame A').perm hp'.symm) rfl ⟨rfl, trivial⟩ fun H2 l2 => pure_den _ (not_eq' _) (br_den (fun hc => ?_) (fun hc => ?_))
  ·have hc : pr rows[j] = false := notT' hc
   have hri : rows'[i]? = some rows'[i] := List.getElem?_eq_getElem (by omega)
   have ri := hA.rows_ok hri
   obtain ⟨a2, j1, j2⟩ := hA.store hp2 (k := .i64) hri
   have hy : [g rows[j] 0, g rows[j] 1, g rows[j] 2, g rows[j] 3, g rows[j] 4] = rows[j] := row_eq ro.1
   obtain ⟨A2, hst, hA2⟩ := j2 0 [g rows[j] 0, g rows[j] 1, g rows[j] 2, g rows[j] 3, g rows[j] 4] (by rw [hy, ro.1]; simp) (by rw [hy]; exact ro.2)
   rw [ptr0] at hst
   rw [hy, splice_all (by rw [ri.1, ro.1])] at hA2
   repeat (first | refine chkN_den ?_ | refine chkV_den ?_)
   refine pure_den _ j1 ?_
   repeat (first | refine chkN_den ?_ | refine chkV_den ?_ | refine chkP_den rfl ?_)
   refine ⟨_, hst, ?_⟩
   repeat (first | refine chkN_den ?_ | refine chkV_den ?_)
   refine pure_den _ (add_one (by omega)) (pure_den _ (add_one (by omega)) (cont_den (by simp [Eqs]) ⟨i + 1, j + 1, rows'.set i rows[j], A2, rfl, by omega, by omega, List.perm_append_comm, Heap.le_trans hle l2, hA2, by simp [hl'], ?_, ?_⟩ ?_))
   ·rw [htj, hc, ← ht, List.take_add_one, List.getElem?_set_self (by omega), List.take_set, List.set_eq_of_length_le (by rw [List.length_take]; omega)]
    simp
   ·rw [List.drop_set_of_lt (by omega)]
    have := congrArg (fun l => l.drop 1) hd
    simpa [List.drop_drop] using this
   ·show rows.length - ((j + 1 : Nat) : Int).toNat < rows.length - ((j : Nat) : Int).toNat
    omega
  ·have hc : pr rows[j] = true := notF' hc
   refine pure_den _ (add_one (by omega)) (cont_den (by simp [Eqs]) ⟨i, j + 1, rows', A', rfl, by omega, by omega, hp', Heap.le_trans hle l2, hA, hl', ?_, ?_⟩ ?_)
   ·rw [htj, hc, ht]; simp
   ·have := congrArg (fun l => l.drop 1) hd
    simpa [List.drop_drop] using this
   ·show rows.length - ((j + 1 : Nat) : Int).toNat < rows.length - ((j : Nat) : Int).toNat
    omega
 ·have hje : j = rows.length := by
   have : ¬ ((j : Int) < (rows.length : Int)) := of_decide_eq_false hb
   omega
  rw [hje, List.take_length] at ht
  obtain ⟨u, c1, c2⟩ := call_clear (P := PP) (t := 29) (ty := 0) (e := Ty_api_Item) (slice_u (by kernel_rfl)) zero_api_Item rfl (by simp [Value.cells, Value.oneCell']) hA hp2 (i := i) (by omega)
  refine pure_den _ c1 (c2 H' _ fun rows2 A2 f1 f2 hA2 => ?_)
  obtain ⟨u2, d1, hu⟩ := hA2.upto (i := i) (by omega)
  refine pure_den _ d1 (ret_permD List.perm_append_comm ⟨A2, rfl, ?_⟩)
  rw [f1, ht] at hu
  exact hu
end Go.Proofs.YtjaegdkkiefchaaGreatDoor
