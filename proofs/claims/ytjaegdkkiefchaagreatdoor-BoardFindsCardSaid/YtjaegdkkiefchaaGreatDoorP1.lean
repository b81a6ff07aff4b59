/- Plain laws of boards that move: what is drawn, put, taken out. -/
import Derived.Test.YtjaegdkkiefchaaGreatDoorC16
namespace Go.Proofs.YtjaegdkkiefchaaGreatDoor
open Go Go.Sx
set_option maxRecDepth 100000
set_option maxHeartbeats 1000000

def resetO (o : Ob) (z : Int) : Ob := { o with dmg := 0, pp := 0, pt := 0, cnt := 0, tap := false, doom := false, sick := z == 2 }
def seatOf (b : Bd) (p : Int) : St := if p = 0 then b.s0 else b.s1
def withSeat (b : Bd) (p : Int) (s : St) : Bd := if p = 0 then { b with s0 := s } else { b with s1 := s }
def putZ (s : St) (z id : Int) : St :=
  if z = 0 then { s with lib := s.lib ++ [id] } else if z = 1 then { s with hand := s.hand ++ [id] } else if z = 2 then { s with field := s.field ++ [id] } else if z = 3 then { s with grave := s.grave ++ [id] } else s
def without (l : List Int) (id : Int) : List Int := l.filter fun n => n != id
def outS (s : St) (id : Int) : St := { s with lib := without s.lib id, hand := without s.hand id, field := without s.field id, grave := without s.grave id }
def isOn (id : Int) (x : It) : Bool := decide (x.trig < 0) && x.id == id
def inFight (id : Int) (x : Bl) : Bool := x.blocker == id || x.attacker == id
def outB (b : Bd) (id : Int) : Bd := { b with s0 := outS b.s0 id, s1 := outS b.s1 id, stack := b.stack.filter fun x => !isOn id x, att := without b.att id, blocks := b.blocks.filter fun x => !inFight id x }
def setOb (b : Bd) (k : Nat) (o : Ob) : Bd := { b with objs := b.objs.set k o }
def putB (b : Bd) (p z id : Int) : Bd := withSeat b p (putZ (seatOf b p) z id)
/-- The object o, as it is then, at place k, has moved. -/
def moveB (b : Bd) (k : Nat) (o : Ob) (z : Int) : Bd := putB (setOb (outB b o.id) k o) o.owner z o.id
def idsS (s : St) : List Int := s.lib ++ (s.hand ++ (s.field ++ s.grave))
def idsB (b : Bd) : List Int := idsS b.s0 ++ (idsS b.s1 ++ (cardsOn b.stack).map (·.id))
theorem ids_pairs (b : Bd) : (pairsB b).map (·.1) = idsB b := by
  simp [pairsB, pairsS, idsB, idsS, owned, Function.comp_def]
theorem without_self {l : List Int} {id : Int} (h : l.count id = 0) : without l id = l := by
  rw [without, List.filter_eq_self]
  intro x hx
  have : id ∉ l := List.count_eq_zero.1 h
  simp only [bne_iff_ne, ne_eq]
  rintro rfl
  exact this hx
theorem placed_nodup {b : Bd} {val : Ob → Bool} (h : placedB val b = true) : (idsB b).Nodup := by
  simp only [placedB, Bool.and_eq_true, decide_eq_true_eq] at h
  rw [← ids_pairs]; exact h.1
/-- The parts of a board that is valid. -/
theorem valid_parts {b : Bd} (h : validBd b = true) : placedB validO b = true ∧ fightsBd b = true ∧ (b.active = 0 ∨ b.active = 1) ∧ b.stack.all (fun x => fineB x false) = true := by
  simp only [validBd, Bool.and_eq_true, withinB, decide_eq_true_eq, Bool.not_eq_true', List.any_eq_false] at h
  refine ⟨h.2.2.2.2.2.2.2.2.2.1, h.2.2.2.2.2.2.2.2.2.2, by have := h.1; omega, ?_⟩
  rw [List.all_eq_true]
  intro x hx
  have := h.2.2.2.2.2.2.2.1 x hx
  simpa using this
theorem placed_objs {b : Bd} (h : placedB validO b = true) : ordP none b.objs = true ∧ b.objs.all (ok1 (pairsB b) (carded b.stack)) = true ∧ (pairsB b).length = b.objs.length := by
  simp only [placedB, Bool.and_eq_true, decide_eq_true_eq, objsGo_eq] at h
  exact ⟨h.2.1.1, h.2.1.2, h.2.2⟩
theorem idxP_at {α : Type} {p : α → Bool} : ∀ {l : List α} {k : Nat} {x : α} (i : Int), l[k]? = some x → p x = true → (∀ (j : Nat) (y : α), j < k → l[j]? = some y → p y = false) → idxP p l i = i + k
  | [], k, x, i, h, _, _ => by simp at h
  | a :: l, 0, x, i, h, hp, _ => by
    simp at h; subst h
    simp [idxP, hp]
  | a :: l, k + 1, x, i, h, hp, hb => by
    have h0 := hb 0 a (by omega) rfl
    have := idxP_at (i + 1) (l := l) (k := k) (by simpa using h) hp fun j y hj e => hb (j + 1) y (by omega) (by simpa using e)
    simp only [idxP, h0, Bool.false_eq_true, if_false, this]
    omega
theorem idxO_at {b : Bd} (hn : (b.objs.map (·.id)).Nodup) {k : Nat} {o : Ob} (h : b.objs[k]? = some o) : idxO b o.id = k := by
  have := idxP_at (p := fun x : Ob => x.id == o.id) (l := b.objs) 0 h (by simp) fun j y hj e => by
    have hlt := (List.getElem?_eq_some_iff.1 h).1
    have h1 : (b.objs.map (·.id))[j]? = some y.id := by rw [List.getElem?_map, e]; rfl
    have h2 : (b.objs.map (·.id))[k]? = some o.id := by rw [List.getElem?_map, h]; rfl
    have hne : y.id ≠ o.id := by
      intro e2
      rw [e2] at h1
      have := (List.getElem?_inj (by simpa using (by omega : j < b.objs.length)) hn).1 (h1.trans h2.symm)
      omega
    simpa using hne
  rw [idxO, this]; omega
/-- What is known of an object of a valid board. -/
theorem obj_known {b : Bd} (h : placedB validO b = true) {k : Nat} {o : Ob} (hk : b.objs[k]? = some o) : validO o = true ∧ (o.id, o.owner) ∈ pairsB b ∧ idxO b o.id = k ∧ (o.owner = 0 ∨ o.owner = 1) := by
  obtain ⟨h1, h2, _⟩ := placed_objs h
  have hm := List.mem_of_getElem? hk
  have ho := List.all_eq_true.1 h2 o hm
  simp only [ok1, Bool.and_eq_true, beq_iff_eq] at ho
  obtain ⟨v, hl, hown, _⟩ := ho
  have hn := placed_nodup h
  rw [← ids_pairs] at hn
  refine ⟨v, ?_, idxO_at (ordP_spec h1).2 hk, validO_owner v⟩
  cases e : lookI (pairsB b) o.id with
  | none => rw [e] at hl; cases hl
  | some w =>
    rw [e] at hown
    have : w = o.owner := hown
    rw [this] at e
    exact (lookI_some hn).1 e
/-- An id that is somewhere has its object. -/
theorem id_obj {b : Bd} (h : placedB validO b = true) {id p : Int} (hm : (id, p) ∈ pairsB b) : ∃ (k : Nat) (o : Ob), b.objs[k]? = some o ∧ o.id = id ∧ o.owner = p := by
  obtain ⟨o, ho, e, _⟩ := placed_ids h id (List.mem_map_of_mem (f := Prod.fst) hm)
  obtain ⟨k, hk⟩ := List.mem_iff_getElem?.1 ho
  refine ⟨k, o, hk, e, ?_⟩
  obtain ⟨_, h2, _⟩ := obj_known h hk
  have hn := placed_nodup h
  rw [← ids_pairs] at hn
  rw [e] at h2
  have a := (lookI_some hn).2 h2
  have c := (lookI_some hn).2 hm
  rw [a] at c
  exact Option.some.inj c
theorem lookI_perm {l l' : List (Int × Int)} (hn : (l.map (·.1)).Nodup) (hp : l.Perm l') (k : Int) : lookI l k = lookI l' k := by
  have hn' : (l'.map (·.1)).Nodup := (hp.map _).nodup_iff.1 hn
  cases e : lookI l k with
  | none =>
    rw [lookI_none] at e
    symm
    rw [lookI_none]
    intro h
    exact e ((hp.map _).mem_iff.2 h)
  | some v =>
    rw [lookI_some hn] at e
    exact ((lookI_some hn').2 (hp.mem_iff.1 e)).symm
theorem ordP_set : ∀ {l : List Ob} {prev : Option Int} {k : Nat} {o o' : Ob}, l[k]? = some o → o'.id = o.id → ordP prev (l.set k o') = ordP prev l
  | [], _, _, _, _, h, _ => by simp at h
  | a :: l, prev, 0, o, o', h, e => by
    simp at h; subst h
    simp only [List.set_cons_zero, ordP, e]
  | a :: l, prev, k + 1, o, o', h, e => by
    simp only [List.set_cons_succ, ordP]
    rw [ordP_set (by simpa using h) e]
theorem placed_set {b : Bd} {k : Nat} {o o' : Ob} (h : placedB validO b = true) (hk : b.objs[k]? = some o) (h1 : o'.id = o.id) (h2 : o'.owner = o.owner) (h3 : o'.card = o.card) (hv : validO o' = true) : placedB validO (setOb b k o') = true := by
  obtain ⟨p1, p2, p3⟩ := placed_objs h
  have hn := placed_nodup h
  have e1 : pairsB (setOb b k o') = pairsB b := rfl
  have e2 : (setOb b k o').stack = b.stack := rfl
  have e3 : (setOb b k o').objs = b.objs.set k o' := rfl
  simp only [placedB, Bool.and_eq_true, decide_eq_true_eq, objsGo_eq, e1, e2, e3, List.length_set, ids_pairs]
  refine ⟨hn, ⟨by rw [ordP_set hk h1]; exact p1, ?_⟩, p3⟩
  rw [List.all_eq_true]
  intro x hx
  rcases List.mem_or_eq_of_mem_set hx with hx | rfl
  · exact List.all_eq_true.1 p2 x hx
  · have := List.all_eq_true.1 p2 o (List.mem_of_getElem? hk)
    simp only [ok1, Bool.and_eq_true] at this ⊢
    rw [h1, h2, h3]
    exact ⟨hv, this.2⟩
theorem placed_perm {b c : Bd} (h : placedB validO b = true) (hp : (pairsB b).Perm (pairsB c)) (ho : c.objs = b.objs) (hc : carded c.stack = carded b.stack) : placedB validO c = true := by
  obtain ⟨p1, p2, p3⟩ := placed_objs h
  have hn := placed_nodup h
  rw [← ids_pairs] at hn
  simp only [placedB, Bool.and_eq_true, decide_eq_true_eq, objsGo_eq, ho, hc]
  refine ⟨(hp.map _).nodup_iff.1 hn, ⟨p1, ?_⟩, by rw [← hp.length_eq]; exact p3⟩
  have : (b.objs.all (ok1 (pairsB c) (carded b.stack))) = b.objs.all (ok1 (pairsB b) (carded b.stack)) := by
    congr 1
    funext o
    simp only [ok1, lookI_perm hn hp]
  rw [this]; exact p2
theorem validO_reset {o : Ob} (z : Int) (h : validO o = true) : validO (resetO o z) = true := by
  rw [validO_iff] at h ⊢
  simp only [resetO]
  obtain ⟨⟨a1, a2, a3, a4, a5, a6⟩, a7⟩ := h
  exact ⟨⟨a1, a2, by omega, by omega, by omega, by omega⟩, a7⟩

/-! Drawing one card -/
def midS (s : St) (id : Int) : St := { s with lib := s.lib.dropLast, hand := s.hand ++ [id] }
def midB (b : Bd) (p id : Int) : Bd := withSeat b p (midS (seatOf b p) id)
theorem pairs_mid {s : St} {l : List Int} {id : Int} (p : Int) (hl : s.lib = l ++ [id]) : (pairsS s p).Perm (pairsS (midS s id) p) := by
  simp only [pairsS, midS, hl, List.dropLast_concat]
  refine List.Perm.map _ ?_
  simp only [List.append_assoc]
  exact List.Perm.append_left l ((List.perm_append_comm_assoc _ _ _))
theorem mid_facts {b : Bd} {p : Int} (hp : p = 0 ∨ p = 1) {l : List Int} {id : Int} (hl : (seatOf b p).lib = l ++ [id]) :
    (pairsB b).Perm (pairsB (midB b p id)) ∧ (midB b p id).objs = b.objs ∧ (midB b p id).stack = b.stack ∧ (id, p) ∈ pairsB b := by
  rcases hp with rfl | rfl
  · have hl' : b.s0.lib = l ++ [id] := hl
    refine ⟨?_, rfl, rfl, ?_⟩
    · exact (pairs_mid 0 hl').append_right _
    · simp [pairsB, pairsS, hl']
  · have hl' : b.s1.lib = l ++ [id] := hl
    refine ⟨?_, rfl, rfl, ?_⟩
    · exact ((pairs_mid 1 hl').append_right _).append_left _
    · simp [pairsB, pairsS, hl']
/-- Two boards that differ in nothing that validity looks at, but for objects and places. -/
theorem valid_of {b c : Bd} (h : validBd b = true) (hpl : placedB validO c = true) (hf : fightsBd c = fightsBd b) (h0 : seatOkB c.s0 = seatOkB b.s0) (h1 : seatOkB c.s1 = seatOkB b.s1)
    (e1 : c.active = b.active) (e2 : c.turn = b.turn) (e3 : c.phase = b.phase) (e4 : c.holder = b.holder) (e5 : c.passes = b.passes) (e6 : c.stack = b.stack) (e7 : c.queue = b.queue) (e8 : c.objs.length = b.objs.length) : validBd c = true := by
  have hp := (valid_parts h).1
  have : validBd c = validBd b := by
    simp only [validBd, midBad, hf, h0, h1, e1, e2, e3, e4, e5, e6, e7, e8, hpl, hp]
  rw [this]; exact h
theorem mid_valid {b : Bd} (h : validBd b = true) {p : Int} (hp : p = 0 ∨ p = 1) {l : List Int} {id : Int} (hl : (seatOf b p).lib = l ++ [id]) : validBd (midB b p id) = true := by
  obtain ⟨m1, m2, m3, _⟩ := mid_facts hp hl
  have hpl := placed_perm (valid_parts h).1 m1 m2 (by rw [m3])
  rcases hp with rfl | rfl <;> exact valid_of h hpl rfl rfl rfl rfl rfl rfl rfl rfl rfl rfl rfl
theorem set_valid {b : Bd} {k : Nat} {o o' : Ob} (h : validBd b = true) (hk : b.objs[k]? = some o) (h1 : o'.id = o.id) (h2 : o'.owner = o.owner) (h3 : o'.card = o.card) (hv : validO o' = true) : validBd (setOb b k o') = true :=
  valid_of h (placed_set (valid_parts h).1 hk h1 h2 h3 hv) rfl rfl rfl rfl rfl rfl rfl rfl rfl rfl (by simp [setOb])
theorem fights_sub {own other att : List Int} {bl : List Bl} (h : fightsB own other att bl = true) : (∀ x ∈ att, x ∈ own) ∧ ∀ x ∈ bl, x.attacker ∈ own ∧ x.blocker ∈ other := by
  simp only [fightsB, Bool.and_eq_true, List.all_eq_true, List.contains_iff_mem] at h
  obtain ⟨_, h2, h3⟩ := h
  refine ⟨h2, ?_⟩
  have key : ∀ (bl : List Bl) (ua ub : List Int), blkGo att other ua ub bl = true → ∀ x ∈ bl, x.attacker ∈ att ∧ x.blocker ∈ other := by
    intro bl
    induction bl with
    | nil => intro _ _ _ x hx; simp at hx
    | cons a r ih =>
      intro ua ub h x hx
      simp only [blkGo, Bool.and_eq_true, List.contains_iff_mem] at h
      rcases List.mem_cons.1 hx with rfl | hx
      · exact ⟨h.1.1.2, h.1.2.2⟩
      · exact ih _ _ h.2 x hx
  intro x hx
  obtain ⟨a, c⟩ := key bl [] [] h3 x hx
  exact ⟨h2 _ a, c⟩
theorem fights_ids {b : Bd} (h : fightsBd b = true) : (∀ x ∈ b.att, x ∈ b.s0.field ∨ x ∈ b.s1.field) ∧ ∀ x ∈ b.blocks, (x.attacker ∈ b.s0.field ∨ x.attacker ∈ b.s1.field) ∧ (x.blocker ∈ b.s0.field ∨ x.blocker ∈ b.s1.field) := by
  unfold fightsBd at h
  split at h
  · obtain ⟨a, c⟩ := fights_sub h
    exact ⟨fun x hx => .inl (a x hx), fun x hx => ⟨.inl (c x hx).1, .inr (c x hx).2⟩⟩
  · obtain ⟨a, c⟩ := fights_sub h
    exact ⟨fun x hx => .inr (a x hx), fun x hx => ⟨.inr (c x hx).1, .inl (c x hx).2⟩⟩
theorem without_last {l : List Int} {id : Int} (h : l.count id = 0) : without (l ++ [id]) id = l := by
  have : without (l ++ [id]) id = without l id := by simp [without]
  rw [this, without_self h]
/-- What is in no place but in the library is drawn when it moves. -/
theorem move_mid {b : Bd} (h : validBd b = true) {p : Int} (hp : p = 0 ∨ p = 1) {l : List Int} {id : Int} (hl : (seatOf b p).lib = l ++ [id]) {k : Nat} {o : Ob} (hk : b.objs[k]? = some o) (hid : o.id = id) (hown : o.owner = p) :
    moveB b k (resetO o 1) 1 = setOb (midB b p id) k (resetO o 1) := by
  obtain ⟨hpl, hfi, _, _⟩ := valid_parts h
  have hn := placed_nodup hpl
  have hc := List.nodup_iff_count.1 hn id
  obtain ⟨f1, f2⟩ := fights_ids hfi
  have hst : ∀ c : Nat, ((cardsOn b.stack).map (·.id)).count id = 0 → (b.stack.filter fun x => !isOn id x) = b.stack := by
    intro _ h0
    rw [List.filter_eq_self]
    intro x hx
    have hni := List.count_eq_zero.1 h0
    simp only [isOn, Bool.not_eq_true', Bool.and_eq_false_iff, decide_eq_false_iff_not, beq_eq_false_iff_ne, ne_eq]
    by_cases ht : x.trig < 0
    · right
      intro e
      exact hni (List.mem_map.2 ⟨x, by simp [cardsOn, hx, ht], e⟩)
    · exact .inl ht
  have hfight : b.s0.field.count id = 0 → b.s1.field.count id = 0 → without b.att id = b.att ∧ (b.blocks.filter fun x => !inFight id x) = b.blocks := by
    intro a0 a1
    have n0 := List.count_eq_zero.1 a0
    have n1 := List.count_eq_zero.1 a1
    constructor
    · apply without_self
      apply List.count_eq_zero.2
      intro hm
      rcases f1 id hm with h | h
      · exact n0 h
      · exact n1 h
    · rw [List.filter_eq_self]
      intro x hx
      obtain ⟨g1, g2⟩ := f2 x hx
      simp only [inFight, Bool.not_eq_true', Bool.or_eq_false_iff, beq_eq_false_iff_ne, ne_eq]
      constructor
      · rintro rfl
        rcases g2 with h | h
        · exact n0 h
        · exact n1 h
      · rintro rfl
        rcases g1 with h | h
        · exact n0 h
        · exact n1 h
  have r1 : (resetO o 1).id = id := hid
  have r2 : (resetO o 1).owner = p := hown
  rw [moveB, r1, r2]
  rcases hp with rfl | rfl
  · have hl' : b.s0.lib = l ++ [id] := hl
    simp only [idsB, idsS, hl', List.count_append, List.count_singleton_self] at hc
    obtain ⟨q1, q2⟩ := hfight (by omega) (by omega)
    have q3 := hst 0 (by omega)
    simp only [putB, withSeat, seatOf, if_true, setOb, outB, outS, putZ, midB, midS, hl', q1, q2, q3]
    rw [without_last (by omega), without_self (by omega), without_self (by omega), without_self (by omega), without_self (by omega), without_self (by omega), without_self (by omega), without_self (by omega), List.dropLast_concat]
    simp
  · have hl' : b.s1.lib = l ++ [id] := hl
    simp only [idsB, idsS, hl', List.count_append, List.count_singleton_self] at hc
    obtain ⟨q1, q2⟩ := hfight (by omega) (by omega)
    have q3 := hst 0 (by omega)
    have ne : ¬ (1 : Int) = 0 := by omega
    simp only [putB, withSeat, seatOf, ne, if_false, setOb, outB, outS, putZ, midB, midS, hl', q1, q2, q3]
    rw [without_last (by omega), without_self (by omega), without_self (by omega), without_self (by omega), without_self (by omega), without_self (by omega), without_self (by omega), without_self (by omega), List.dropLast_concat]
    simp
end Go.Proofs.YtjaegdkkiefchaaGreatDoor
