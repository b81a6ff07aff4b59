/- The program and the reference agree on which boards are valid: plain law. -/
import Derived.Test.YtjaegdkkiefchaaGreatDoorC14
namespace Go.Proofs.YtjaegdkkiefchaaGreatDoor
open Go Go.Sx
set_option maxRecDepth 100000
set_option maxHeartbeats 1000000

theorem nodup_perm {α : Type} [DecidableEq α] : ∀ {l r : List α}, l.Nodup → (∀ x ∈ l, x ∈ r) → r.length ≤ l.length → r.Perm l
  | [], r, _, _, h => by
    have : r = [] := List.eq_nil_of_length_eq_zero (by simpa using h)
    subst this; exact List.Perm.refl _
  | a :: l, r, hn, hs, h => by
    rw [List.nodup_cons] at hn
    have har : a ∈ r := hs a (by simp)
    have h1 := nodup_perm (l := l) (r := r.erase a) hn.2 (fun x hx => (List.mem_erase_of_ne (fun e => hn.1 (by subst e; exact hx))).2 (hs x (by simp [hx]))) (by
      rw [List.length_erase_of_mem har]; simp only [List.length_cons] at h; omega)
    exact (List.perm_cons_erase har).trans (h1.cons a)
theorem nodup_of_map {α β : Type} (f : α → β) : ∀ {l : List α}, (l.map f).Nodup → l.Nodup
  | [], _ => List.nodup_nil
  | a :: l, h => by
    rw [List.map_cons, List.nodup_cons] at h
    exact List.nodup_cons.2 ⟨fun hm => h.1 (List.mem_map.2 ⟨a, hm, rfl⟩), nodup_of_map f h.2⟩
def ordP : Option Int → List Ob → Bool
  | _, [] => true
  | prev, o :: r => !prevBad prev o.id && ordP (some o.id) r
def ok1 (ps cs : List (Int × Int)) (o : Ob) : Bool := validO o && ((lookI ps o.id).isSome && (((lookI ps o.id).getD 0 == o.owner) && !((lookI cs o.id).isSome && ((lookI cs o.id).getD 0 != o.card))))
def ok2 (b : Bd) (o : Ob) : Bool := validO o && (((placesN b o.owner o.id : Nat) : Int) == 1)
theorem objsGo_eq {ps cs : List (Int × Int)} : ∀ (l : List Ob) (prev : Option Int), objsGo validO ps cs prev l = (ordP prev l && l.all (ok1 ps cs))
  | [], _ => rfl
  | o :: r, prev => by
    simp only [objsGo, objBad, ordP, List.all_cons, ok1, objsGo_eq r (some o.id), bne]
    cases validO o <;> cases prevBad prev o.id <;> cases lookI ps o.id <;> cases lookI cs o.id <;> simp [Bool.and_assoc, Bool.and_comm, Bool.and_left_comm]
theorem objsGoR_eq {b : Bd} : ∀ (l : List Ob) (prev : Option Int), objsGoR b prev l = (ordP prev l && l.all (ok2 b))
  | [], _ => rfl
  | o :: r, prev => by
    simp only [objsGoR, ordP, List.all_cons, ok2, objsGoR_eq r (some o.id)]
    cases validO o <;> cases prevBad prev o.id <;> simp [Bool.and_assoc, Bool.and_comm, Bool.and_left_comm]
theorem ordP_spec : ∀ {l : List Ob} {prev : Option Int}, ordP prev l = true → (∀ o ∈ l, ∀ p, prev = some p → p < o.id) ∧ (l.map (·.id)).Nodup
  | [], _, _ => ⟨by simp, by simp⟩
  | o :: r, prev, h => by
    simp only [ordP, Bool.and_eq_true, Bool.not_eq_true'] at h
    obtain ⟨k1, k2⟩ := ordP_spec h.2
    have hp : ∀ p, prev = some p → p < o.id := by
      rintro p rfl
      have := h.1
      simp only [prevBad, decide_eq_false_iff_not] at this
      omega
    refine ⟨fun x hx p e => ?_, ?_⟩
    · rcases List.mem_cons.1 hx with rfl | hx
      · exact hp p e
      · have := k1 x hx _ rfl; have := hp p e; omega
    · rw [List.map_cons, List.nodup_cons]
      refine ⟨fun hm => ?_, k2⟩
      obtain ⟨x, hx, e⟩ := List.mem_map.1 hm
      have := k1 x hx _ rfl
      omega
theorem ids_inj {l : List Ob} (h : (l.map (·.id)).Nodup) : ∀ {x y : Ob}, x ∈ l → y ∈ l → x.id = y.id → x = y := by
  induction l with
  | nil => intro x y hx; cases hx
  | cons a l ih =>
    intro x y hx hy e
    rw [List.map_cons, List.nodup_cons] at h
    rcases List.mem_cons.1 hx with k1 | k1 <;> rcases List.mem_cons.1 hy with k2 | k2
    · rw [k1, k2]
    · exact absurd (List.mem_map.2 ⟨y, k2, by rw [← e, k1]⟩) h.1
    · exact absurd (List.mem_map.2 ⟨x, k1, by rw [e, k2]⟩) h.1
    · exact ih h.2 k1 k2 e
theorem count_pair (l : List Int) (p q id : Int) : (l.map fun i => (i, p)).count (id, q) = if p = q then l.count id else 0 := by
  induction l with
  | nil => simp
  | cons a l ih =>
    simp only [List.map_cons, List.count_cons, ih, beq_iff_eq, Prod.mk.injEq]
    by_cases hp : p = q
    · simp [hp]
    · simp [hp]
theorem count_owned {l : List It} (ht : ∀ x ∈ l, x.trig < 0 → x.trig = -1) (p id : Int) : (owned l).count (id, p) = l.countP (onStack p id) := by
  induction l with
  | nil => rfl
  | cons x l ih =>
    have ih := ih fun y hy => ht y (by simp [hy])
    have hx := ht x (by simp)
    rw [show x :: l = [x] ++ l from rfl, owned_append, List.count_append, List.countP_append, ih]
    congr 1
    by_cases h : x.trig < 0
    · rw [owned_one h, List.count_singleton, List.countP_singleton]
      have h1 := hx h
      have e : ((x.id, x.player) == (id, p)) = onStack p id x := by
        simp only [onStack, h1, beq_self_eq_true, Bool.true_and]
        rw [Bool.eq_iff_iff]
        simp [Prod.ext_iff]
      rw [e]
    · rw [owned_none h, List.countP_singleton]
      have : onStack p id x = false := by
        have : x.trig ≠ -1 := by omega
        simp [onStack, this]
      rw [this]; rfl
theorem len_owned (l : List It) : (owned l).length = l.countP isCard := by
  rw [owned, List.length_map, cardsOn, List.countP_eq_length_filter]
  congr 2
  funext x
  simp only [isCard]
  by_cases h : x.trig < 0
  · have : ¬ x.trig ≥ 0 := by omega
    simp [h, this]
  · have : x.trig ≥ 0 := by omega
    simp [h, this]
theorem len_pairs (b : Bd) : (pairsB b).length = manyS b + b.stack.countP isCard := by
  simp only [pairsB, pairsS, List.length_append, List.length_map, len_owned, manyS]
  omega
theorem count_pairs {b : Bd} (ht : ∀ x ∈ b.stack, x.trig < 0 → x.trig = -1) {p : Int} (hp : p = 0 ∨ p = 1) (id : Int) : (pairsB b).count (id, p) = placesN b p id := by
  simp only [pairsB, pairsS, List.count_append, count_pair, count_owned ht, placesN, zonesN]
  rcases hp with rfl | rfl
  · simp; omega
  · simp; omega
theorem found_placed {b : Bd} (ht : ∀ x ∈ b.stack, x.trig < 0 → x.trig = -1) : foundR b = placedB validO b := by
  simp only [foundR, placedB, objsGo_eq, objsGoR_eq]
  have hl : ((((manyS b + b.stack.countP isCard : Nat) : Int) == (b.objs.length : Int)) = decide ((pairsB b).length = b.objs.length)) := by
    rw [len_pairs, Bool.eq_iff_iff]
    simp only [beq_iff_eq, decide_eq_true_eq]
    omega
  rw [hl, Bool.eq_iff_iff]
  simp only [Bool.and_eq_true, List.all_eq_true, decide_eq_true_eq]
  constructor
  · rintro ⟨hst, ⟨hord, hok⟩, hlen⟩
    obtain ⟨_, hnd⟩ := ordP_spec hord
    have hL : (b.objs.map fun o => (o.id, o.owner)).Nodup := by
      have e : (b.objs.map fun o => (o.id, o.owner)).map (·.1) = b.objs.map (·.id) := by rw [List.map_map]; rfl
      exact nodup_of_map (·.1) (by rw [e]; exact hnd)
    have hsub : ∀ x ∈ (b.objs.map fun o => (o.id, o.owner)), x ∈ pairsB b := by
      intro x hx
      obtain ⟨o, ho, rfl⟩ := List.mem_map.1 hx
      have h2 := hok o ho
      simp only [ok2, Bool.and_eq_true, beq_iff_eq] at h2
      have hc := count_pairs ht (validO_owner h2.1) o.id
      refine List.count_pos_iff.1 ?_
      rw [hc]; omega
    have hperm := nodup_perm hL hsub (by simp [hlen])
    have hfst : ((pairsB b).map (·.1)).Perm (b.objs.map (·.id)) := by
      have := hperm.map (·.1)
      rwa [List.map_map] at this
    have hnp : ((pairsB b).map (·.1)).Nodup := hfst.nodup_iff.2 hnd
    refine ⟨hnp, ⟨hord, fun o ho => ?_⟩, hlen⟩
    have h2 := hok o ho
    simp only [ok2, Bool.and_eq_true, beq_iff_eq] at h2
    have hlk : lookI (pairsB b) o.id = some o.owner := (lookI_some hnp).2 (hsub _ (List.mem_map.2 ⟨o, ho, rfl⟩))
    simp only [ok1, h2.1, hlk, Option.isSome_some, Option.getD_some, beq_self_eq_true, Bool.true_and, Bool.not_eq_true']
    cases hc : lookI (carded b.stack) o.id with
    | none => rfl
    | some c =>
      simp only [Option.isSome_some, Option.getD_some, Bool.true_and, bne_eq_false_iff_eq]
      -- the card on the stack
      have hmem : (o.id, c) ∈ carded b.stack := by
        simp only [lookI, Option.map_eq_some_iff] at hc
        obtain ⟨⟨k, c'⟩, hf, rfl⟩ := hc
        have h3 := List.find?_some hf
        have h4 := List.mem_of_find?_eq_some hf
        simp only [beq_iff_eq] at h3
        rw [h3]; exact h4
      simp only [carded, cardsOn, List.mem_map, List.mem_filter, decide_eq_true_eq, Prod.mk.injEq] at hmem
      obtain ⟨x, ⟨hx, hxt⟩, e1, e2⟩ := hmem
      have hsx := hst x hx
      have hn : decide (x.trig ≥ 0) = false := by simp; omega
      simp only [stItem, hn, Bool.false_or, Bool.not_eq_true', Bool.or_eq_false_iff, decide_eq_false_iff_not, bne_eq_false_iff_eq] at hsx
      rcases idxP_spec (fun o => o.id == x.id) b.objs 0 (by omega) with ⟨e, _⟩ | ⟨k, o', k1, k2, k3⟩
      · exfalso; apply hsx.1; show idxO b x.id < 0; unfold idxO; omega
      · have k3 : idxO b x.id = (k : Int) := by unfold idxO; omega
        have hca : cardAt b (idxO b x.id) = o'.card := by rw [k3]; simp [cardAt, k1]
        simp only [beq_iff_eq] at k2
        have : o' = o := ids_inj hnd (List.mem_of_getElem? k1) ho (by rw [k2, e1])
        rw [← e2, ← hsx.2, hca, this]
  · rintro ⟨hnp, ⟨hord, hok⟩, hlen⟩
    obtain ⟨_, hnd⟩ := ordP_spec hord
    have hids := nodup_back (l := b.objs.map (·.id)) (r := (pairsB b).map (·.1)) hnd (fun y hy => by
      obtain ⟨o, ho, rfl⟩ := List.mem_map.1 hy
      have h2 := hok o ho
      simp only [ok1, Bool.and_eq_true] at h2
      rcases Classical.em (o.id ∈ (pairsB b).map (·.1)) with h | h
      · exact h
      · have h3 := h2.2.1; rw [lookI_none.2 h] at h3; cases h3) (by simp [hlen])
    refine ⟨fun x hx => ?_, ⟨hord, fun o ho => ?_⟩, hlen⟩
    · by_cases hxt : x.trig < 0
      · have hn : decide (x.trig ≥ 0) = false := by simp; omega
        have hxp : x.id ∈ (pairsB b).map (·.1) := by
          simp only [pairsB, List.map_append, List.mem_append]
          right; right
          simp only [owned, cardsOn, List.mem_map, List.mem_filter, decide_eq_true_eq]
          exact ⟨_, ⟨x, ⟨hx, hxt⟩, rfl⟩, rfl⟩
        obtain ⟨o, ho, hoid⟩ := List.mem_map.1 (hids _ hxp)
        simp only [stItem, hn, Bool.false_or, Bool.not_eq_true', Bool.or_eq_false_iff, decide_eq_false_iff_not, bne_eq_false_iff_eq]
        rcases idxP_spec (fun o => o.id == x.id) b.objs 0 (by omega) with ⟨_, e⟩ | ⟨k, o', k1, k2, k3⟩
        · have := e o ho; simp [hoid] at this
        · have k3 : idxO b x.id = (k : Int) := by unfold idxO; omega
          refine ⟨by omega, ?_⟩
          rw [k3]
          simp only [beq_iff_eq] at k2
          have h2 := hok o' (List.mem_of_getElem? k1)
          simp only [ok1, Bool.and_eq_true, Bool.not_eq_true'] at h2
          have hcn : ((carded b.stack).map (·.1)).Nodup := by
            have e : (carded b.stack).map (·.1) = (owned b.stack).map (·.1) := by simp only [carded, owned, List.map_map]; rfl
            rw [e]
            simp only [pairsB, List.map_append] at hnp
            exact (List.nodup_append.1 (List.nodup_append.1 hnp).2.1).2.1
          have hlk : lookI (carded b.stack) x.id = some x.card := (lookI_some hcn).2 (by
            simp only [carded, cardsOn, List.mem_map, List.mem_filter, decide_eq_true_eq]
            exact ⟨x, ⟨hx, hxt⟩, rfl⟩)
          have h3 := h2.2.2.2
          rw [k2, hlk] at h3
          simp only [Option.isSome_some, Option.getD_some, Bool.true_and, bne_eq_false_iff_eq] at h3
          simp only [cardAt, Int.toNat_natCast, k1, Option.map_some, Option.getD_some]
          exact h3.symm
      · have hn : decide (x.trig ≥ 0) = true := by simp; omega
        simp only [stItem, hn, Bool.true_or]
    · have h2 := hok o ho
      simp only [ok1, Bool.and_eq_true, beq_iff_eq] at h2
      obtain ⟨v1, v2, v3, _⟩ := h2
      have hlk : lookI (pairsB b) o.id = some o.owner := by
        cases e : lookI (pairsB b) o.id with
        | none => rw [e] at v2; cases v2
        | some c => rw [e] at v3; rw [← v3]; rfl
      have hmem := (lookI_some hnp).1 hlk
      have hnp' : (pairsB b).Nodup := nodup_of_map (·.1) hnp
      have hc := count_pairs ht (validO_owner v1) o.id
      have h1 : (pairsB b).count (o.id, o.owner) = 1 := by
        have a1 := List.count_pos_iff.2 hmem
        have a2 := List.nodup_iff_count.1 hnp' (o.id, o.owner)
        omega
      simp only [ok2, v1, Bool.true_and, beq_iff_eq]
      rw [hc] at h1; omega
end Go.Proofs.YtjaegdkkiefchaaGreatDoor
