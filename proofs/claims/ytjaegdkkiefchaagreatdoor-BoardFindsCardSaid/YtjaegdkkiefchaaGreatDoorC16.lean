/- The program and the reference agree on which boards are valid. -/
import Derived.Test.YtjaegdkkiefchaaGreatDoorC15
namespace Go.Proofs.YtjaegdkkiefchaaGreatDoor
open Go Go.Sx
set_option maxRecDepth 100000
set_option maxHeartbeats 1000000

theorem count_one {l : List Int} (h : l.Nodup) (x : Int) : (((l.count x : Nat) : Int) == 1) = l.contains x := by
  have h1 := List.nodup_iff_count.1 h x
  by_cases hm : x ∈ l
  · have h2 := List.count_pos_iff.2 hm
    have : l.count x = 1 := by omega
    simp [this, hm]
  · have : l.count x = 0 := List.count_eq_zero.2 hm
    simp [this, hm]
theorem att_eq {own att : List Int} (ho : own.Nodup) : att.all (attR own att) = (decide att.Nodup && att.all fun x => own.contains x) := by
  rw [Bool.eq_iff_iff]
  simp only [Bool.and_eq_true, List.all_eq_true, decide_eq_true_eq, attR, count_one ho, beq_iff_eq]
  constructor
  · intro h
    refine ⟨List.nodup_iff_count.2 fun x => ?_, fun x hx => (h x hx).2⟩
    by_cases hm : x ∈ att
    · have := (h x hm).1; omega
    · have := List.count_eq_zero.2 hm; omega
  · rintro ⟨h1, h2⟩ x hx
    refine ⟨?_, h2 x hx⟩
    have := List.nodup_iff_count.1 h1 x
    have := List.count_pos_iff.2 hx
    omega
theorem blk_eq {att other : List Int} (ha : att.Nodup) (ho : other.Nodup) : ∀ (l done : List Bl) (ua ub : List Int), (∀ a, a ∈ ua ↔ ∃ y ∈ done, y.attacker = a) → (∀ a, a ∈ ub ↔ ∃ y ∈ done, y.blocker = a) → blkGo att other ua ub l = blkR att other done l
  | [], _, _, _, _, _ => rfl
  | x :: r, done, ua, ub, h1, h2 => by
    rw [blkGo, blkR, blk_eq ha ho r (done ++ [x]) (x.attacker :: ua) (x.blocker :: ub)]
    · congr 1
      rw [blkOne, count_one ha, count_one ho, Bool.eq_iff_iff]
      simp only [Bool.and_eq_true, Bool.not_eq_true', List.all_eq_true, crossB, Bool.or_eq_false_iff, beq_eq_false_iff_ne, List.contains_iff_mem]
      have e1 : ua.contains x.attacker = false ↔ ∀ y ∈ done, y.attacker ≠ x.attacker := by
        rw [← Bool.not_eq_true, List.contains_iff_mem, h1]
        exact ⟨fun h y hy e => h ⟨y, hy, e⟩, fun h ⟨y, hy, e⟩ => h y hy e⟩
      have e2 : ub.contains x.blocker = false ↔ ∀ y ∈ done, y.blocker ≠ x.blocker := by
        rw [← Bool.not_eq_true, List.contains_iff_mem, h2]
        exact ⟨fun h y hy e => h ⟨y, hy, e⟩, fun h ⟨y, hy, e⟩ => h y hy e⟩
      rw [e1, e2]
      exact ⟨fun ⟨⟨a, b⟩, c, d⟩ => ⟨b, d, fun y hy => ⟨a y hy, c y hy⟩⟩, fun ⟨b, d, e⟩ => ⟨⟨fun y hy => (e y hy).1, b⟩, fun y hy => (e y hy).2, d⟩⟩
    · intro a
      simp only [List.mem_cons, h1, List.mem_append, List.mem_singleton]
      constructor
      · rintro (rfl | ⟨y, hy, e⟩)
        · exact ⟨x, .inr (.inl rfl), rfl⟩
        · exact ⟨y, .inl hy, e⟩
      · rintro ⟨y, hy | hy, e⟩
        · exact .inr ⟨y, hy, e⟩
        · rcases hy with rfl | hy
          · exact .inl e.symm
          · cases hy
    · intro a
      simp only [List.mem_cons, h2, List.mem_append, List.mem_singleton]
      constructor
      · rintro (rfl | ⟨y, hy, e⟩)
        · exact ⟨x, .inr (.inl rfl), rfl⟩
        · exact ⟨y, .inl hy, e⟩
      · rintro ⟨y, hy | hy, e⟩
        · exact .inr ⟨y, hy, e⟩
        · rcases hy with rfl | hy
          · exact .inl e.symm
          · cases hy
theorem fights_eq {own other att : List Int} {bl : List Bl} (ho : own.Nodup) (ht : other.Nodup) : fightsRf own other att bl = fightsB own other att bl := by
  rw [fightsRf, fightsB, att_eq ho]
  by_cases ha : att.Nodup
  · rw [blk_eq ha ht bl [] [] [] (by simp) (by simp), Bool.and_assoc]
  · simp [ha]
theorem placed_field {b : Bd} (h : placedB validO b = true) : b.s0.field.Nodup ∧ b.s1.field.Nodup := by
  simp only [placedB, Bool.and_eq_true, decide_eq_true_eq] at h
  have h1 := h.1
  have e : ∀ (l : List Int) (p : Int), (l.map fun i => (i, p)).map (·.1) = l := fun l p => by rw [List.map_map]; simp [Function.comp_def]
  simp only [pairsB, pairsS, List.map_append, e] at h1
  have h2 := List.nodup_append.1 h1
  have h3 := List.nodup_append.1 h2.2.1
  have f : ∀ {a b c d : List Int}, (a ++ (b ++ (c ++ d))).Nodup → c.Nodup := fun h => (List.nodup_append.1 (List.nodup_append.1 (List.nodup_append.1 h).2.1).2.1).1
  exact ⟨f h2.1, f h3.1⟩
theorem fightsB_eq {b : Bd} (h : placedB validO b = true) : fightsRB b = fightsBd b := by
  obtain ⟨h0, h1⟩ := placed_field h
  rw [fightsRB, fightsBd, fights_eq h0 h1, fights_eq h1 h0]
theorem fine_trig {x : It} {q : Bool} (h : fineB x q = true) : x.trig < 0 → x.trig = -1 := by
  simp only [fineB, withinB, Bool.and_eq_true, decide_eq_true_eq] at h
  omega
theorem valid_eq (b : Bd) : validRB b = validBd b := by
  rw [Bool.eq_iff_iff]
  have hall : ∀ (l : List It) (q : Bool), l.all (fun x => fineB x q) = !(l.any fun x => !fineB x q) := fun l q => by
    induction l with
    | nil => rfl
    | cons a l ih => simp [ih]
  have hnum : numsR b = (withinB b.active 0 1 && (withinB b.turn 0 1000 && (withinB b.phase 0 10 && (withinB b.holder (-1) 1 && !midBad b)))) := by
    rw [Bool.eq_iff_iff]
    simp only [numsR, withinB, midBad, Bool.and_eq_true, Bool.not_eq_true', Bool.or_eq_false_iff, decide_eq_true_eq, decide_eq_false_iff_not, Bool.not_eq_false']
    omega
  have key : ∀ (x y : Bool), (b.stack.all (fun x => fineB x false) = true → x = y) → ((b.stack.all (fun x => fineB x false) && x) = true ↔ (b.stack.all (fun x => fineB x false) && y) = true) := by
    intro x y h
    cases hs : b.stack.all (fun x => fineB x false) with
    | false => simp
    | true => rw [h hs]
  have hf : b.stack.all (fun x => fineB x false) = true → (foundR b && fightsRB b) = (placedB validO b && fightsBd b) := by
    intro hs
    rw [List.all_eq_true] at hs
    rw [found_placed fun x hx => fine_trig (hs x hx)]
    cases hp : placedB validO b with
    | false => rfl
    | true => rw [fightsB_eq hp]
  have e1 : validRB b = (numsR b && (b.queue.all (fun x => fineB x true) && (seatOkB b.s0 && (seatOkB b.s1 && (b.stack.all (fun x => fineB x false) && (foundR b && fightsRB b)))))) := by
    rw [validRB]
    cases b.stack.all (fun x => fineB x false) <;> simp
  have e2 : validBd b = (numsR b && (b.queue.all (fun x => fineB x true) && (seatOkB b.s0 && (seatOkB b.s1 && (b.stack.all (fun x => fineB x false) && (placedB validO b && fightsBd b)))))) := by
    rw [validBd, hnum, hall, hall]
    cases withinB b.active 0 1 <;> cases withinB b.turn 0 1000 <;> cases withinB b.phase 0 10 <;> cases withinB b.holder (-1) 1 <;> cases midBad b <;> cases seatOkB b.s0 <;> cases seatOkB b.s1 <;> cases (b.stack.any fun x => !fineB x false) <;> cases (b.queue.any fun x => !fineB x true) <;> rfl
  rw [e1, e2]
  simp only [Bool.and_eq_true]
  have := key _ _ hf
  simp only [Bool.and_eq_true] at this
  rw [this]
end Go.Proofs.YtjaegdkkiefchaaGreatDoor
