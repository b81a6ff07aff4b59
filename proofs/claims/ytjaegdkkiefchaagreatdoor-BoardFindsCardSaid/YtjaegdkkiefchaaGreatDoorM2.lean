/- Which boards are valid: as the program reckons it, as plain lists. Generic. -/
import Derived.Test.YtjaegdkkiefchaaGreatDoorM
namespace Go.Sx
open Go

/-- Entries whose values are numbers. -/
def entsOf (l : List (Int × Int)) : Ents := l.map fun p => (p.1, iV p.2)
def lookI (l : List (Int × Int)) (k : Int) : Option Int := (l.find? fun p => k == p.1).map (·.2)
theorem lookM_ents (l : List (Int × Int)) (k : Int) : lookM (entsOf l) k = (lookI l k).map iV := by
  induction l with
  | nil => rfl
  | cons p r ih =>
    by_cases h : k = p.1
    · simp [lookM, lookI, entsOf, h]
    · simp only [lookM, lookI, entsOf, List.map_cons, List.find?_cons] at ih ⊢
      have hb : (k == p.1) = false := by simpa using h
      simp only [hb]
      exact ih
theorem lookI_none {l : List (Int × Int)} {k : Int} : lookI l k = none ↔ k ∉ l.map (·.1) := by
  induction l with
  | nil => simp [lookI]
  | cons p r ih =>
    by_cases h : k = p.1
    · simp [lookI, h]
    · have hb : (k == p.1) = false := by simpa using h
      simp only [lookI, List.find?_cons, hb, List.map_cons, List.mem_cons, not_or] at ih ⊢
      rw [ih]; simp [h]
theorem lookI_some {l : List (Int × Int)} {k v : Int} (hn : (l.map (·.1)).Nodup) : lookI l k = some v ↔ (k, v) ∈ l := by
  induction l with
  | nil => simp [lookI]
  | cons p r ih =>
    simp only [List.map_cons, List.nodup_cons] at hn
    by_cases h : k = p.1
    · simp only [lookI, List.find?_cons, h, beq_self_eq_true, Option.map_some, Option.some.injEq, List.mem_cons]
      constructor
      · rintro rfl; left; rfl
      · rintro (h' | h')
        · rw [← h']
        · exact absurd (List.mem_map_of_mem (f := Prod.fst) h') hn.1
    · have hb : (k == p.1) = false := by simpa using h
      have := ih hn.2
      simp only [lookI, List.find?_cons, hb] at this ⊢
      rw [this]
      simp only [List.mem_cons]
      constructor
      · exact .inr
      · rintro (h' | h')
        · exact absurd (congrArg Prod.fst h') h
        · exact h'
theorem updM_new {m : Ents} {k : Int} {v : Value} (h : lookM m k = none) : updM m k v = m ++ [(k, v)] := by
  refine updM_none ?_
  rw [List.findIdx?_eq_none_iff]
  intro p hp
  simp only [lookM, Option.map_eq_none_iff, List.find?_eq_none] at h
  simpa using h p hp
theorem upd_ents {l : List (Int × Int)} {k v : Int} (h : k ∉ l.map (·.1)) : updM (entsOf l) k (iV v) = entsOf (l ++ [(k, v)]) := by
  rw [updM_new (by rw [lookM_ents, lookI_none.2 h]; rfl)]
  simp [entsOf]

def pairsS (s : St) (p : Int) : List (Int × Int) := (s.lib ++ (s.hand ++ (s.field ++ s.grave))).map fun i => (i, p)
def cardsOn (l : List It) : List It := l.filter fun x => decide (x.trig < 0)
def owned (l : List It) : List (Int × Int) := (cardsOn l).map fun x => (x.id, x.player)
def carded (l : List It) : List (Int × Int) := (cardsOn l).map fun x => (x.id, x.card)
def pairsB (b : Bd) : List (Int × Int) := pairsS b.s0 0 ++ (pairsS b.s1 1 ++ owned b.stack)
def prevBad (prev : Option Int) (id : Int) : Bool := match prev with | some p => decide (p ≥ id) | none => false
/-- An object, and the one before it. -/
def objBad (ps cs : List (Int × Int)) (prev : Option Int) (valid : Bool) (o : Ob) : Bool :=
  !valid || prevBad prev o.id || (lookI ps o.id).isNone || ((lookI ps o.id).getD 0 != o.owner) || ((lookI cs o.id).isSome && ((lookI cs o.id).getD 0 != o.card))
theorem owned_append (l r : List It) : owned (l ++ r) = owned l ++ owned r := by simp only [owned, cardsOn, List.filter_append, List.map_append]
theorem carded_append (l r : List It) : carded (l ++ r) = carded l ++ carded r := by simp only [carded, cardsOn, List.filter_append, List.map_append]
theorem owned_one {x : It} (h : x.trig < 0) : owned [x] = [(x.id, x.player)] := by simp only [owned, cardsOn, List.filter_cons, h, decide_true, if_true, List.filter_nil, List.map_cons, List.map_nil]
theorem carded_one {x : It} (h : x.trig < 0) : carded [x] = [(x.id, x.card)] := by simp only [carded, cardsOn, List.filter_cons, h, decide_true, if_true, List.filter_nil, List.map_cons, List.map_nil]
theorem owned_none {x : It} (h : ¬ x.trig < 0) : owned [x] = [] := by simp only [owned, cardsOn, List.filter_cons, h, decide_false, Bool.false_eq_true, if_false, List.filter_nil, List.map_nil]
theorem carded_none {x : It} (h : ¬ x.trig < 0) : carded [x] = [] := by simp only [carded, cardsOn, List.filter_cons, h, decide_false, Bool.false_eq_true, if_false, List.filter_nil, List.map_nil]
def objsGo (val : Ob → Bool) (ps cs : List (Int × Int)) : Option Int → List Ob → Bool
  | _, [] => true
  | prev, o :: r => !objBad ps cs prev (val o) o && objsGo val ps cs (some o.id) r
def placedB (val : Ob → Bool) (b : Bd) : Bool := decide ((pairsB b).map (·.1)).Nodup && (objsGo val (pairsB b) (carded b.stack) none b.objs && decide ((pairsB b).length = b.objs.length))
def prevId (l : List Ob) (i : Nat) : Option Int := if i = 0 then none else (l[i - 1]?).map (·.id)
theorem prev_succ {l : List Ob} {i : Nat} (h : i < l.length) : prevId l (i + 1) = some l[i].id := by simp [prevId, h]

def blkGo (att other : List Int) : List Int → List Int → List Bl → Bool
  | _, _, [] => true
  | ua, ub, x :: r => (!ua.contains x.attacker && att.contains x.attacker && (!ub.contains x.blocker && other.contains x.blocker)) && blkGo att other (x.attacker :: ua) (x.blocker :: ub) r
def fightsB (own other att : List Int) (bl : List Bl) : Bool := decide att.Nodup && (att.all (fun x => own.contains x) && blkGo att other [] [] bl)
/-- What the map of the seen says. -/
def seenP (att ua ub : List Int) (k : Int) : Bool := decide ((k ∈ att ∧ k ∉ ua) ∨ -k ∈ ub)
theorem seen_upd {att ua ub : List Int} {m : Ents} {a c : Int} (h : ∀ k, (lookM m k).getD (.bool false) = .bool (seenP att ua ub k)) (hub : ∀ x ∈ ub, 0 < x) (ha : 0 < a) (hc : 0 < c) :
    ∀ k, (lookM (updM (updM m a (.bool false)) (-c) (.bool true)) k).getD (.bool false) = .bool (seenP att (a :: ua) (c :: ub) k) := by
  intro k
  rw [lookM_upd]
  by_cases h1 : k = -c
  · rw [if_pos h1]
    have : seenP att (a :: ua) (c :: ub) k = true := by
      simp only [seenP, decide_eq_true_eq]
      right
      rw [h1]; simp
    rw [this]; rfl
  · rw [if_neg h1, lookM_upd]
    by_cases h2 : k = a
    · rw [if_pos h2]
      have : seenP att (a :: ua) (c :: ub) k = false := by
        simp only [seenP, decide_eq_false_iff_not, not_or, not_and]
        refine ⟨fun _ hn => hn (by rw [h2]; simp), ?_⟩
        rw [h2, List.mem_cons]
        rintro (h3 | h3)
        · omega
        · have := hub _ h3; omega
      rw [this]; rfl
    · rw [if_neg h2, h k]
      congr 1
      simp only [seenP, List.mem_cons, not_or]
      have : ¬ (-k = c) := by omega
      simp [this, h2]
end Go.Sx
