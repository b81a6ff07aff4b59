/- At a loop's head. -/
import Derived.Test.YtafnobmndgjeaaaDoorSx20
namespace Go.Sx
open Go

theorem CellsRel.iff : ∀ {cs : List At} {vs : List Value}, CellsRel cs vs ↔ cs.length = vs.length ∧ ∀ (j : Nat) (a : At) (v : Value), cs[j]? = some a → vs[j]? = some v → a.known = true → v = a.den
  | [], [] => by simp [CellsRel]
  | [], _ :: _ => by simp [CellsRel]
  | _ :: _, [] => by simp [CellsRel]
  | a :: r, v :: vs => by
    simp only [CellsRel, CellsRel.iff (cs := r) (vs := vs), List.length_cons, Nat.add_right_cancel_iff]
    constructor
    · rintro ⟨h1, h2, h3⟩
      refine ⟨h2, fun j x y hx hy hk => ?_⟩
      cases j with
      | zero => simp at hx hy; subst hx; subst hy; exact h1 hk
      | succ j => exact h3 j x y (by simpa using hx) (by simpa using hy) hk
    · rintro ⟨h1, h2⟩
      exact ⟨fun hk => h2 0 a v rfl rfl hk, h1, fun j x y hx hy hk => h2 (j + 1) x y (by simpa using hx) (by simpa using hy) hk⟩

theorem turnCells_len {vs : List Value} : ∀ {cells : List Nat} {cs : List At} {i : Nat}, (turnCells cs vs cells i).length = cs.length
  | [], _, _ => rfl
  | c :: r, cs, i => by rw [turnCells, turnCells_len]; simp
theorem turnCells_get {vs : List Value} : ∀ {cells : List Nat} {cs : List At} {i j : Nat} {a : At}, (turnCells cs vs cells i)[j]? = some a →
    (∃ p, cells[p]? = some j ∧ a = .v (g vs (i + p))) ∨ (cs[j]? = some a ∧ j ∉ cells)
  | [], cs, i, j, a, h => .inr ⟨h, by simp⟩
  | c :: r, cs, i, j, a, h => by
    rw [turnCells] at h
    rcases turnCells_get h with ⟨p, hp, ha⟩ | ⟨h1, h2⟩
    · exact .inl ⟨p + 1, by simpa using hp, by rw [ha]; congr 2; omega⟩
    · by_cases e : c = j
      · subst e
        left
        refine ⟨0, by simp, ?_⟩
        have hlt : c < cs.length := by
          rcases Nat.lt_or_ge c cs.length with h | h
          · exact h
          · rw [List.getElem?_eq_none (by simpa using h)] at h1; cases h1
        rw [List.getElem?_set_self hlt] at h1
        simpa using h1.symm
      · right
        rw [List.getElem?_set_ne e] at h1
        exact ⟨h1, by simp; exact ⟨fun h => e h.symm, h2⟩⟩

theorem idxOf_spec : ∀ {l : List Nat} {t i : Nat}, idxOf l t = some i → l[i]? = some t
  | [], _, _, h => by simp [idxOf] at h
  | a :: r, t, i, h => by
    simp only [idxOf] at h
    split at h
    · rename_i e; simp only [Option.some.injEq] at h; subst h; simp [e]
    · simp only [Option.map_eq_some_iff] at h
      obtain ⟨k, hk, rfl⟩ := h
      simpa using idxOf_spec hk

theorem g_append_left {a b : List Value} {i : Nat} (h : i < a.length) : g (a ++ b) i = g a i := by
  simp [g, List.getD, List.getElem?_append_left h]
theorem g_append_right {a b : List Value} {i : Nat} : g (a ++ b) (a.length + i) = g b i := by
  simp only [g, List.getD]
  rw [List.getElem?_append_right (by omega), Nat.add_sub_cancel_left]
theorem g_get {l : List Value} {i : Nat} {v : Value} (h : l[i]? = some v) : g l i = v := by simp [g, List.getD, h]

def boxVals (s : SS) (x : Nat × Bx × List Nat × Nat) : List Value :=
  match s.mem x.1 with | some b => x.2.2.1.map fun c => (b.cs.getD c .any).den | none => []
theorem headVals_eq (s : SS) (carry : List Nat) (hb : List (Nat × Bx × List Nat × Nat)) : headVals s carry hb = carry.map (fun t => (atOf s t).den) ++ hb.flatMap (boxVals s) := rfl

theorem boxVals_get {s : SS} : ∀ {hb : List (Nat × Bx × List Nat × Nat)} {q : Nat} {pre : List Value}, posOk q hb = true → pre.length = q → (∀ x ∈ hb, (s.mem x.1).isSome = true) →
    ∀ n b cells i, (n, b, cells, i) ∈ hb → ∀ b', s.mem n = some b' → ∀ p c, cells[p]? = some c → g (pre ++ hb.flatMap (boxVals s)) (i + p) = (b'.cs.getD c .any).den
  | [], _, _, _, _, _, n, b, cells, i, h, _, _, _, _, _ => by simp at h
  | (n', b0, cells', i') :: r, q, pre, hp, hl, hs, n, b, cells, i, h, b', hb', p, c, hc => by
    simp only [posOk, Bool.and_eq_true, beq_iff_eq] at hp
    obtain ⟨hi', hp⟩ := hp
    obtain ⟨b1, hb1⟩ := Option.isSome_iff_exists.1 (hs (n', b0, cells', i') (by simp))
    simp only [] at hb1
    have hv : boxVals s (n', b0, cells', i') = cells'.map fun c => (b1.cs.getD c .any).den := by simp only [boxVals, hb1]
    rw [List.flatMap_cons, ← List.append_assoc]
    rcases List.mem_cons.1 h with h | h
    · simp only [Prod.mk.injEq] at h
      obtain ⟨rfl, rfl, rfl, rfl⟩ := h
      rw [hb1] at hb'
      simp only [Option.some.injEq] at hb'; subst hb'
      have hlt : p < cells.length := (List.getElem?_eq_some_iff.1 hc).1
      rw [g_append_left (by rw [List.length_append, hv, List.length_map]; omega), hv, hi', ← hl, g_append_right]
      exact g_get (by simp [hc])
    · exact boxVals_get (pre := pre ++ boxVals s (n', b0, cells', i')) hp (by rw [hv]; simp [hl]) (fun x hx => hs x (by simp [hx])) n b cells i h b' hb' p c hc
end Go.Sx
