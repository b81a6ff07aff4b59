/- The cells of structs and arrays, one by one. -/
import Derived.Test.YtafnobmndgjeaaaDoorSx28
namespace Go.Sx
open Go

def Leaf (P : Program) (H : Heap) (t : TypeId) (c : Value) : Prop := ∃ k, Wf P H k t [c]
def leavesF (P : Program) (rec : TypeId → Option (List TypeId)) : List Field → Nat → Option (List TypeId)
  | [], _ => some []
  | f :: r, o => if f.offset = o then
      match rec f.type, leavesF P rec r (o + P.cellsOf f.type) with
      | some a, some b => if a.length = P.cellsOf f.type then some (a ++ b) else none
      | _, _ => none
    else none
def leaves (P : Program) : Nat → TypeId → Option (List TypeId)
  | 0, _ => none
  | n + 1, t =>
    match P.underlying t with
    | some (.struct fs) => leavesF P (leaves P n) fs.toList 0
    | some (.array m e) => match leaves P n e with
      | some l => if l.length = P.cellsOf e then some (List.replicate m l).flatten else none
      | none => none
    | some .bool | some (.int _) | some .string | some (.slice _) => some [t]
    | _ => none
theorem drop_take_get {cs : List Value} {o m i : Nat} (h : i < m) : ((cs.drop o).take m)[i]? = cs[o + i]? := by
  rw [List.getElem?_take, if_pos h, List.getElem?_drop]
theorem flatten_rep {l : List TypeId} {s : Nat} (hs : l.length = s) : ∀ {m i : Nat} {t : TypeId}, (List.replicate m l).flatten[i]? = some t → ∃ q r, q < m ∧ r < s ∧ i = q * s + r ∧ l[r]? = some t
  | 0, i, t, h => by simp at h
  | m + 1, i, t, h => by
    rw [List.replicate_succ, List.flatten_cons] at h
    by_cases hi : i < l.length
    · rw [List.getElem?_append_left hi] at h
      exact ⟨0, i, by omega, by omega, by omega, h⟩
    · rw [List.getElem?_append_right (by omega)] at h
      obtain ⟨q, r, h1, h2, h3, h4⟩ := flatten_rep hs h
      refine ⟨q + 1, r, by omega, h2, ?_, h4⟩
      rw [Nat.add_mul]; omega
theorem leafF_get {P : Program} {H : Heap} {k n : Nat} {cs : List Value} (ih : ∀ {t : TypeId} {ds : List Value} {ls : List TypeId}, leaves P n t = some ls → Wf P H k t ds → ∀ (i : Nat) l, ls[i]? = some l → ∃ c, ds[i]? = some c ∧ Leaf P H l c) :
    ∀ {fs : List Field} {o : Nat} {ls : List TypeId}, leavesF P (leaves P n) fs o = some ls → (∀ f ∈ fs, Wf P H k f.type ((cs.drop f.offset).take (P.cellsOf f.type))) → ∀ (i : Nat) l, ls[i]? = some l → ∃ c, cs[o + i]? = some c ∧ Leaf P H l c
  | [], o, ls, h, _, i, l, hi => by simp only [leavesF, Option.some.injEq] at h; subst h; simp at hi
  | f :: r, o, ls, h, hw, i, l, hi => by
    simp only [leavesF] at h
    split at h
    · rename_i hoff
      split at h
      · rename_i a b ha hb
        split at h
        · rename_i hlen
          simp only [Option.some.injEq] at h; subst h
          by_cases hia : i < a.length
          · rw [List.getElem?_append_left hia] at hi
            obtain ⟨c, hc, hl⟩ := ih ha (hw f (by simp)) i l hi
            rw [drop_take_get (by omega), hoff] at hc
            exact ⟨c, hc, hl⟩
          · rw [List.getElem?_append_right (by omega)] at hi
            obtain ⟨c, hc, hl⟩ := leafF_get ih hb (fun f hf => hw f (by simp [hf])) (i - a.length) l hi
            rw [show o + P.cellsOf f.type + (i - a.length) = o + i by omega] at hc
            exact ⟨c, hc, hl⟩
        · simp at h
      · simp at h
    · simp at h
theorem leaf_get {P : Program} {H : Heap} : ∀ {n k : Nat} {t : TypeId} {ds : List Value} {ls : List TypeId}, leaves P n t = some ls → Wf P H k t ds → ∀ (i : Nat) l, ls[i]? = some l → ∃ c, ds[i]? = some c ∧ Leaf P H l c
  | 0, _, _, _, _, h, _, _, _, _ => by simp [leaves] at h
  | n + 1, 0, _, _, _, _, hw, _, _, _ => hw.elim
  | n + 1, k + 1, t, ds, ls, h, hw, i, l, hi => by
    have hw0 := hw
    unfold Wf at hw
    simp only [leaves] at h
    split at h
    · rename_i fs hu
      rw [hu] at hw
      have := leafF_get (cs := ds) (k := k) (fun {t ds ls} => leaf_get (n := n) (k := k)) h hw.2 i l hi
      rwa [Nat.zero_add] at this
    · rename_i m e hu
      rw [hu] at hw
      split at h
      · rename_i a ha
        split at h
        · rename_i hlen
          simp only [Option.some.injEq] at h; subst h
          obtain ⟨q, r, h1, h2, rfl, h4⟩ := flatten_rep hlen hi
          obtain ⟨c, hc, hl⟩ := leaf_get ha (hw.2 q h1) r l h4
          rw [drop_take_get h2] at hc
          exact ⟨c, hc, hl⟩
        · simp at h
      · simp at h
    all_goals first
      | (simp at h; done)
      | (rename_i hu
         simp only [Option.some.injEq] at h; subst h
         cases i with
         | succ i => simp at hi
         | zero =>
           simp only [List.getElem?_cons_zero, Option.some.injEq] at hi; subst hi
           rw [hu] at hw
           first
             | (obtain ⟨x, rfl⟩ := hw; exact ⟨_, rfl, k + 1, hw0⟩)
             | (obtain ⟨x, rfl, h1⟩ := hw; exact ⟨_, rfl, k + 1, hw0⟩)
             | (obtain ⟨x, y, rfl, h1⟩ := hw; exact ⟨_, rfl, k + 1, hw0⟩))
theorem Leaf.int {P : Program} {H : Heap} {t : TypeId} {k : IntKind} {c : Value} (hu : P.underlying t = some (.int k)) (h : Leaf P H t c) : ∃ x, c = .int k x ∧ k.min ≤ x ∧ x ≤ k.max := by
  obtain ⟨n, h⟩ := h
  cases n with
  | zero => exact h.elim
  | succ n => unfold Wf at h; rw [hu] at h; obtain ⟨x, h1, h2⟩ := h; exact ⟨x, (List.cons.inj h1).1, h2⟩
theorem Leaf.bool {P : Program} {H : Heap} {t : TypeId} {c : Value} (hu : P.underlying t = some .bool) (h : Leaf P H t c) : ∃ x, c = .bool x := by
  obtain ⟨n, h⟩ := h
  cases n with
  | zero => exact h.elim
  | succ n => unfold Wf at h; rw [hu] at h; obtain ⟨x, h1⟩ := h; exact ⟨x, (List.cons.inj h1).1⟩
theorem Leaf.str {P : Program} {H : Heap} {t : TypeId} {c : Value} (hu : P.underlying t = some .string) (h : Leaf P H t c) : ∃ l, c = Str l ∧ l.length < 2 ^ 63 := by
  obtain ⟨n, h⟩ := h
  cases n with
  | zero => exact h.elim
  | succ n => unfold Wf at h; rw [hu] at h; obtain ⟨x, h1, h2⟩ := h; exact ⟨x, (List.cons.inj h1).1, h2⟩
theorem Leaf.slice {P : Program} {H : Heap} {t e : TypeId} {c : Value} (hu : P.underlying t = some (.slice e)) (h : Leaf P H t c) : ∃ rows, Sl H (P.cellsOf e) c rows ∧ ∃ n, ∀ r ∈ rows, Wf P H n e r := by
  obtain ⟨n, h⟩ := h
  cases n with
  | zero => exact h.elim
  | succ n =>
    unfold Wf at h; rw [hu] at h
    obtain ⟨s, rows, h1, h2, h3⟩ := h
    obtain rfl := (List.cons.inj h1).1
    exact ⟨rows, h2, n, h3⟩
/-- An argument that is a struct or an array: its cells. -/
theorem agg_leaves {P : Program} {T : Type} {enc : TypeId × Value → T} {w : World} {base : Nat} {sp : Nat → Bool} {held : Bool} {t : TypeId} {r : Reach} {v : Value} {d : DataW T} {p : List MemPlace} {ls : List TypeId} (n : Nat) (hl : leaves P n t = some ls)
    (hsk : structsOk P = true) (htl : Nat.blt t P.types.size = true) (hA : isAggT P t = true) (hc : P.cellsOf t = ls.length) (hv : Value.okWide P w r base t v) (h : DataW.Trod enc P w 0 sp held t v d p) :
    ∃ cs, v = .agg cs.toArray ∧ cs.length = ls.length ∧ Ones cs ∧ ∀ i l, ls[i]? = some l → Leaf P (heapOf w) l (g cs i) := by
  have htl : t < P.types.size := Nat.le_of_ble_eq_true htl
  have hcs : ∃ cs, v = .agg cs ∧ cs.size = P.cellsOf t := by
    unfold isAggT at hA
    split at hA
    · rename_i hu; exact WideShapes.okWide_struct hu hv
    · rename_i hu; exact okWide_arr hu hv
    · cases hA
  obtain ⟨cs, rfl, hs⟩ := hcs
  obtain ⟨fuel, hf⟩ := h
  refine ⟨cs.toList, by simp, by simp only [Array.length_toList]; omega, trod_ones hsk htl hf, fun i l hi => ?_⟩
  obtain ⟨c, h1, h2⟩ := leaf_get hl (wf_of_trod hsk htl hf) i l hi
  have h1' : cs.toList[i]? = some c := h1
  rw [g_get h1']; exact h2
end Go.Sx
