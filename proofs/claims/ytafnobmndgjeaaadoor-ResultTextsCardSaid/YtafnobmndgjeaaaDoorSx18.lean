/- Regions, whatever order is drawn. -/
import Derived.Test.YtafnobmndgjeaaaDoorSx17
namespace Go.Sx
open Go

theorem nodup_mid {l1 l2 : List Nat} {a : Nat} : (l1 ++ a :: l2).Nodup ↔ (a :: (l1 ++ l2)).Nodup := List.perm_middle.nodup_iff
/-- Each comes behind those that must be before it. -/
def TopoP (L : Nat → Prop) : List (Nat × Oper) → Prop
  | [] => True
  | (i, o) :: r => (∀ p ∈ predsOf o, L p) ∧ TopoP (fun p => L p ∨ p = i) r
theorem TopoP.mono : ∀ {l : List (Nat × Oper)} {L L' : Nat → Prop}, (∀ p, L p → L' p) → TopoP L l → TopoP L' l
  | [], _, _, _, _ => trivial
  | (_, _) :: _, _, _, h, ⟨h1, h2⟩ => ⟨fun p hp => h p (h1 p hp), TopoP.mono (fun p hp => hp.imp (h p) id) h2⟩
theorem TopoP.drop {i : Nat} {o : Oper} {l2 : List (Nat × Oper)} : ∀ {l1 : List (Nat × Oper)} {L : Nat → Prop}, TopoP L (l1 ++ (i, o) :: l2) → TopoP (fun p => L p ∨ p = i) (l1 ++ l2)
  | [], _, h => h.2
  | (j, oj) :: r, L, ⟨h1, h2⟩ => ⟨fun p hp => .inl (h1 p hp), TopoP.mono (fun p hp => by
      rcases hp with (h | h) | h
      · exact .inl (.inl h)
      · exact .inr h
      · exact .inl (.inr h)) (TopoP.drop (l1 := r) h2)⟩

structure Inv (c : RC) (L : Array Bool) (l : List (Nat × Oper)) : Prop where
  sz : L.size = c.ops.size
  pend : ∀ i, L.getD i true = false ↔ ∃ o, (i, o) ∈ l
  op : ∀ i o, (i, o) ∈ l → c.ops[i]? = some o
  nd : (l.map (·.1)).Nodup
  topo : TopoP (fun i => L.getD i false = true) l
  closed : ∀ i j, L.getD i false = true → ordB c.tab j i = true → L.getD j false = true
def TabOk (c : RC) : Prop := ∀ i j o, ordB c.tab j i = true → c.ops[i]? = some o → j ∈ predsOf o ∨ ∃ p ∈ predsOf o, ordB c.tab j p = true

theorem mem_preds {o : Oper} {p : Nat} : p ∈ predsOf o ↔ ∃ e ∈ o.after, Region.binds .any e = true ∧ e.on = p := by
  unfold predsOf
  simp only [List.mem_filterMap, Array.mem_toList_iff]
  constructor
  · rintro ⟨e, he, h⟩
    split at h
    · rename_i hb; exact ⟨e, he, hb, by simpa using h⟩
    · simp at h
  · rintro ⟨e, he, hb, rfl⟩
    exact ⟨e, he, by simp [hb]⟩

theorem Inv.step {c : RC} {L : Array Bool} {l1 l2 : List (Nat × Oper)} {i : Nat} {o : Oper} (hT : TabOk c) (h : Inv c L (l1 ++ (i, o) :: l2)) (hr : ∀ p ∈ predsOf o, L.getD p false = true) :
    Inv c (L.setIfInBounds i true) (l1 ++ l2) := by
  have hi : c.ops[i]? = some o := h.op i o (by simp)
  have hlt : i < L.size := by rw [h.sz]; exact (Array.getElem?_eq_some_iff.1 hi).1
  have hself : ∀ d, (L.setIfInBounds i true).getD i d = true := by intro d; simp [hlt]
  have hnd := h.nd
  rw [List.map_append, List.map_cons, nodup_mid] at hnd
  obtain ⟨hni, hnd⟩ := List.nodup_cons.1 hnd
  refine ⟨by simp [h.sz], fun k => ?_, fun k o' hk => ?_, ?_, ?_, fun k j hk ho => ?_⟩
  · by_cases e : i = k
    · subst e
      rw [hself]
      constructor
      · intro h; cases h
      · rintro ⟨o', ho'⟩
        exact (hni (by rw [← List.map_append]; exact List.mem_map.2 ⟨_, ho', rfl⟩)).elim
    · rw [getD_set_ne true e, h.pend]
      constructor
      · rintro ⟨o', ho'⟩
        refine ⟨o', ?_⟩
        simp only [List.mem_append, List.mem_cons, Prod.mk.injEq] at ho' ⊢
        rcases ho' with h | ⟨rfl, _⟩ | h
        · exact .inl h
        · exact (e rfl).elim
        · exact .inr h
      · rintro ⟨o', ho'⟩
        refine ⟨o', ?_⟩
        simp only [List.mem_append, List.mem_cons] at ho' ⊢
        exact ho'.imp id .inr
  · refine h.op k o' ?_
    simp only [List.mem_append, List.mem_cons] at hk ⊢
    exact hk.imp id .inr
  · rw [List.map_append]; exact hnd
  · refine TopoP.mono ?_ h.topo.drop
    rintro p (hp | rfl)
    · exact getD_set_true hp
    · exact hself _
  · by_cases e : i = k
    · subst e
      rcases hT i j o ho hi with h1 | ⟨p, hp, h1⟩
      · exact getD_set_true (hr j h1)
      · exact getD_set_true (h.closed p j (hr p hp) h1)
    · rw [getD_set_ne false e] at hk
      exact getD_set_true (h.closed k j hk ho)

theorem Inv.unlisted {c : RC} {L : Array Bool} {l : List (Nat × Oper)} (h : Inv c L l) {i : Nat} {o : Oper} (hi : (i, o) ∈ l) : L.getD i false = false := by
  have h1 := (h.pend i).2 ⟨o, hi⟩
  have hlt : i < L.size := by rw [h.sz]; exact (Array.getElem?_eq_some_iff.1 (h.op i o hi)).1
  simpa [Array.getD, hlt] using h1

theorem any_of_RR {c : RC} (hT : TabOk c) (hokf : ∀ f, c.okf f = true → OkFn c.P f) {F : Own} {K : SS → Heap → Own → Prop} {Q : Exit → Act → World → Prop} : ∀ (n : Nat) {l : List (Nat × Oper)} {fuel : Nat} {L : Array Bool} {s : SS} {H : Heap} {O : Own} {a : Act} {w : World},
    l.length = n → n ≤ fuel → Inv c L l → Conc F s H O a w → RR c true K l [] s H O →
    (∀ s' H' O' a' w', Conc F s' H' O' a' w' → Heap.le H H' → K s' H' O' → Q .normal a' w') → wpAny c.P .any c.ops Q fuel L a w := by
  intro n
  induction n with
  | zero =>
    intro l fuel L s H O a w hl hf hI hC hR hK
    have : l = [] := List.eq_nil_of_length_eq_zero hl
    subst this
    refine wpAny_done ?_ (hK s H O a w hC (Heap.le_refl H) hR) fuel
    refine List.eq_nil_iff_forall_not_mem.2 fun i hi => ?_
    obtain ⟨o, ho⟩ := (hI.pend i).1 (mem_ready.1 hi).1
    simp at ho
  | succ n ih =>
    intro l fuel L s H O a w hl hf hI hC hR hK
    cases fuel with
    | zero => omega
    | succ f =>
      refine ⟨fun h0 => ?_, fun i hi => ?_⟩
      · exfalso
        match l, hl with
        | (i, o) :: r, _ =>
          have : i ∈ Region.ready .any c.ops L := by
            refine mem_ready.2 ⟨(hI.pend i).2 ⟨o, by simp⟩, o, hI.op i o (by simp), fun e he hb => ?_⟩
            exact hI.topo.1 e.on (mem_preds.2 ⟨e, he, hb, rfl⟩)
          rw [h0] at this; simp at this
      · obtain ⟨hun, o, ho, hall⟩ := mem_ready.1 hi
        obtain ⟨o', hmem⟩ := (hI.pend i).1 hun
        have : o' = o := by have := hI.op i o' hmem; rw [ho] at this; exact (Option.some.inj this).symm
        subst this
        obtain ⟨l1, l2, rfl⟩ := List.append_of_mem hmem
        have hpr : ∀ p ∈ predsOf o', L.getD p false = true := by
          intro p hp
          obtain ⟨e, he, hb, rfl⟩ := mem_preds.1 hp
          exact hall e he hb
        have hnd := hI.nd
        rw [List.map_append, List.map_cons, nodup_mid] at hnd
        have hni := (List.nodup_cons.1 hnd).1
        obtain ⟨y, fy, hy, _, hrun⟩ := RR_front hR (fun e he => by
          cases hoe : ordB c.tab e.1 i with
          | false => rfl
          | true =>
            exfalso
            have hu : L.getD e.1 false = false := hI.unlisted (o := e.2) (by simp [he])
            rcases hT i e.1 o' hoe ho with h1 | ⟨p, hp, h1⟩
            · rw [hpr _ h1] at hu; cases hu
            · rw [hI.closed p e.1 (hpr p hp) h1] at hu; cases hu) (fun e he hei => hni (by rw [← List.map_append]; exact List.mem_map.2 ⟨_, he, hei⟩))
        have hs := nf_sound hokf hy F H O a w true _ Q hC hrun
        have hwp : wpOp c.P c.ops Q i (fun a' w' => ∃ s' H' O', Conc F s' H' O' a' w' ∧ Heap.le H H' ∧ RR c true K (l1 ++ l2) [] s' H' O') a w := by
          unfold wpOp
          rw [ho]
          exact hs
        refine wpOp_mono ?_ hwp
        rintro a' w' ⟨s', H', O', hC', hle, hR'⟩
        refine ih (l := l1 ++ l2) ?_ (by omega) (hI.step hT hpr) hC' hR' (fun s2 H2 O2 a2 w2 h1 h2 h3 => hK s2 H2 O2 a2 w2 h1 (Heap.le_trans hle h2) h3)
        simp only [List.length_append, List.length_cons] at hl ⊢; omega
end Go.Sx
