/- A region's tree says what the region does. -/
import Derived.Test.YtafnobmndgjeaaaDoorSx18
namespace Go.Sx
open Go

theorem testBit_put (d i k : Nat) : (d ||| 1 <<< i).testBit k = (d.testBit k || decide (i = k)) := by
  rw [Nat.testBit_or, Nat.one_shiftLeft, Nat.testBit_two_pow]

theorem isReady_spec {d : Nat} {o : Oper} (h : isReady d o = true) : ∀ p ∈ predsOf o, d.testBit p = true := by
  unfold isReady at h; rw [List.all_eq_true] at h; exact h

theorem topo_spec {n : Nat} : ∀ {l : List (Nat × Oper)} {d : Nat}, topo n d l = true →
    (∀ i, i < n ↔ (d.testBit i = true ∨ ∃ o, (i, o) ∈ l)) ∧ (l.map (·.1)).Nodup ∧ (∀ i o, (i, o) ∈ l → d.testBit i = false) ∧ TopoP (fun p => d.testBit p = true) l
  | [], d, h => by
    simp only [topo, beq_iff_eq] at h
    subst h
    refine ⟨fun i => ?_, by simp, by simp, trivial⟩
    simp [Nat.testBit_two_pow_sub_one]
  | (i, o) :: r, d, h => by
    simp only [topo, Bool.and_eq_true, Bool.not_eq_true'] at h
    obtain ⟨⟨h1, h2⟩, h3⟩ := h
    obtain ⟨a, b, e, f⟩ := topo_spec h3
    refine ⟨fun k => ?_, ?_, fun k o' hk => ?_, fun p hp => isReady_spec h2 p hp, f.mono fun p hp => ?_⟩
    · rw [a k, testBit_put]
      simp only [Bool.or_eq_true, decide_eq_true_eq, List.mem_cons, Prod.mk.injEq]
      constructor
      · rintro ((h | rfl) | ⟨o', h⟩)
        · exact .inl h
        · exact .inr ⟨o, .inl ⟨rfl, rfl⟩⟩
        · exact .inr ⟨o', .inr h⟩
      · rintro (h | ⟨o', ⟨rfl, _⟩ | h⟩)
        · exact .inl (.inl h)
        · exact .inl (.inr rfl)
        · exact .inr ⟨o', h⟩
    · rw [List.map_cons, List.nodup_cons]
      refine ⟨fun hm => ?_, b⟩
      obtain ⟨p, hp, hpi⟩ := List.mem_map.1 hm
      have := e p.1 p.2 hp
      rw [testBit_put] at this
      simp [hpi] at this
    · rcases List.mem_cons.1 hk with hk | hk
      · simp only [Prod.mk.injEq] at hk; rw [hk.1]; exact h1
      · have := e k o' hk
        rw [testBit_put] at this
        simp only [Bool.or_eq_false_iff] at this
        exact this.1
    · rw [testBit_put] at hp
      rw [Bool.or_eq_true, decide_eq_true_eq] at hp
      exact hp.imp id Eq.symm

theorem nodup_len : ∀ (n : Nat) (l : List Nat), l.Nodup → (∀ i ∈ l, i < n) → l.length ≤ n
  | 0, [], _, _ => by simp
  | 0, a :: _, _, h => by have := h a (by simp); omega
  | n + 1, l, hn, h => by
    by_cases hm : n ∈ l
    · have h1 := nodup_len n (l.erase n) (hn.erase n) fun i hi => by
        obtain ⟨h2, h3⟩ := (List.Nodup.mem_erase_iff hn).1 hi
        have := h i h3; omega
      rw [List.length_erase_of_mem hm] at h1
      omega
    · have := nodup_len n l hn fun i hi => by
        have := h i hi
        have : i ≠ n := fun e => hm (e ▸ hi)
        omega
      omega
theorem firstOf_mem {d k : Nat} : ∀ {l : List (Nat × Oper)} {e : Nat × Oper}, firstOf d k l = some e → e ∈ l
  | [], _, h => by simp [firstOf] at h
  | (i, o) :: r, e, h => by
    simp only [firstOf] at h
    split at h
    · simp only [Option.some.injEq] at h; simp [h]
    · exact List.mem_cons_of_mem _ (firstOf_mem h)
theorem dropIdx_mem {i : Nat} : ∀ {l : List (Nat × Oper)} {e : Nat × Oper}, e ∈ dropIdx i l → e ∈ l
  | [], _, h => by simp [dropIdx] at h
  | (j, o) :: r, e, h => by
    simp only [dropIdx] at h
    split at h
    · simp [h]
    · rcases List.mem_cons.1 h with h | h
      · simp [h]
      · exact List.mem_cons_of_mem _ (dropIdx_mem h)
theorem schedGo_mem : ∀ {fuel d : Nat} {l : List (Nat × Oper)} {e : Nat × Oper}, e ∈ schedGo fuel d l → e ∈ l
  | 0, _, _, _, h => by simpa [schedGo] using h
  | fuel + 1, d, l, e, h => by
    simp only [schedGo] at h
    split at h
    · exact h
    · rename_i i o hf
      rcases List.mem_cons.1 h with h | h
      · subst h
        cases h0 : firstOf d 0 l with
        | some x => rw [h0] at hf; simp at hf; subst hf; exact firstOf_mem h0
        | none =>
          cases h1 : firstOf d 1 l with
          | some x => rw [h0, h1] at hf; simp at hf; subst hf; exact firstOf_mem h1
          | none => rw [h0, h1] at hf; simp at hf; exact firstOf_mem hf
      · exact dropIdx_mem (schedGo_mem h)
theorem enumFrom_mem {α : Type} : ∀ {l : List α} {n : Nat} {e : Nat × α}, e ∈ enumFrom n l → n ≤ e.1 ∧ l[e.1 - n]? = some e.2
  | [], _, _, h => by simp [enumFrom] at h
  | a :: r, n, e, h => by
    rcases List.mem_cons.1 h with h | h
    · subst h; simp
    · obtain ⟨h1, h2⟩ := enumFrom_mem h
      refine ⟨by omega, ?_⟩
      rw [show e.1 - n = (e.1 - (n + 1)) + 1 by omega]
      simpa using h2

theorem maskOf_spec {tab : List (Nat × Nat)} {j : Nat} : ∀ {ps : List Nat}, (maskOf tab ps).testBit j = true → j ∈ ps ∨ ∃ p ∈ ps, (lookNat tab p).testBit j = true
  | [], h => by simp [maskOf] at h
  | p :: r, h => by
    simp only [maskOf, Nat.testBit_or, Bool.or_eq_true, Nat.one_shiftLeft, Nat.testBit_two_pow, decide_eq_true_eq] at h
    rcases h with (h | h) | h
    · exact .inl (by simp [h])
    · exact .inr ⟨p, by simp, h⟩
    · rcases maskOf_spec h with h | ⟨q, hq, h⟩
      · exact .inl (by simp [h])
      · exact .inr ⟨q, by simp [hq], h⟩
theorem maskTab_spec : ∀ {l : List (Nat × Oper)} {tab : List (Nat × Nat)} {L : Nat → Prop}, (l.map (·.1)).Nodup → (∀ i o, (i, o) ∈ l → ¬ L i) → TopoP L l →
    (∀ p, (∀ o, (p, o) ∉ l) → lookNat (maskTab l tab) p = lookNat tab p) ∧
    ∀ i o j, (i, o) ∈ l → (lookNat (maskTab l tab) i).testBit j = true → j ∈ predsOf o ∨ ∃ p ∈ predsOf o, (lookNat (maskTab l tab) p).testBit j = true
  | [], tab, L, _, _, _ => ⟨fun _ _ => rfl, fun i o j h => by simp at h⟩
  | (i, o) :: r, tab, L, hn, hL, hT => by
    rw [List.map_cons, List.nodup_cons] at hn
    have hir : ∀ o', (i, o') ∉ r := fun o' ho => hn.1 (List.mem_map.2 ⟨_, ho, rfl⟩)
    obtain ⟨h1, h2⟩ := maskTab_spec (l := r) (tab := (i, maskOf tab (predsOf o)) :: tab) (L := fun p => L p ∨ p = i) hn.2 (fun k o' hk => by
      rintro (h | rfl)
      · exact hL k o' (by simp [hk]) h
      · exact hir o' hk) hT.2
    have hnot : ∀ p, L p → ∀ o', (p, o') ∉ (i, o) :: r := fun p hp o' ho => hL p o' ho hp
    have hl : ∀ p, L p → lookNat (maskTab ((i, o) :: r) tab) p = lookNat tab p := by
      intro p hp
      have hpi : i ≠ p := fun e => hnot p hp o (by simp [e])
      have := h1 p (fun o' ho => hnot p hp o' (by simp [ho]))
      simp only [maskTab]
      rw [this]
      simp [lookNat, hpi]
    refine ⟨fun p hp => ?_, fun k o' j hk hb => ?_⟩
    · have hpi : i ≠ p := fun e => hp o (by simp [e])
      have := h1 p (fun o' ho => hp o' (by simp [ho]))
      simp only [maskTab]
      rw [this]
      simp [lookNat, hpi]
    · rcases List.mem_cons.1 hk with hk | hk
      · simp only [Prod.mk.injEq] at hk
        obtain ⟨rfl, rfl⟩ := hk
        have := h1 k hir
        simp only [maskTab] at hb
        rw [this] at hb
        simp only [lookNat, if_true] at hb
        rcases maskOf_spec hb with h | ⟨p, hp, h⟩
        · exact .inl h
        · exact .inr ⟨p, hp, by rw [hl p (hT.1 p hp)]; exact h⟩
      · simp only [maskTab] at hb ⊢
        exact h2 k o' j hk hb

theorem wpOps_of_RR {c : RC} (hokf : ∀ f, c.okf f = true → OkFn c.P f) {F : Own} {K : SS → Heap → Own → Prop} {Q : Exit → Act → World → Prop} : ∀ (l : List (Nat × Oper)) {log : List Ent} {s : SS} {H : Heap} {O : Own} {a : Act} {w : World},
    (∀ e ∈ l, c.ops[e.1]? = some e.2) → Conc F s H O a w → RR c false K l log s H O →
    (∀ s' H' O' a' w', Conc F s' H' O' a' w' → Heap.le H H' → K s' H' O' → Q .normal a' w') → wpOps c.P c.ops Q (l.map (·.1)) a w
  | [], _, s, H, O, a, w, _, hC, hR, hK => hK s H O a w hC (Heap.le_refl H) hR
  | (i, o) :: r, log, s, H, O, a, w, ho, hC, ⟨y, fy, hy, _, hrun⟩, hK => by
    have hs := nf_sound hokf hy F H O a w false _ Q hC hrun
    rw [List.map_cons, wpOps_cons]
    have hwp : wpOp c.P c.ops Q i (fun a' w' => ∃ s' H' O', Conc F s' H' O' a' w' ∧ Heap.le H H' ∧ RR c false K r log s' H' O') a w := by
      unfold wpOp
      rw [ho (i, o) (by simp)]
      exact hs
    refine wpOp_mono ?_ hwp
    rintro a' w' ⟨s', H', O', hC', hle, hR'⟩
    exact wpOps_of_RR hokf r (fun e he => ho e (by simp [he])) hC' hR' (fun s2 H2 O2 a2 w2 h1 h2 h3 => hK s2 H2 O2 a2 w2 h1 (Heap.le_trans hle h2) h3)
theorem enumFrom_fst {α : Type} : ∀ (l : List α) (n : Nat), (enumFrom n l).map (·.1) = (List.range' n l.length)
  | [], _ => rfl
  | a :: r, n => by rw [enumFrom, List.map_cons, enumFrom_fst r (n + 1), List.length_cons, List.range'_succ]

theorem Conc.drew {F : Own} {s : SS} {H : Heap} {O : Own} {a : Act} {w : World} (h : Conc F s H O a w) (n : Nat) : Conc F s H O a { w with drawn := n } :=
  ⟨h.ok, h.df, h.sz, h.tm, let ⟨L, h1, h2⟩ := h.mm; ⟨L, h1, h2.same rfl rfl⟩⟩
theorem Conc.next {F : Own} {s : SS} {H : Heap} {O : Own} {a : Act} {w : World} (h : Conc F s H O a w) (n : Nat) : Conc F { s with next := n } H O a w :=
  ⟨h.ok, h.df, h.sz, h.tm, h.mm⟩

theorem region_sound {P : Program} (hm : P.follows .mixedOrders = true) {okf : FuncId → Bool} (hokf : ∀ f, okf f = true → OkFn P f) {rules : FuncId → Option (List Nat)} {id : Nat} {ops : Array Oper} {draw : Bool} {s : SS} {kk : SS → Tree}
    {QT : Value → Heap → Own → Prop} {F : Own} {H : Heap} {O : Own} {a : Act} {w : World} {Q : Exit → Act → World → Prop}
    (h : (regionTree P okf rules ops draw s kk).den P QT H O) (hC : Conc F s H O a w)
    (hK : ∀ s' H' O' a' w', Conc F s' H' O' a' w' → Heap.le H H' → (kk s').den P QT H' O' → Q .normal a' w') : (Code.region id ops draw).wp P Q a w := by
  unfold regionTree at h
  simp only [] at h
  have hops : ∀ e ∈ enumFrom 0 ops.toList, ops[e.1]? = some e.2 := by
    intro e he
    have := (enumFrom_mem he).2
    simpa using this
  cases draw with
  | true =>
    simp only [if_true] at h
    split at h
    · rename_i ht
      have hR := RR_den (c := ⟨P, okf, rules, ops, maskTab (schedGo ops.size 0 (enumFrom 0 ops.toList)) [], splitList (enumFrom 0 ops.toList), s.next⟩) h
      obtain ⟨t1, t2, t3, t4⟩ := topo_spec ht
      have hop : ∀ i o, (i, o) ∈ schedGo ops.size 0 (enumFrom 0 ops.toList) → ops[i]? = some o := fun i o hi => hops (i, o) (schedGo_mem hi)
      refine wp_region_any hm ?_
      refine any_of_RR (c := ⟨P, okf, rules, ops, maskTab (schedGo ops.size 0 (enumFrom 0 ops.toList)) [], splitList (enumFrom 0 ops.toList), s.next⟩) ?_ hokf (schedGo ops.size 0 (enumFrom 0 ops.toList)).length rfl ?_ ?_ (hC.drew _) hR ?_
      · intro i j o ho hi
        have hlt : i < ops.size := (Array.getElem?_eq_some_iff.1 hi).1
        obtain ⟨o', ho'⟩ := ((t1 i).1 hlt).resolve_left (by simp)
        have : o' = o := by have := hop i o' ho'; simp only [] at hi; rw [hi] at this; exact (Option.some.inj this).symm
        subst this
        exact (maskTab_spec (tab := []) t2 (fun _ _ h => by simp [t3 _ _ h]) t4).2 i o' j ho' ho
      · have := nodup_len ops.size _ t2 (fun i hi => by
          obtain ⟨e, he, rfl⟩ := List.mem_map.1 hi
          exact (t1 e.1).2 (.inr ⟨e.2, he⟩))
        simpa using this
      · refine ⟨by simp, fun i => ?_, hop, t2, t4.mono (by simp), fun i j hi => ?_⟩
        · rw [show ((Array.replicate ops.size false).getD i true = false) ↔ i < ops.size by
            by_cases hlt : i < ops.size <;> simp [Array.getD, hlt]]
          rw [t1]; simp
        · exfalso
          by_cases hlt : i < ops.size <;> simp [Array.getD, hlt] at hi
      · intro s' H' O' a' w' h1 h2 h3
        exact hK _ H' O' a' w' (h1.next _) h2 h3
    · exact h.elim
  | false =>
    simp only [Bool.false_eq_true, if_false] at h
    have hR := RR_den (c := ⟨P, okf, rules, ops, [], splitList (enumFrom 0 ops.toList), s.next⟩) h
    refine wp_region ?_
    have := wpOps_of_RR (c := ⟨P, okf, rules, ops, [], splitList (enumFrom 0 ops.toList), s.next⟩) (Q := Q) hokf (enumFrom 0 ops.toList) hops hC hR (fun s' H' O' a' w' h1 h2 h3 => hK _ H' O' a' w' (h1.next _) h2 h3)
    rw [enumFrom_fst] at this
    rw [List.range_eq_range']
    simpa using this
end Go.Sx
