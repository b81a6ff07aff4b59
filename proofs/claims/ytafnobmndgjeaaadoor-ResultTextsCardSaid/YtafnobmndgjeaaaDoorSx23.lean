/- The tree of a code says what the code does. -/
import Derived.Test.YtafnobmndgjeaaaDoorSx22
namespace Go.Sx
open Go

theorem Eqs.mem : ∀ {l : List (List Value × List Value)}, Eqs l → ∀ p ∈ l, p.1 = p.2
  | [], _, _, h => by simp at h
  | _ :: _, h, p, hp => by
    rcases List.mem_cons.1 hp with rfl | hp
    · exact h.1
    · exact h.2.mem p hp

theorem headBoxes_mem {s : SS} : ∀ {l : List (Nat × List Nat)} {i0 : Nat} {x : Nat × Bx × List Nat × Nat}, x ∈ headBoxes s l i0 → s.mem x.1 = some x.2.1
  | [], _, _, h => by simp [headBoxes] at h
  | (t, cells) :: r, i0, x, h => by
    simp only [headBoxes] at h
    split at h
    · exact headBoxes_mem h
    · rename_i n hn
      split at h
      · exact headBoxes_mem h
      · rename_i b hb
        rcases List.mem_cons.1 h with rfl | h
        · exact hb
        · exact headBoxes_mem (List.mem_filter.1 h).1

theorem rel_of_den {x : S1} {v : Value} (h : v = x.den) : (SV.s x).rel v := by
  unfold SV.rel
  split <;> simp_all

theorem flat_den : ∀ {a b : List S1}, a.length = b.length → ((a.zip b).all fun p => match p.1, p.2 with | .at _, .at _ => true | .agg a, .agg b => a.length == b.length | _, _ => false) = true →
    (a.flatMap S1.cells).map At.den = (b.flatMap S1.cells).map At.den → a.map S1.den = b.map S1.den
  | [], [], _, _, _ => rfl
  | [], _ :: _, h, _, _ => by simp at h
  | _ :: _, [], h, _, _ => by simp at h
  | x :: a, y :: b, hl, hs, he => by
    simp only [List.zip_cons_cons, List.all_cons, Bool.and_eq_true] at hs
    simp only [List.flatMap_cons, List.map_append] at he
    have hlen : (x.cells.map At.den).length = (y.cells.map At.den).length := by
      rcases x with x | x <;> rcases y with y | y <;> simp_all [S1.cells]
    obtain ⟨h1, h2⟩ := List.append_inj he hlen
    rw [List.map_cons, List.map_cons, flat_den (by simpa using hl) hs.2 h2]
    congr 1
    rcases x with x | x <;> rcases y with y | y <;> simp_all [S1.cells, S1.den]

theorem like_rel {a b : SV} {v : Value} (hl : svLike a b = true) (hk : ∃ l, svCells a = some l ∧ l.all At.known = true)
    (he : ((svCells a).getD []).map At.den = ((svCells b).getD []).map At.den) (h : a.rel v) : b.rel v := by
  obtain ⟨l, hl1, hk⟩ := hk
  unfold svLike at hl
  split at hl
  · rename_i x y
    simp only [svCells, S1.cells, Option.some.injEq] at hl1
    subst hl1
    have := rel_s_known (x := .at x) (by simpa [S1.known, S1.cells] using hk) h
    simp only [svCells, S1.cells, Option.getD_some, List.map_cons, List.map_nil, List.cons.injEq, and_true] at he
    exact rel_of_den (by rw [this]; exact he)
  · rename_i x y
    simp only [svCells, S1.cells, Option.some.injEq] at hl1
    subst hl1
    have := rel_s_known (x := .agg x) (by simpa [S1.known, S1.cells] using hk) h
    simp only [svCells, S1.cells, Option.getD_some] at he
    exact rel_of_den (by rw [this, S1.den, S1.den, he])
  · rename_i x y
    simp only [Bool.and_eq_true, beq_iff_eq] at hl
    simp only [svCells, Option.getD_some] at he
    have h' : v = .tuple (x.map S1.den).toArray := h
    show v = .tuple (y.map S1.den).toArray
    rw [h', flat_den hl.1 hl.2 he]
  · simp at hl

theorem enumFrom_get {α : Type} : ∀ (l : List α) (n j : Nat), (enumFrom n l)[j]? = l[j]?.map fun a => (n + j, a)
  | [], n, j => by simp [enumFrom]
  | a :: r, n, 0 => by simp [enumFrom]
  | a :: r, n, j + 1 => by
    rw [enumFrom, List.getElem?_cons_succ, enumFrom_get r (n + 1) j, List.getElem?_cons_succ]
    congr 1; funext x; congr 1; omega

theorem mask_eq {a b : List At} {cells : List Nat} (hl : a.length = b.length) (h : (maskCells a cells).map At.den = (maskCells b cells).map At.den) {j : Nat} {x : At} (hj : j ∉ cells) (hx : b[j]? = some x) :
    ∃ x', a[j]? = some x' ∧ x'.den = x.den := by
  have hlt : j < a.length := by rw [hl]; exact (List.getElem?_eq_some_iff.1 hx).1
  have hx' : a[j]? = some a[j] := List.getElem?_eq_getElem hlt
  refine ⟨a[j], hx', ?_⟩
  have := congrArg (fun l => l[j]?) h
  simp only [maskCells, List.getElem?_map, enumFrom_get, hx, hx', Option.map_some, Nat.zero_add, Option.some.injEq] at this
  simpa [hj] using this

def boxLen : List (Nat × Bx × List Nat × Nat) → Nat
  | [] => 0
  | x :: r => x.2.2.1.length + boxLen r
theorem headVals_len {s : SS} {carry : List Nat} {hb : List (Nat × Bx × List Nat × Nat)} (h : knownVals s carry hb = true) : (headVals s carry hb).length = carry.length + boxLen hb := by
  rw [headVals_eq, List.length_append, List.length_map, Nat.add_left_cancel_iff]
  simp only [knownVals, Bool.and_eq_true] at h
  replace h := h.2
  induction hb with
  | nil => rfl
  | cons x r ih =>
    rw [List.all_cons, Bool.and_eq_true] at h
    rw [List.flatMap_cons, List.length_append, ih h.2, boxLen, Nat.add_right_cancel_iff]
    have h1 := h.1
    unfold boxVals
    cases hb : s.mem x.1 with
    | none => simp only [hb] at h1; cases h1
    | some b => simp

theorem back_sound {P : Program} {QT : Value → Heap → Own → Prop} {F : Own} {h s' : SS} {H : Heap} {O : Own} {a : Act} {w : World} {lab : Nat} {C : List Value → Heap → Own → Prop}
    {carry keep : List Nat} {hb : List (Nat × Bx × List Nat × Nat)}
    (hd : (backTree lab C carry keep hb h s').den P QT H O) (hC : Conc F s' H O a w) (hok : h.Ok) (hhb : ∀ n b cells i, (n, b, cells, i) ∈ hb → h.mem n = some b) :
    C (headVals s' carry hb) H O ∧ Conc F (headSS h carry keep hb (headVals s' carry hb)) H O a w ∧ Ones (headVals s' carry hb) ∧
    (headVals s' carry hb).length = carry.length + boxLen hb := by
  unfold backTree at hd
  split at hd
  · rename_i hcond
    simp only [Bool.and_eq_true, List.all_eq_true, beq_iff_eq] at hcond
    obtain ⟨⟨⟨⟨hsz, hpos⟩, hkn⟩, hkeep⟩, hbx⟩ := hcond
    obtain ⟨heq, hc⟩ := hd
    have heq' := heq.mem
    have hh := head_conc hC hok hsz hpos hkn (keep := keep) (fun t ht hi => ?_) (fun n b cells i hm => ?_)
    · exact ⟨hc, hh.1, hh.2, headVals_len hkn⟩
    · have h1 := hkeep t ht
      rw [hi] at h1
      simp only [Option.isSome_none, Bool.false_or, Bool.and_eq_true] at h1
      refine like_rel h1.1 ?_ (heq' _ (List.mem_append_left _ (List.mem_map.2 ⟨t, List.mem_filter.2 ⟨ht, by simp [hi]⟩, rfl⟩))) (hC.tm t)
      cases hsc : svCells (s'.tmps t) with
      | none => rw [hsc] at h1; simp at h1
      | some l => rw [hsc] at h1; exact ⟨l, rfl, h1.2⟩
    · refine ⟨hhb n b cells i hm, ?_⟩
      have h1 := hbx _ hm
      simp only [] at h1
      cases hb' : s'.mem n with
      | none => rw [hb'] at h1; simp at h1
      | some b' =>
        rw [hb'] at h1
        simp only [Bool.and_eq_true, beq_iff_eq, List.all_eq_true] at h1
        have h2 := heq' _ (List.mem_append_right _ (List.mem_map.2 ⟨_, hm, rfl⟩))
        simp only [hb', List.cons.injEq, Value.pointer.injEq, Option.some.injEq, Addr.mk.injEq, and_true] at h2
        refine ⟨b', rfl, h2.1, h1.1.1, h1.1.2, fun j x hj hx _ => ?_⟩
        obtain ⟨x', hx', hd'⟩ := mask_eq h1.1.2 h2.2 hj hx
        exact ⟨x', hx', h1.2 _ (List.mem_of_getElem? hx'), hd'⟩
  · exact hd.elim

theorem sufEqs_nil {gl' : List (At × Bool)} {cs : List Ck} (h : sufEqs [] gl' = some cs) : cs = [] := by
  unfold sufEqs at h
  simp only [] at h
  split at h
  · simp only [Option.some.injEq] at h
    subst h; simp
  · simp at h
theorem opAt_nil {s : SS} {x : Operand} {v : At} {cs : List Ck} (hx : opAt s [] x = some (v, cs)) : cs = [] := by
  have hx := opAt_S1 hx
  cases x with
  | tmp t =>
    simp only [opS1] at hx
    split at hx
    · split at hx
      · simp only [Option.some.injEq, Prod.mk.injEq] at hx; exact hx.2.symm
      · simp at hx
    · split at hx
      · rename_i gl' y hy hk
        cases hs : sufEqs [] gl' with
        | none => simp [hs] at hx
        | some c => simp only [hs, Option.map_some, Option.some.injEq, Prod.mk.injEq] at hx; rw [← hx.2]; exact sufEqs_nil hs
      · simp at hx
    · simp at hx
  | _ => simp only [opS1, Option.some.injEq, Prod.mk.injEq] at hx; exact hx.2.symm

structure Kont (P : Program) (QT : Value → Heap → Own → Prop) (F : Own) (k : SS → Tree) (H : Heap) (Q : Act → World → Prop) : Prop where
  go : ∀ s' H' O' a' w', Conc F s' H' O' a' w' → Heap.le H H' → (k s').den P QT H' O' → Q a' w'
theorem Kont.le {P : Program} {QT : Value → Heap → Own → Prop} {F : Own} {k : SS → Tree} {H H' : Heap} {Q : Act → World → Prop} (h : Kont P QT F k H Q) (hl : Heap.le H H') : Kont P QT F k H' Q :=
  ⟨fun s' H2 O' a' w' hc hle hd => h.go s' H2 O' a' w' hc (Heap.le_trans hl hle) hd⟩

theorem cond_sound {P : Program} {QT : Value → Heap → Own → Prop} {F : Own} {c : Operand} {x y : Code} {s : SS} {tx ty : Tree} {H : Heap} {O : Own} {a : Act} {w : World} {Q : Exit → Act → World → Prop}
    (h : (match opAt s [] c with
      | some (.k (.bool true), _) => tx
      | some (.k (.bool false), _) => ty
      | some (v, _) => .br v.den tx ty
      | none => .stuck 904).den P QT H O) (hC : Conc F s H O a w)
    (hx : tx.den P QT H O → x.wp P Q a w) (hy : ty.den P QT H O → y.wp P Q a w) : (Code.cond c x y).wp P Q a w := by
  have hden : ∀ v cs, opAt s [] c = some (v, cs) → a.eval c = v.den := fun v cs he => by
    have := opAt_nil he; subst this
    exact opAt_den hC he trivial trivial
  split at h
  · rename_i cs he; exact wp_cond_true (hden _ _ he) (hx h)
  · rename_i cs he; exact wp_cond_false (hden _ _ he) (hy h)
  · rename_i v cs _ _ he
    obtain ⟨b, hb, h1, h2⟩ := h
    refine wp_cond_split (t := b) (by rw [hden _ _ he]; exact hb) (fun e => hx (h1 e)) (fun e => hy (h2 e))
  · exact h.elim

theorem sx_sound {P : Program} (hm : P.follows .mixedOrders = true) {opts : Opts} (hokf : ∀ f, opts.okf f = true → OkFn P f) {QT : Value → Heap → Own → Prop} {F : Own} : ∀ (c : Code) {s : SS} {k : SS → Tree}
    {X : Nat → Option (SS → Tree)} {R : SS → Tree} {H : Heap} {O : Own} {a : Act} {w : World} {Q : Exit → Act → World → Prop},
    (sx P opts c s k X R).den P QT H O → Conc F s H O a w → Kont P QT F k H (Q .normal) → (∀ id kx, X id = some kx → Kont P QT F kx H (Q (.exit id))) → Kont P QT F R H (Q .ret) → c.wp P Q a w := by
  intro c
  induction c with
  | skip => intro s k X R H O a w Q h hC hk _ _; exact wp_skip (hk.go _ _ _ _ _ hC (Heap.le_refl H) h)
  | label l => intro s k X R H O a w Q h hC hk _ _; exact wp_label (hk.go _ _ _ _ _ hC (Heap.le_refl H) h)
  | region id ops draw =>
    intro s k X R H O a w Q h hC hk _ _
    exact region_sound hm hokf h hC hk.go
  | seq x y ihx ihy =>
    intro s k X R H O a w Q h hC hk hX hR
    refine wp_seq (ihx h hC ⟨fun s' H' O' a' w' hC' hle hd => ?_⟩ (fun id kx he => hX id kx he) hR)
    exact ihy hd hC' (hk.le hle) (fun id kx he => (hX id kx he).le hle) (hR.le hle)
  | cond c x y ihx ihy =>
    intro s k X R H O a w Q h hC hk hX hR
    simp only [sx] at h
    split at h
    · exact cond_sound h hC (fun hd => ihx hd hC hk hX hR) (fun hd => ihy hd hC hk hX hR)
    · rename_i carry keep boxes hcut
      obtain ⟨R0, hbody, hrest⟩ := h
      have hC1 := hC.next (s.next + 1)
      have hk1 : Kont P QT F (fun s' => backTree s.next (fun vs' H'' O'' => Cons H'' O'' → ∃ H3 O3, Ghost H'' O'' H3 O3 ∧ R0 vs' H3 O3) carry keep (headBoxes s boxes carry.length) s s') H (Q .normal) := by
        refine ⟨fun s' H' O' a' w' hC' hle hd => ?_⟩
        have hb := back_sound (h := { s with next := s.next + 1 }) hd hC' hC1.ok (fun n b cells i hmem => headBoxes_mem hmem)
        obtain ⟨hb0, hC2, hones, _⟩ := hb
        obtain ⟨H3, O3, hg, hr⟩ := hb0 hC2.cons
        obtain ⟨hC3, hle3⟩ := hC2.ghost hg
        exact hk.go _ _ _ _ _ hC3 (Heap.le_trans hle hle3) (hrest _ _ _ hones (Heap.le_trans hle hle3) hr)
      exact cond_sound (s := { s with next := s.next + 1 }) hbody hC1 (fun hd => ihx hd hC1 hk1 hX hR) (fun hd => ihy hd hC1 hk1 hX hR)
  | block id b ih =>
    intro s k X R H O a w Q h hC hk hX hR
    refine wp_block (ih h hC ⟨fun s' H' O' a' w' hC' hle hd => hk.go _ _ _ _ _ hC' hle hd⟩ (fun j kx he => ?_) ⟨fun s' H' O' a' w' hC' hle hd => hR.go _ _ _ _ _ hC' hle hd⟩)
    split at he
    · rename_i e
      simp only [Option.some.injEq] at he
      subst he; subst e
      exact ⟨fun s' H' O' a' w' hC' hle hd => by
        show Exit.inBlock j Q (.exit j) a' w'
        simp only [Exit.inBlock, if_true]
        exact hk.go _ _ _ _ _ hC' hle hd⟩
    · rename_i e
      exact ⟨fun s' H' O' a' w' hC' hle hd => by
        show Exit.inBlock id Q (.exit j) a' w'
        simp only [Exit.inBlock, if_neg e]
        exact (hX j kx he).go _ _ _ _ _ hC' hle hd⟩
  | exit id =>
    intro s k X R H O a w Q h hC hk hX hR
    simp only [sx] at h
    split at h
    · rename_i kx he
      exact wp_exit ((hX id kx he).go _ _ _ _ _ hC (Heap.le_refl H) h)
    · exact h.elim
  | ret =>
    intro s k X R H O a w Q h hC hk hX hR
    exact wp_ret (hR.go _ _ _ _ _ hC (Heap.le_refl H) h)
  | loop b ih =>
    intro s k X R H O a w Q h hC hk hX hR
    simp only [sx] at h
    split at h
    · rename_i n hn
      refine wp_loop_ghost (G := Nat × SS × Heap × Own) (fun g a w => Heap.le H g.2.2.1 ∧ Conc F g.2.1 g.2.2.1 g.2.2.2 a w ∧ (unrollTree (fun s k => sx P opts b s k X R) g.1 g.2.1).den P QT g.2.2.1 g.2.2.2)
        (fun g => g.1) (g0 := (n, s, H, O)) ⟨Heap.le_refl H, hC, h⟩ ?_
      rintro ⟨m, s1, H1, O1⟩ a1 w1 ⟨hle1, hC1, hd1⟩
      cases m with
      | zero => exact hd1.elim
      | succ m =>
        refine ih hd1 hC1 ⟨fun s' H' O' a' w' hC' hle hd => ?_⟩ (fun id kx he => ⟨fun s' H' O' a' w' hC' hle hd => (hX id kx he).go _ _ _ _ _ hC' (Heap.le_trans hle1 hle) hd⟩)
          ⟨fun s' H' O' a' w' hC' hle hd => hR.go _ _ _ _ _ hC' (Heap.le_trans hle1 hle) hd⟩
        exact ⟨(m, s', H', O'), ⟨Heap.le_trans hle1 hle, hC', hd⟩, Nat.lt_succ_self m⟩
    · rename_i carry keep boxes hopt
      split at h
      · rename_i hcond
        simp only [Bool.and_eq_true] at hcond
        obtain ⟨I, μ, hini, hround⟩ := h
        obtain ⟨H1, O1, hg1, hi1⟩ := hini hC.cons
        have hC0 := hC.next (s.next + 1)
        obtain ⟨hCh, hones⟩ := head_conc (carry := carry) (keep := keep) (hb := headBoxes s boxes carry.length) (h := { s with next := s.next + 1 }) hC hC0.ok rfl hcond.1 hcond.2 (fun t _ _ => hC.tm t)
          (fun n b cells i hmem => ⟨headBoxes_mem hmem, b, headBoxes_mem hmem, rfl, rfl, rfl, fun j x _ hx hk => ⟨x, hx, hk, rfl⟩⟩)
        obtain ⟨hC1, hle1⟩ := hCh.ghost hg1
        refine wp_loop_ghost (G := List Value × Heap × Own)
          (fun g a w => g.1.length = (headVals s carry (headBoxes s boxes carry.length)).length ∧ Ones g.1 ∧ Heap.le H g.2.1 ∧ I g.1 g.2.1 g.2.2 ∧
            Conc F (headSS { s with next := s.next + 1 } carry keep (headBoxes s boxes carry.length) g.1) g.2.1 g.2.2 a w)
          (fun g => μ g.1 g.2.1 g.2.2) (g0 := (_, H1, O1)) ⟨rfl, hones, hle1, hi1, hC1⟩ ?_
        rintro ⟨vs, H2, O2⟩ a2 w2 ⟨hlen, hon, hle2, hi2, hC2⟩
        refine ih (hround vs H2 O2 hlen hon hle2 hi2) hC2 ⟨fun s' H' O' a' w' hC' hle hd => ?_⟩ (fun id kx he => ⟨fun s' H' O' a' w' hC' hle hd => (hX id kx he).go _ _ _ _ _ hC' (Heap.le_trans hle2 hle) hd⟩)
          ⟨fun s' H' O' a' w' hC' hle hd => hR.go _ _ _ _ _ hC' (Heap.le_trans hle2 hle) hd⟩
        obtain ⟨hb0, hC3, hones3, hlen3⟩ := back_sound (h := { s with next := s.next + 1 }) hd hC' hC0.ok (fun n b cells i hmem => headBoxes_mem hmem)
        obtain ⟨H3, O3, hg, hi3, hlt⟩ := hb0 hC3.cons
        obtain ⟨hC4, hle4⟩ := hC3.ghost hg
        refine ⟨(_, H3, O3), ⟨hlen3.trans (headVals_len hcond.2).symm, hones3, Heap.le_trans hle2 (Heap.le_trans hle hle4), hi3, hC4⟩, hlt⟩
      · exact h.elim
  | _ => intro s k X R H O a w Q h; exact h.elim
end Go.Sx
