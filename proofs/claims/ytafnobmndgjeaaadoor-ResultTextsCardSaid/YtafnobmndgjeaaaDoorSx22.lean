/- Back at a loop's head. -/
import Derived.Test.YtafnobmndgjeaaaDoorSx21
namespace Go.Sx
open Go

theorem Boxes.sub {m m2 : Nat → Option Bx} {L : Own} (h : Boxes m L) (hs : ∀ n b2, m2 n = some b2 → ∃ b, m n = some b ∧ b.r = b2.r ∧ b.T = b2.T ∧ ∀ vs, CellsRel b.cs vs → CellsRel b2.cs vs) :
    ∃ L2 L3, Boxes m2 L2 ∧ L.Perm (L2 ++ L3) := by
  obtain ⟨ns, f, hn, hsm, hc, hp⟩ := h
  refine ⟨(ns.filter fun n => (m2 n).isSome).map fun n => boxObj (m2 n) (f n), (ns.filter fun n => !(m2 n).isSome).map fun n => boxObj (m n) (f n), ?_, ?_⟩
  · refine ⟨_, f, hn.filter _, fun n => ?_, fun n b2 hb2 => ?_, List.Perm.refl _⟩
    · rw [List.mem_filter]
      constructor
      · intro h
        obtain ⟨b2, hb2⟩ := Option.isSome_iff_exists.1 h
        obtain ⟨b, hb, _⟩ := hs n b2 hb2
        exact ⟨(hsm n).1 (by simp [hb]), h⟩
      · exact fun h => h.2
    · obtain ⟨b, hb, _, _, h4⟩ := hs n b2 hb2
      exact h4 _ (hc n b hb)
  · refine hp.trans ?_
    have e : (ns.filter fun n => (m2 n).isSome).map (fun n => boxObj (m2 n) (f n)) = (ns.filter fun n => (m2 n).isSome).map fun n => boxObj (m n) (f n) := by
      refine List.map_congr_left fun n hn => ?_
      obtain ⟨b2, hb2⟩ := Option.isSome_iff_exists.1 (List.mem_filter.1 hn).2
      obtain ⟨b, hb, h1, h2, _⟩ := hs n b2 hb2
      simp [hb2, hb, boxObj, h1, h2]
    rw [e, ← List.map_append]
    exact ((List.filter_append_perm _ ns).map _).symm

theorem atOf_fit {s : SS} {t : Nat} (h : (atOf s t).fit = true) : ∃ x, s.tmps t = .s (.at x) ∧ x.fit = true ∧ atOf s t = x := by
  unfold atOf at h ⊢
  split at h
  · rename_i x hx; exact ⟨x, hx, h, rfl⟩
  · simp [At.fit] at h
theorem At.fit_known {x : At} (h : x.fit = true) : x.known = true := by cases x <;> simp_all [At.fit, At.known]

theorem getD_get {cs : List At} {c : Nat} (h : (cs.getD c .any).fit = true) : cs[c]? = some (cs.getD c .any) := by
  cases hc : cs[c]? with
  | none => simp [List.getD, hc, At.fit] at h
  | some x => simp [List.getD, hc]

theorem Ones.append {a b : List Value} : Ones (a ++ b) ↔ Ones a ∧ Ones b := by
  induction a with
  | nil => simp [Ones]
  | cons x r ih => simp [Ones, ih, and_assoc]

theorem head_conc {F : Own} {s' h : SS} {H : Heap} {O : Own} {a : Act} {w : World} (hC : Conc F s' H O a w) (hok : h.Ok) (hsz : s'.sz = h.sz) {carry keep : List Nat} {hb : List (Nat × Bx × List Nat × Nat)}
    (hpos : posOk carry.length hb = true) (hkn : knownVals s' carry hb = true) (hkeep : ∀ t ∈ keep, idxOf carry t = none → (h.tmps t).rel (a.tmps.getD t undef))
    (hbox : ∀ n b cells i, (n, b, cells, i) ∈ hb → h.mem n = some b ∧ ∃ b', s'.mem n = some b' ∧ b'.r = b.r ∧ b'.T = b.T ∧ b'.cs.length = b.cs.length ∧
      ∀ (j : Nat) (x : At), j ∉ cells → b.cs[j]? = some x → x.known = true → ∃ x', b'.cs[j]? = some x' ∧ x'.known = true ∧ x'.den = x.den) :
    Conc F (headSS h carry keep hb (headVals s' carry hb)) H O a w ∧ Ones (headVals s' carry hb) := by
  simp only [knownVals, Bool.and_eq_true, List.all_eq_true] at hkn
  obtain ⟨hk1, hk2⟩ := hkn
  have hfit : ∀ n b cells i, (n, b, cells, i) ∈ hb → ∀ b', s'.mem n = some b' → ∀ c ∈ cells, (b'.cs.getD c .any).fit = true := by
    intro n b cells i hm b' hb' c hc
    have := hk2 (n, b, cells, i) hm
    simp only [hb', List.all_eq_true] at this
    exact this c hc
  have hones : Ones (headVals s' carry hb) := by
    rw [headVals_eq, Ones.append]
    constructor
    · have : ∀ l : List Nat, (∀ t ∈ l, (atOf s' t).fit = true) → Ones (l.map fun t => (atOf s' t).den) := by
        intro l
        induction l with
        | nil => intro _; trivial
        | cons t r ih =>
          intro hl
          obtain ⟨x, hx, hf, e⟩ := atOf_fit (hl t (by simp))
          refine ⟨?_, ih fun u hu => hl u (by simp [hu])⟩
          show (atOf s' t).den.oneCell' = true
          rw [e]
          refine At.fit_one hf ?_
          have := hC.ok.1 t
          rw [hx] at this
          exact this x (by simp [S1.cells])
      exact this carry hk1
    · have : ∀ l : List (Nat × Bx × List Nat × Nat), (∀ x ∈ l, x ∈ hb) → Ones (l.flatMap (boxVals s')) := by
        intro l
        induction l with
        | nil => intro _; trivial
        | cons x r ih =>
          intro hl
          rw [List.flatMap_cons, Ones.append]
          refine ⟨?_, ih fun u hu => hl u (by simp [hu])⟩
          obtain ⟨n, b, cells, i⟩ := x
          obtain ⟨_, b', hb', _⟩ := hbox n b cells i (hl _ (by simp))
          simp only [boxVals, hb']
          have hf := hfit n b cells i (hl _ (by simp)) b' hb'
          have hokb := hC.ok.2 n b' hb'
          have : ∀ cl : List Nat, (∀ c ∈ cl, (b'.cs.getD c .any).fit = true) → Ones (cl.map fun c => (b'.cs.getD c .any).den) := by
            intro cl
            induction cl with
            | nil => intro _; trivial
            | cons c cr ihc =>
              intro hcl
              refine ⟨?_, ihc fun u hu => hcl u (by simp [hu])⟩
              have hf' := hcl c (by simp)
              exact At.fit_one hf' (hokb _ (List.mem_of_getElem? (getD_get hf')))
          exact this cells hf
      exact this hb fun _ h => h
  have hcarry : ∀ t i, idxOf carry t = some i → g (headVals s' carry hb) i = (atOf s' t).den ∧ i < (headVals s' carry hb).length := by
    intro t i hi
    have hi' := idxOf_spec hi
    have hlt := (List.getElem?_eq_some_iff.1 hi').1
    rw [headVals_eq]
    refine ⟨?_, by rw [List.length_append, List.length_map]; omega⟩
    rw [g_append_left (by simpa using hlt)]
    exact g_get (by simp [hi'])
  have hboxv : ∀ n b cells i, (n, b, cells, i) ∈ hb → ∀ b', s'.mem n = some b' → ∀ p c, cells[p]? = some c → g (headVals s' carry hb) (i + p) = (b'.cs.getD c .any).den := by
    intro n b cells i hm b' hb' p c hc
    rw [headVals_eq]
    refine boxVals_get hpos (by simp) (fun x hx => ?_) n b cells i hm b' hb' p c hc
    obtain ⟨n, b, cells, i⟩ := x
    obtain ⟨_, b', hb', _⟩ := hbox n b cells i hx
    simp [hb']
  have hmem : ∀ n b2, (headSS h carry keep hb (headVals s' carry hb)).mem n = some b2 → ∃ b cells i, (n, b, cells, i) ∈ hb ∧ b2 = { b with cs := turnCells b.cs (headVals s' carry hb) cells i } := by
    intro n b2 hb2
    simp only [headSS] at hb2
    split at hb2
    · rename_i n' b cells i hf
      simp only [Option.some.injEq] at hb2
      have := List.find?_some hf
      simp only [beq_iff_eq] at this
      subst this
      exact ⟨b, cells, i, List.mem_of_find?_eq_some hf, hb2.symm⟩
    · simp at hb2
  refine ⟨⟨⟨fun t => ?_, fun n b2 hb2 x hx => ?_⟩, hC.df, by rw [hC.sz, hsz]; rfl, fun t => ?_, ?_⟩, hones⟩
  · simp only [headSS]
    split
    · rename_i i hi
      obtain ⟨e, hlt⟩ := hcarry t i hi
      intro x hx
      simp only [S1.cells, List.mem_singleton] at hx
      subst hx
      exact hones.get i hlt
    · split
      · exact hok.1 t
      · intro x hx
        simp only [S1.cells, List.mem_singleton] at hx
        subst hx; trivial
  · obtain ⟨b, cells, i, hm, rfl⟩ := hmem n b2 hb2
    obtain ⟨hh, b', hb', _⟩ := hbox n b cells i hm
    obtain ⟨j, hj, rfl⟩ := List.getElem_of_mem hx
    rcases turnCells_get (List.getElem?_eq_getElem hj) with ⟨p, hp, he⟩ | ⟨he, _⟩
    · simp only [] at he
      rw [he]
      show (g _ _).oneCell' = true
      rw [hboxv n b cells i hm b' hb' p j hp]
      have hf := hfit n b cells i hm b' hb' j (List.mem_of_getElem? hp)
      exact At.fit_one hf (hC.ok.2 n b' hb' _ (List.mem_of_getElem? (getD_get hf)))
    · exact hok.2 n b hh _ (List.mem_of_getElem? he)
  · simp only [headSS]
    split
    · rename_i i hi
      obtain ⟨e, hlt⟩ := hcarry t i hi
      obtain ⟨x, hx, hf, e2⟩ := atOf_fit (hk1 t (List.mem_of_getElem? (idxOf_spec hi)))
      have ht := hC.tm t
      rw [hx] at ht
      have := rel_s_known (x := .at x) (by simpa [S1.known, S1.cells] using At.fit_known hf) ht
      show a.tmps.getD t undef = _
      rw [this, S1.den, S1.den, At.den, e, e2]
    · rename_i hi
      split
      · rename_i hkc
        exact hkeep t (by simpa using hkc) hi
      · trivial
  · obtain ⟨L, hL, hmod⟩ := hC.mm
    obtain ⟨L2, L3, hL2, hp⟩ := hL.sub (m2 := (headSS h carry keep hb (headVals s' carry hb)).mem) (fun n b2 hb2 => by
      obtain ⟨b, cells, i, hm, rfl⟩ := hmem n b2 hb2
      obtain ⟨hh, b', hb', h1, h2, h3, h4⟩ := hbox n b cells i hm
      refine ⟨b', hb', h1, h2, fun vs hvs => ?_⟩
      rw [CellsRel.iff] at hvs ⊢
      refine ⟨by rw [turnCells_len, ← h3]; exact hvs.1, fun j x v hx hv hk => ?_⟩
      rcases turnCells_get hx with ⟨p, hp, he⟩ | ⟨he, hnot⟩
      · rw [he, At.den, hboxv n b cells i hm b' hb' p j hp]
        have hf := hfit n b cells i hm b' hb' j (List.mem_of_getElem? hp)
        exact hvs.2 j _ v (getD_get hf) hv (At.fit_known hf)
      · obtain ⟨x', hx', hk', hd'⟩ := h4 j x hnot he hk
        rw [← hd']
        exact hvs.2 j x' v hx' hv hk')
    refine ⟨L2, hL2, ?_⟩
    have h1 : Models w H ((L2 ++ L3) ++ (O ++ F)) := hmod.perm (hp.append_right _)
    rw [List.append_assoc] at h1
    exact h1.sub ((List.sublist_append_right L3 (O ++ F)).append_left L2)
end Go.Sx
