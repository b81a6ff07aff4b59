/- Arguments are read: cards, decklists, lists of numbers; the wrap of a law. -/
import Derived.Test.YtamgiojcbdbokaaGreatDoorD24
namespace Go.Proofs.YtamgiojcbdbokaaGreatDoor
open Go Go.Sx Go.ChangeShapes Go.WideShapes Go.ChangeAt Go.RowKit
set_option maxRecDepth 100000
set_option maxHeartbeats 1000000
theorem EF {r : List Value} {i : Nat} {c : Value} (h : r[i]? = some c) : c = g r i := by rw [zU h]
theorem bF {H : Heap} {k : Nat} {t : TypeId} {ds : List Value} {ls : List TypeId} {n : Nat} (hl : jJ PP n t = some ls) (hw : Wf PP H k t ds) (i : Nat) (l : TypeId) (hi : ls[i]? = some l) : Leaf PP H l (g ds i) := by
 obtain ⟨c, h1, h2⟩ := se hl hw i l hi
 rw [← EF h1]; exact h2
theorem dH {H : Heap} {c : Value} (h : Leaf PP H 3 c) : ∃ x, c = iV x := let ⟨x, e, _⟩ := h.int Tryz.underlying3; ⟨x, e⟩
theorem vA {H : Heap} {size : Nat} {v : Value} {rows : List (List Value)} (h : Sl H size v rows) {r : List Value} (hr : r ∈ rows) : r.length = size := by
 obtain ⟨i, hlt, rfl⟩ := List.getElem_of_mem hr
 obtain ⟨_, _, _, h3, _⟩ := h.idx (k := .i64) (List.getElem?_eq_getElem hlt)
 exact h3
theorem yw {α : Type} {f : α → List Value} : ∀ {rows : List (List Value)}, (∀ r ∈ rows, ∃ x, r = f x) → ∃ l : List α, rows = l.map f
 | [], _ => ⟨[], rfl⟩
 | r :: rs, h => by
  obtain ⟨l, hl⟩ := yw (rows := rs) fun x hx => h x (by simp [hx])
  obtain ⟨x, rfl⟩ := h r (by simp)
  exact ⟨x :: l, by rw [hl]; rfl⟩
theorem pn {α : Type} {R : List Value → α → Prop} : ∀ {rows : List (List Value)}, (∀ r ∈ rows, ∃ x, R r x) → ∃ l : List α, rows.length = l.length ∧ ∀ (i : Nat) (r : List Value) (x : α), rows[i]? = some r → l[i]? = some x → R r x
 | [], _ => ⟨[], rfl, fun i r k h => by simp at h⟩
 | r :: rs, key => by
  obtain ⟨ks, e1, e2⟩ := pn (rows := rs) fun x hx => key x (by simp [hx])
  obtain ⟨k, e3⟩ := key r (by simp)
  refine ⟨k :: ks, by simp [e1], fun i r' k' f1 f2 => ?_⟩
  cases i with
  | zero => simp at f1 f2; subst f1; subst f2; exact e3
  | succ i => exact e2 i r' k' (by simpa using f1) (by simpa using f2)
theorem q8 {T : Type} {enc : TypeId × Value → T} {P : Program} {w : World} {base : Nat} {sp : Nat → Bool} {held : Bool} {t e : TypeId} {r : Reach} {v : Value} {d : DataW T} {p : List MemPlace} (hu : P.underlying t = some (.slice e)) (hsk : dz P = true) (htl : Nat.blt t P.types.size = true)
  (hv : Value.okWide P w r base t v) (h : DataW.Trod enc P w 0 sp held t v d p) : Leaf P (nN w) t v := by
 obtain ⟨a, len, cap, rfl⟩ := okWide_slice hu hv
 obtain ⟨fuel, hf⟩ := h
 exact ⟨fuel, lk hsk (Nat.le_of_ble_eq_true htl) hf⟩
theorem vZ : jJ PP 5 77 = some [3, 3] := by kernel_rfl
theorem ya {H : Heap} {v : Value} (h : Leaf PP H 23 v) : ∃ l, lP H v l := by
 obtain ⟨rows, hs, n, hw⟩ := h.slice Tryz.underlying23
 have hc : PP.cellsOf 77 = 2 := by kernel_rfl
 rw [hc] at hs
 obtain ⟨l, rfl⟩ := yw (f := Cp.row) (rows := rows) fun r hr => by
  have hl := vA hs hr
  obtain ⟨x0, e0⟩ := dH (bF vZ (hw r hr) 0 3 rfl)
  obtain ⟨x1, e1⟩ := dH (bF vZ (hw r hr) 1 3 rfl)
  match r, hl with
  | [_, _], _ =>
   refine ⟨⟨x0, x1⟩, ?_⟩
   simp only [g, List.getD_cons_zero, List.getD_cons_succ] at e0 e1
   rw [e0, e1]; rfl
 exact ⟨l, hs⟩
theorem kG : jJ PP 5 110 = some [107, 108, 3, 3, 63] := by kernel_rfl
theorem s9 {H : Heap} {v : Value} (h : Leaf PP H 65 v) : ∃ l, Sl H 5 v (bU l) := by
 obtain ⟨rows, hs, n, hw⟩ := h.slice Tryz.underlying65
 have hc : PP.cellsOf 110 = 5 := by kernel_rfl
 rw [hc] at hs
 obtain ⟨l, rfl⟩ := yw (f := Eff.row) (rows := rows) fun r hr => by
  have hl := vA hs hr
  obtain ⟨x0, e0, _⟩ := (bF kG (hw r hr) 0 _ rfl).int Tryz.underlying107
  obtain ⟨x1, e1, _⟩ := (bF kG (hw r hr) 1 _ rfl).int Tryz.underlying108
  obtain ⟨x2, e2⟩ := dH (bF kG (hw r hr) 2 3 rfl)
  obtain ⟨x3, e3⟩ := dH (bF kG (hw r hr) 3 3 rfl)
  obtain ⟨x4, e4, _⟩ := (bF kG (hw r hr) 4 _ rfl).int Tryz.underlying63
  match r, hl with
  | [_, _, _, _, _], _ =>
   refine ⟨⟨x0, x1, x2, x3, x4⟩, ?_⟩
   simp only [g, List.getD_cons_zero, List.getD_cons_succ] at e0 e1 e2 e3 e4
   rw [e0, e1, e2, e3, e4]; rfl
 exact ⟨l, hs⟩
theorem vY : jJ PP 5 71 = some [69, 65] := by kernel_rfl
theorem xY {H : Heap} {v : Value} (h : Leaf PP H 66 v) : ∃ l, TrsF H v l := by
 obtain ⟨rows, hs, n, hw⟩ := h.slice Tryz.underlying66
 have hc : PP.cellsOf 71 = 2 := by kernel_rfl
 rw [hc] at hs
 obtain ⟨l, e1, e2⟩ := pn (R := fun r (t : Int × List Eff) => TrR H r t) (rows := rows) fun r hr => by
  have hl := vA hs hr
  obtain ⟨x0, e0, _⟩ := (bF vY (hw r hr) 0 _ rfl).int Tryz.underlying69
  obtain ⟨es, he⟩ := s9 (bF vY (hw r hr) 1 _ rfl)
  match r, hl with
  | [_, s], _ =>
   simp only [g, List.getD_cons_zero, List.getD_cons_succ] at e0 he
   exact ⟨(x0, es), s, by rw [e0], he⟩
 exact ⟨l, rows, hs, e1, e2⟩
theorem cL : jJ PP 8 68 = some [9, 43, 3, 3, 3, 3, 3, 63, 3, 3, 64, 65, 66, 3] := by kernel_rfl
theorem uI {H : Heap} {v : Value} (h : Leaf PP H 22 v) : ∃ cs, CardsF H v cs := by
 obtain ⟨rows, hs, n, hw⟩ := h.slice Tryz.underlying22
 have hc : PP.cellsOf 68 = 14 := by kernel_rfl
 rw [hc] at hs
 obtain ⟨l, e1, e2⟩ := pn (R := fun r (c : CdF) => CdRF H r c) (rows := rows) fun r hr => by
  have hl := vA hs hr
  have hw := hw r hr
  obtain ⟨x0, e0, _⟩ := (bF cL hw 0 _ rfl).str Tryz.underlying9
  obtain ⟨x1, e1, _⟩ := (bF cL hw 1 _ rfl).int Tryz.underlying43
  obtain ⟨x2, e2⟩ := dH (bF cL hw 2 3 rfl)
  obtain ⟨x3, e3⟩ := dH (bF cL hw 3 3 rfl)
  obtain ⟨x4, e4⟩ := dH (bF cL hw 4 3 rfl)
  obtain ⟨x5, e5⟩ := dH (bF cL hw 5 3 rfl)
  obtain ⟨x6, e6⟩ := dH (bF cL hw 6 3 rfl)
  obtain ⟨x7, e7, _⟩ := (bF cL hw 7 _ rfl).int Tryz.underlying63
  obtain ⟨x8, e8⟩ := dH (bF cL hw 8 3 rfl)
  obtain ⟨x9, e9⟩ := dH (bF cL hw 9 3 rfl)
  obtain ⟨x10, e10, _⟩ := (bF cL hw 10 _ rfl).int Tryz.underlying64
  obtain ⟨es, he⟩ := s9 (bF cL hw 11 _ rfl)
  obtain ⟨ts, ht⟩ := xY (bF cL hw 12 _ rfl)
  obtain ⟨x13, e13⟩ := dH (bF cL hw 13 3 rfl)
  match r, hl with
  | [_, _, _, _, _, _, _, _, _, _, _, sv, tv, _], _ =>
   simp only [g, List.getD_cons_zero, List.getD_cons_succ] at e0 e1 e2 e3 e4 e5 e6 e7 e8 e9 e10 e13 he ht
   refine ⟨⟨x0, x1, x2, x3, x4, x5, x6, x7, x8, x9, x10, es, ts, x13⟩, sv, tv, ?_, he, ht⟩
   rw [e0, e1, e2, e3, e4, e5, e6, e7, e8, e9, e10, e13]; rfl
 exact ⟨l, rows, hs, e1, e2⟩
theorem xI (s : ByteArray) : (Value.string s) = Str s.data.toList := by
 obtain ⟨d⟩ := s
 rfl
section
variable {H : Type} {enc : TypeId × Value → H}
theorem qX {a : Assume} {C : Checked} {os : Os} {f : FuncId} {fn : Func} {s : ChangeSpec} {conds : List PathCond} {apart fresh handsOn again : Bool} {X : World → Array Value → Prop}
  (hX : ∀ (w w' : World) (args : Array Value), w.heap = w'.heap → X w args → X w' args)
  (own : ownKnob C.prog.godebug = none) (started : os.Started) (noInit : C.prog.inits.idxOf? f = none) (hfn : C.prog.funcs[f]? = some fn)
  (witness : ∃ (w : World) (tape : Tape) (i : Input), w.os = os ∧ (w.forCall tape i).Shaped C.prog ∧ i.vars = [] ∧ Input.okWide C.prog (w.forCall tape i) .any w.heap.size f i ∧
   ((s.pre enc C.prog fn conds apart (w.forCall tape i).memory i.args ∧ X (w.forCall tape i).memory i.args) ∧ sizedMet enc C.prog fn (OpenSpec.ofChange s) apart (w.forCall tape i).memory i.args) ∧ a.holds C.prog (lone (Frame.enter C.prog f i.args .normal) [] (w.forCall tape i)))
  (contract : ∀ (W : World) (base : Nat) (args : Array Value) (ds gs : List (DataW H)) (before : List MemPlace),
   (∀ (j : Nat) t v, fn.params[j]? = some t → args[j]? = some v → Value.okWide C.prog W .any base t v) →
   DataW.Whole enc C.prog fn.params.toList s.vars apart W args.toList ds gs before → X W args → W.ShapedOpen C.prog →
   Calls C.prog f args W fun e W' => ∃ v, e = .returned v ∧ s.post enc C.prog fn apart fresh handsOn again W args v W') :
  ReturnsInHanded a C os f .any (fun w args => (s.pre enc C.prog fn conds apart w args ∧ X w args) ∧ sizedMet enc C.prog fn (OpenSpec.ofChange s) apart w args) (s.post enc C.prog fn apart fresh handsOn again) := by
 refine returnsInHanded_of_calls own started noInit witness ?_
 intro w tape i _ hsh _ hok hpre _
 obtain ⟨_, _, _, fn', hfn', _, _, _, _, hval⟩ := hok
 have e : fn' = fn := Option.some.inj (hfn'.symm.trans hfn)
 subst e
 obtain ⟨⟨⟨ds, gs, before, hw, _⟩, hx⟩, _⟩ := hpre
 refine (contract (w.forCall tape i) w.heap.size i.args ds gs before hval (DataW.Whole.of_heap (w' := w.forCall tape i) (by rfl) hw) (hX _ _ _ (by rfl) hx) hsh).mono fun e W' ⟨v, he, hp⟩ => ?_
 subst he
 exact ChangeSpec.post_blind hp
end
end Go.Proofs.YtamgiojcbdbokaaGreatDoor
