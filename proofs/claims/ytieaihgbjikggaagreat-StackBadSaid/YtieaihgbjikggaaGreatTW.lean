/- What all laws of this seat need: the program's own facts; arguments are read. -/
import Derived.Test.YtieaihgbjikggaaGreatC18
import Derived.Test.YtieaihgbjikggaaGreatRows
namespace Go.Proofs.YtieaihgbjikggaaGreat
open Go Go.Sx Go.ChangeShapes Go.WideShapes Go.ChangeAt Go.RowKit
set_option maxRecDepth 100000
set_option maxHeartbeats 1000000
theorem own : ownKnob Tryz.prog.godebug = none := by kernel_rfl
theorem laidOut : laidOutB Tryz.prog = true := by kernel_rfl
theorem sOk : structsOk Tryz.prog = true := by kernel_rfl
abbrev nilS' : Value := .slice none 0 0
abbrev zB : Value := .agg #[nilS', iV 0, iV 0, iV 0, iV 0, iV 0, nilS', nilS', nilS', nilS', .bool false, .bool false, .bool false, iV 0, iV 0, iV 0, iV 0, iV 0, iV 0, iV 0, nilS', nilS', nilS', nilS', .bool false, .bool false, .bool false, iV 0, iV 0, nilS', nilS', nilS', nilS', iV 0, iV 0, iV 0, iV 0, iV 0]
theorem wf_bounds {n : Int} (h : (Lit.int .i64 n).wf = true) : -9223372036854775808 ≤ n ∧ n ≤ 9223372036854775807 := by
 simp only [Lit.wf, Bool.and_eq_true, decide_eq_true_eq] at h
 exact h
theorem trodAll_five {Q : Type} {P : Program} {enc : TypeId × Value → Q} {w : World} {base : Nat} {spare : Nat → Bool} {held : Bool} {t0 t1 t2 t3 t4 : TypeId} {args : Array Value} {ds : List (DataW Q)} {ps : List MemPlace} (h : DataW.TrodAll enc P w base spare held [t0, t1, t2, t3, t4] args.toList ds ps) :
  ∃ v0 v1 v2 v3 v4 d0 d1 d2 d3 d4 p0 p1 p2 p3 p4, args = #[v0, v1, v2, v3, v4] ∧ ds = [d0, d1, d2, d3, d4] ∧ ps = p0 ++ p1 ++ p2 ++ p3 ++ p4 ∧ DataW.Trod enc P w base spare held t0 v0 d0 p0 ∧ DataW.Trod enc P w base spare held t1 v1 d1 p1 ∧ DataW.Trod enc P w base spare held t2 v2 d2 p2 ∧
   DataW.Trod enc P w base spare held t3 v3 d3 p3 ∧ DataW.Trod enc P w base spare held t4 v4 d4 p4 := by
 obtain ⟨v, vs, d, ds', p, q, hargs, rfl, rfl, hd, hrest⟩ := trodAll_cons h
 obtain ⟨v', vs', d', ds'', p', q', rfl, rfl, rfl, hd', hrest'⟩ := trodAll_cons hrest
 obtain ⟨v'', vs'', d'', ds''', p'', q'', rfl, rfl, rfl, hd'', hrest''⟩ := trodAll_cons hrest'
 obtain ⟨v3, vs3, d3, ds3, p3, q3, rfl, rfl, rfl, hd3, hrest3⟩ := trodAll_cons hrest''
 obtain ⟨v4, vs4, d4, ds4, p4, q4, rfl, rfl, rfl, hd4, hrest4⟩ := trodAll_cons hrest3
 obtain ⟨rfl, rfl, rfl⟩ := trodAll_nil hrest4
 exact ⟨v, v', v'', v3, v4, d, d', d'', d3, d4, p, p', p'', p3, p4, by cases args; simp_all, rfl, by simp, hd, hd', hd'', hd3, hd4⟩
theorem slice_leaf {T : Type} {enc : TypeId × Value → T} {P : Program} {w : World} {base : Nat} {sp : Nat → Bool} {held : Bool} {t e : TypeId} {r : Reach} {v : Value} {d : DataW T} {p : List MemPlace} (hu : P.underlying t = some (.slice e)) (hsk : structsOk P = true) (htl : Nat.blt t P.types.size = true)
  (hv : Value.okWide P w r base t v) (h : DataW.Trod enc P w 0 sp held t v d p) : Leaf P (heapOf w) t v := by
 obtain ⟨a, len, cap, rfl⟩ := okWide_slice hu hv
 obtain ⟨fuel, hf⟩ := h
 exact ⟨fuel, wf_of_trod hsk (Nat.le_of_ble_eq_true htl) hf⟩
/-- Data for each row. -/
theorem pick_rows {α : Type} {R : List Value → α → Prop} : ∀ {rows : List (List Value)}, (∀ r ∈ rows, ∃ x, R r x) → ∃ l : List α, rows.length = l.length ∧ ∀ (i : Nat) (r : List Value) (x : α), rows[i]? = some r → l[i]? = some x → R r x
 | [], _ => ⟨[], rfl, fun i r k h => by simp at h⟩
 | r :: rs, key => by
  obtain ⟨ks, e1, e2⟩ := pick_rows (rows := rs) fun x hx => key x (by simp [hx])
  obtain ⟨k, e3⟩ := key r (by simp)
  refine ⟨k :: ks, by simp [e1], fun i r' k' f1 f2 => ?_⟩
  cases i with
  | zero => simp at f1 f2; subst f1; subst f2; exact e3
  | succ i => exact e2 i r' k' (by simpa using f1) (by simpa using f2)
theorem eff_kind : (leaves PP 8 56).bind (fun ls => ls[1]?) = some 48 := by kernel_rfl
theorem read_effs {H : Heap} {v : Value} (h : Leaf PP H 51 v) : ∃ tg, EffsS H v tg := by
 obtain ⟨rows, hs, n, hw⟩ := h.slice Tryz.underlying51
 have hc : PP.cellsOf 56 = 5 := by kernel_rfl
 rw [hc] at hs
 obtain ⟨ls, hls, h1⟩ := Option.bind_eq_some_iff.1 eff_kind
 obtain ⟨tg, e1, e2⟩ := pick_rows (R := fun r (t : Int) => g r 1 = iV t) (rows := rows) fun r hr => by
  obtain ⟨x, e, _⟩ := (leaf_at hls (hw r hr) 1 _ h1).int Tryz.underlying48
  exact ⟨x, e⟩
 exact ⟨tg, rows, hs, e1, e2⟩
theorem trig_effs : (leaves PP 8 89).bind (fun ls => ls[1]?) = some 51 := by kernel_rfl
theorem read_trigs {H : Heap} {v : Value} (h : Leaf PP H 84 v) : ∃ tr, TrigsS H v tr := by
 obtain ⟨rows, hs, n, hw⟩ := h.slice Tryz.underlying84
 have hc : PP.cellsOf 89 = 2 := by kernel_rfl
 rw [hc] at hs
 obtain ⟨ls, hls, h1⟩ := Option.bind_eq_some_iff.1 trig_effs
 obtain ⟨tr, e1, e2⟩ := pick_rows (R := fun r (n : Nat) => TrigR H r n) (rows := rows) fun r hr => by
  obtain ⟨tg, er, e, e', _⟩ := read_effs (leaf_at hls (hw r hr) 1 _ h1)
  exact ⟨er.length, er, e, rfl⟩
 exact ⟨tr, rows, hs, e1, e2⟩
theorem card_cells : ((leaves PP 8 86).bind (fun ls => ls[1]?) = some 80 ∧ (leaves PP 8 86).bind (fun ls => ls[11]?) = some 51) ∧ (leaves PP 8 86).bind (fun ls => ls[12]?) = some 84 := ⟨⟨by kernel_rfl, by kernel_rfl⟩, by kernel_rfl⟩
theorem read_cardsC {H : Heap} {v : Value} (h : Leaf PP H 22 v) : ∃ cs, CardsS H v cs := by
 obtain ⟨rows, hs, n, hw⟩ := h.slice Tryz.underlying22
 have hc : PP.cellsOf 86 = 14 := by kernel_rfl
 rw [hc] at hs
 obtain ⟨ls, hls, h1⟩ := Option.bind_eq_some_iff.1 card_cells.1.1
 obtain ⟨ls2, hls2, h2⟩ := Option.bind_eq_some_iff.1 card_cells.1.2
 obtain ⟨ls3, hls3, h3⟩ := Option.bind_eq_some_iff.1 card_cells.2
 obtain rfl := Option.some.inj (hls.symm.trans hls2)
 obtain rfl := Option.some.inj (hls.symm.trans hls3)
 obtain ⟨cs, e1, e2⟩ := pick_rows (R := fun r (c : Cd) => CdR H r c) (rows := rows) fun r hr => by
  obtain ⟨k, e, _⟩ := (leaf_at hls (hw r hr) 1 _ h1).int Tryz.underlying80
  obtain ⟨tg, ht⟩ := read_effs (leaf_at hls (hw r hr) 11 _ h2)
  obtain ⟨tr, hr⟩ := read_trigs (leaf_at hls (hw r hr) 12 _ h3)
  exact ⟨⟨k, tg, tr⟩, e, ht, hr⟩
 exact ⟨cs, rows, hs, e1, e2⟩
theorem read_tgL {H : Heap} {cs : List Value} (hl : cs.length = 2) (a : ∀ i l, ([3, 3] : List TypeId)[i]? = some l → Leaf PP H l (g cs i)) : ∃ t : Tg, cs = t.row := by
 obtain ⟨x0, e0⟩ := leaf_int (a 0 3 rfl)
 obtain ⟨x1, e1⟩ := leaf_int (a 1 3 rfl)
 match cs, hl with
 | [_, _], _ =>
  refine ⟨⟨x0, x1⟩, ?_⟩
  simp only [g, List.getD_cons_zero, List.getD_cons_succ] at e0 e1
  rw [e0, e1]; rfl
end Go.Proofs.YtieaihgbjikggaaGreat
