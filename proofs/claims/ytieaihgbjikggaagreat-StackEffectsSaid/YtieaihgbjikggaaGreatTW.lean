/- What all laws of this seat need: the program's own facts; arguments are read. -/
import Derived.Test.YtieaihgbjikggaaGreatC1
import Derived.Test.YtieaihgbjikggaaGreatM4
import Derived.Test.YtieaihgbjikggaaGreatRows
namespace Go.Proofs.YtieaihgbjikggaaGreat
open Go Go.Sx Go.ChangeShapes Go.WideShapes Go.ChangeAt Go.RowKit
set_option maxRecDepth 100000
set_option maxHeartbeats 1000000
theorem own : ownKnob Tryz.prog.godebug = none := by kernel_rfl
theorem laidOut : laidOutB Tryz.prog = true := by kernel_rfl
theorem sOk : structsOk Tryz.prog = true := by kernel_rfl
abbrev nilS' : Value := .slice none 0 0
theorem slice_leaf {T : Type} {enc : TypeId × Value → T} {P : Program} {w : World} {base : Nat} {sp : Nat → Bool} {held : Bool} {t e : TypeId} {r : Reach} {v : Value} {d : DataW T} {p : List MemPlace} (hu : P.underlying t = some (.slice e)) (hsk : structsOk P = true) (htl : Nat.blt t P.types.size = true)
  (hv : Value.okWide P w r base t v) (h : DataW.Trod enc P w 0 sp held t v d p) : Leaf P (heapOf w) t v := by
 obtain ⟨a, len, cap, rfl⟩ := okWide_slice hu hv
 obtain ⟨fuel, hf⟩ := h
 exact ⟨fuel, wf_of_trod hsk (Nat.le_of_ble_eq_true htl) hf⟩
/-- Data for each row. -/
theorem pick_rows {α : Type} {R : List Value → α → Prop} : ∀ {rows : List (List Value)}, (∀ r ∈ rows, ∃ x, R r x) → ∃ l : List α, rows.length = l.length ∧ ∀ (i : Nat) (r : List Value) (x : α), rows[i]? = some r → l[i]? = some x → R r x
 | [], _ => ⟨[], rfl, fun i r k h => by simp at h⟩
 | r :: rs, key => by
  obtain ⟨ks, e1, e2⟩ := pick_rows (rows := rs) fun x hx => key x (by simp [hx])
  obtain ⟨k, e3⟩ := key r (by simp)
  refine ⟨k :: ks, by simp [e1], fun i r' k' f1 f2 => ?_⟩
  cases i with
  | zero => simp at f1 f2; subst f1; subst f2; exact e3
  | succ i => exact e2 i r' k' (by simpa using f1) (by simpa using f2)
theorem trig_effs : (leaves PP 8 89).bind (fun ls => ls[1]?) = some 51 := by kernel_rfl
theorem card_cells : ((leaves PP 8 86).bind (fun ls => ls[1]?) = some 80 ∧ (leaves PP 8 86).bind (fun ls => ls[11]?) = some 51) ∧ (leaves PP 8 86).bind (fun ls => ls[12]?) = some 84 := ⟨⟨by kernel_rfl, by kernel_rfl⟩, by kernel_rfl⟩
end Go.Proofs.YtieaihgbjikggaaGreat
