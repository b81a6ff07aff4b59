/- The argument of ArenaNone and the words of the phases, out of the world. -/
import Derived.Test.YtpcpmblfhlcmaaaGreatDoorA6
import Derived.Test.YtpcpmblfhlcmaaaGreatDoorFw3
import Derived.Test.YtpcpmblfhlcmaaaGreatDoorRows
import Derived.Test.YtpcpmblfhlcmaaaGreatDoorTie
import Derived.Test.YtpcpmblfhlcmaaaGreatDoorCards
import Derived.SevenTiedAt
import Derived.Carry
import Derived.Lay
import Derived.LaidMore
import Derived.ProofKit
import Derived.Stop.Joined
import Derived.Lib.LaidTab
import Derived.Shelf.Vars
namespace Go.Proofs.YtpcpmblfhlcmaaaGreatDoor
open Go Go.Sx Go.ChangeShapes Go.WideShapes Go.ChangeAt Go.RowKit
set_option maxRecDepth 100000
set_option maxHeartbeats 1000000
theorem IF : ownKnob Tryz.prog.godebug = none := by kernel_rfl
theorem Ah : laidOutB Tryz.prog = true := by kernel_rfl
abbrev nT : List (String × DataW Unit) := [("math/bits.deBruijn64tab", Rows.laid_math_bits_deBruijn64tab), ("unicode/utf8.acceptRanges", Rows.laid_unicode_utf8_acceptRanges), ("zeitnot/turn.words", Rows.laid_zeitnot_turn_words), ("unicode/utf8.first", Rows.laid_unicode_utf8_first)]
theorem uM {P : Program} {w : World} {n : String} {d : DataW Unit} : ∀ {l : List (String × DataW Unit)} {ps : List MemPlace}, DataW.LaidVars P w l ps → (n, d) ∈ l →
  ∃ g t cs fuel p, P.globalNamed n = some g ∧ (P.globals[g]?).map (·.type) = some t ∧ w.var? P n = some cs ∧ DataW.trod (fun _ => ()) P w 0 (fun _ => true) false fuel t cs.toList = some (d, p)
 | [], _, _, h => by cases h
 | (n', d') :: l, ps, h, hm => by
  obtain ⟨g, t, cs, fuel, p, q, h1, h2, h3, h4, h5, _⟩ := h
  rcases List.mem_cons.1 hm with e | hm
  ·cases e; exact ⟨g, t, cs, fuel, p, h1, h2, h3, h4⟩
  ·exact uM h5 hm
theorem rI {X : Type} {enc : TypeId × Value → X} {P : Program} {w : World} {base : Nat} {sp : Nat → Bool} {held : Bool} {fuel : Nat} {t e : TypeId} {n : Nat} {cs : List Value} {ds : List (DataW X)} {p : List MemPlace}
  (ht : P.underlying t = some (.array n e)) (he : P.underlying e = some .string) (hce : P.cellsOf e = 1) (h : DataW.trod enc P w base sp held fuel t cs = some (.agg ds, p)) :
  ∀ i, i < n → ∃ s : ByteArray, cs[i]? = some (.string s) ∧ ds[i]? = some (.lit (.string s.data.toList)) := by
 cases fuel with
 | zero => simp [DataW.trod] at h
 | succ fuel =>
  simp only [DataW.trod, ht, hce, Nat.mul_one] at h
  split at h
  ·obtain ⟨xs, hm, hx⟩ := Option.map_eq_some_iff.1 h
   have hxs : xs.map (·.1) = ds := by
    have := congrArg Prod.fst hx
    simpa using this
   intro i hi
   obtain ⟨b, hb, hf⟩ := Go.Lib.mapM_at hm i i (by simp [hi])
   cases fuel with
   | zero => simp [DataW.trod] at hf
   | succ fuel =>
    have hl : ((cs.drop i).take 1).length ≤ 1 := by simp; omega
    obtain ⟨s, hs⟩ : ∃ s : ByteArray, (cs.drop i).take 1 = [.string s] := by
     unfold DataW.trod at hf
     rw [he] at hf
     generalize (cs.drop i).take 1 = az at hf
     split at hf <;> simp_all
    rw [hs] at hf
    simp only [DataW.trod, he] at hf
    split at hf
    ·have hbv : b = (.lit (.string s.data.toList), []) := (Option.some.inj hf).symm
     refine ⟨s, ?_, ?_⟩
     ·have := congrArg (·[0]?) hs
      simpa [List.getElem?_take, List.getElem?_drop] using this
     ·rw [← hxs, List.getElem?_map, hb, hbv]; rfl
    ·cases hf
  ·cases h
theorem uZ : (Rows.laid_zeitnot_turn_words : DataW Unit) = .agg (wordsN.map fun w => .lit (.string w)) := rfl
theorem BG (s : ByteArray) : (Value.string s) = Str s.data.toList := by
 obtain ⟨d⟩ := s
 rfl
theorem An {W : World} (h : laidMetH Tryz.prog nT W) : GlobOk dp (sJ W) := by
 rw [MakeChecks.laidMetH_plain _ _ _ (by kernel_rfl)] at h
 obtain ⟨ps, hl, _, _⟩ := h
 obtain ⟨g, t, cs, fuel, p, h1, h2, h3, h4⟩ := uM (n := "zeitnot/turn.words") (d := Rows.laid_zeitnot_turn_words) hl (by simp)
 obtain rfl := Option.some.inj ((show Tryz.prog.globalNamed "zeitnot/turn.words" = some 0 by kernel_rfl).symm.trans h1)
 obtain rfl := Option.some.inj ((show (Tryz.prog.globals[0]?).map (·.type) = some 348 by kernel_rfl).symm.trans h2)
 rw [uZ] at h4
 have hk := rI (n := 11) (e := 9) (by kernel_rfl) (by kernel_rfl) (by kernel_rfl) h4
 have hcell : ∀ i v, (wordsN.map Str)[i]? = some v → (sJ W).cell? ⟨0, i, none⟩ = some v := by
  intro i v hv
  have hi : i < 11 := by
   have := (List.getElem?_eq_some_iff.1 hv).1
   simpa using this
  obtain ⟨s, h5, h6⟩ := hk i hi
  rw [List.getElem?_map, Option.map_eq_some_iff] at h6 hv
  obtain ⟨w, hw, he⟩ := h6
  obtain ⟨w', hw', rfl⟩ := hv
  obtain rfl : w = w' := Option.some.inj (hw.symm.trans hw')
  have he : w = s.data.toList := by simpa using he
  rw [tX, World.var?_cell h1 h3 i, ← Array.getElem?_toList, h5, he, ← BG]
 intro n ds hn
 unfold dp at hn
 split at hn
 ·rename_i e
  simp only [Option.some.injEq] at hn
  subst hn
  obtain rfl : n = 0 := Nat.eq_of_beq_eq_true e
  exact ⟨by simp [Ones, Value.oneCell'], fun off m hle => vi hcell hle⟩
 ·cases hn
end Go.Proofs.YtpcpmblfhlcmaaaGreatDoor
