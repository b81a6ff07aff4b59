/- Texts of results: Text, Parse, the reference's. -/
import Derived.Test.YtafnobmndgjeaaaDoorR1E
namespace Go.Proofs.YtafnobmndgjeaaaDoor
open Go Go.Sx Go.Lib
set_option maxRecDepth 100000

def outsL : List (List UInt8) := [[110, 111, 110, 101], [122, 101, 114, 111], [111, 110, 101], [100, 114, 97, 119]]
def reasL : List (List UInt8) := [[], [108, 105, 102, 101], [100, 101, 99, 107], [99, 111, 110, 99, 101, 100, 101], [116, 105, 109, 101], [99, 97, 112]]
/-- The two tables of words are in memory. -/
structure Glob (H : Heap) : Prop where
  outs : Arr H 1 ⟨0, 0, none⟩ (outsL.map fun a => [Str a])
  reas : Arr H 1 ⟨1, 0, none⟩ (reasL.map fun a => [Str a])
theorem Glob.le {H H' : Heap} (h : Glob H) (hl : Heap.le H H') : Glob H' := ⟨h.outs.le hl, h.reas.le hl⟩
def textOk (o r : Int) : Bool := !(((decide (o < 0) || decide (o ≥ 4)) || decide (r < 0)) || decide (r ≥ 6) || !((o == 0) == (r == 0)))
def textN (o r : Nat) : List UInt8 := trimSuf (outsL.getD o [] ++ [32] ++ reasL.getD r []) [32]
def textR (o r : Int) : Value := if textOk o r then .tuple #[Str (textN o.toNat r.toNat), I 0] else .tuple #[Str [], I 2]
theorem outs_get {o : Nat} (h : o < 4) : outsL[o]? = some (outsL.getD o []) := by
  rcases o with _ | _ | _ | _ | o <;> first | rfl | omega
theorem reas_get {o : Nat} (h : o < 6) : reasL[o]? = some (reasL.getD o []) := by
  rcases o with _ | _ | _ | _ | _ | _ | o <;> first | rfl | omega
theorem outs_len {o : Nat} : (outsL.getD o []).length ≤ 4 := by
  rcases o with _ | _ | _ | _ | o <;> simp [outsL]
theorem reas_len {o : Nat} : (reasL.getD o []).length ≤ 7 := by
  rcases o with _ | _ | _ | _ | _ | _ | o <;> simp [reasL]
theorem s13 {H : Heap} (hg : Glob H) (o r : Int) : Ret Tryd.prog 13 [.agg #[I o, I r]] H (textR o r) := by
  refine run13 (vs := [I o, I r]) (by kernel_rfl) ⟨rfl, rfl, trivial⟩ ?_
  simp only [t13]
  refine fun r0 => ?_
  repeat (first | refine chkN_den ?_ | refine chkV_den ?_ | refine pure_den _ (lss_eq _ _) ?_ | refine pure_den _ (geq_eq _ _) ?_ | refine pure_den _ (eql_eq _ _) ?_ | refine pure_den _ (bneq_eq _ _) ?_ | refine pure_den _ (pick_or _ _) ?_)
  refine br_den (fun hb => ret_den ⟨?_, rfl⟩) (fun hb => ?_)
  · have hno : textOk o r = false := by unfold textOk; rw [hb]; rfl
    unfold textR; rw [hno]; rfl
  · have hok : textOk o r = true := by unfold textOk; rw [hb]; rfl
    have hb' := hb
    simp only [Bool.or_eq_false_iff, decide_eq_false_iff_not] at hb'
    obtain ⟨o, rfl⟩ := Int.eq_ofNat_of_zero_le (show 0 ≤ o by omega)
    obtain ⟨r, rfl⟩ := Int.eq_ofNat_of_zero_le (show 0 ≤ r by omega)
    have ho : o < 4 := by omega
    have hr : r < 6 := by omega
    obtain ⟨a, h1, h2, h3, h4⟩ := hg.outs.pidx (k := .i64) (n := 4) rfl (i := o) (r := [Str (outsL.getD o [])]) (by rw [List.getElem?_map, outs_get ho]; rfl)
    obtain ⟨b, k1, k2, k3, k4⟩ := hg.reas.pidx (k := .i64) (n := 6) rfl (i := r) (r := [Str (reasL.getD r [])]) (by rw [List.getElem?_map, reas_get hr]; rfl)
    have l1 := outs_len (o := o)
    have l2 := reas_len (o := r)
    have hres : textR o r = .tuple #[Str (trimSuf (outsL.getD o [] ++ [32] ++ reasL.getD r []) [32]), I 0] := by unfold textR; rw [hok]; rfl
    rw [hres]
    revert h2 k2 l1 l2
    generalize outsL.getD o [] = wo
    generalize reasL.getD r [] = wr
    intro h2 k2 l1 l2
    have l3 : (wo ++ [32] ++ wr).length ≤ 12 := by simp only [List.length_append, List.length_cons, List.length_nil]; omega
    refine chkN_den (pure_den _ h1 (load_den h2 h3 ⟨rfl, trivial⟩ (pure_den _ (str_add (a := wo) (b := [32]) (by simp only [List.length_cons, List.length_nil]; omega)) ?_)))
    refine chkN_den (pure_den _ k1 (load_den k2 k3 ⟨rfl, trivial⟩ (pure_den _ (str_add (a := wo ++ [32]) (b := wr) (by simp only [List.length_append, List.length_cons, List.length_nil]; omega)) ?_)))
    exact call_ret (s24 (wo ++ [32] ++ wr) [32] (by omega) (by simp) H) rfl ⟨rfl, trivial⟩ fun H1 _ => ret_den ⟨rfl, rfl⟩
/-- The reference's words. -/
def reas2L : List (List UInt8) := [[], [32, 108, 105, 102, 101], [32, 100, 101, 99, 107], [32, 99, 111, 110, 99, 101, 100, 101], [32, 116, 105, 109, 101], [32, 99, 97, 112]]
theorem s25 (H : Heap) : Gives Tryd.prog 25 [] H fun v H' => ∃ s1 s2, v = .tuple #[s1, s2] ∧ Sl H' 1 s1 (outsL.map fun a => [Str a]) ∧ Sl H' 1 s2 (reas2L.map fun a => [Str a]) := by
  refine run25 (vs := []) (by kernel_rfl) trivial ?_
  simp only [t25]
  refine fun r0 r1 => ret_frz fun H' _ hf => ⟨⟨.slice (some ⟨r0, 0, none⟩) 4 4, .slice (some ⟨r1, 0, none⟩) 6 6, rfl, ?_, ?_⟩, rfl⟩
  · exact Sl.block (T := 9) (cs := outsL.map Str) (hf _ (by simp; left; rfl)) ⟨rfl, rfl, rfl, rfl, trivial⟩ rfl (by omega)
  · exact Sl.block (T := 9) (cs := reas2L.map Str) (hf _ (by simp; right; rfl)) ⟨rfl, rfl, rfl, rfl, rfl, rfl, trivial⟩ rfl (by omega)
end Go.Proofs.YtafnobmndgjeaaaDoor
