/- What the small functions of this seat hand back. -/
import Derived.Test.YtafnobmndgjeaaaDoorR1T
namespace Go.Proofs.YtafnobmndgjeaaaDoor
open Go Go.Sx
set_option maxRecDepth 100000

abbrev I (n : Int) : Value := .int .i64 n
theorem s31 (a lo hi : Int) (H : Heap) : Ret Tryd.prog 31 [I a, I lo, I hi] H (.bool (decide (lo ≤ a ∧ a ≤ hi))) := by
  refine run31 (vs := [I a, I lo, I hi]) (by kernel_rfl) ⟨rfl, rfl, rfl, trivial⟩ ?_
  simp [t31, Tree.den, g, evalPure, evalBin, evalInt, Ck.holds, On, ghost_ex]
theorem s23 (a lo hi : Int) (H : Heap) : Ret Tryd.prog 23 [I a, I lo, I hi] H (.bool (decide (lo ≤ a ∧ a ≤ hi))) := by
  refine run23 (vs := [I a, I lo, I hi]) (by kernel_rfl) ⟨rfl, rfl, rfl, trivial⟩ ?_
  simp [t23, Tree.den, g, evalPure, evalBin, evalInt, Ck.holds, On, ghost_ex]
theorem s30 (a : Int) (H : Heap) : Ret Tryd.prog 30 [I a] H (.bool false) := by
  refine run30 (vs := [I a]) (by kernel_rfl) ⟨rfl, trivial⟩ ?_
  simp [t30, Tree.den, g, evalPure, evalBin, evalInt, On, ghost_ex]
def cmpI (a b : Int) : Int := if a < b then -1 else if a > b then 1 else 0
theorem s21 (a b : Int) (H : Heap) : Ret Tryd.prog 21 [I a, I b] H (I (cmpI a b)) := by
  refine run21 (vs := [I a, I b]) (by kernel_rfl) ⟨rfl, rfl, trivial⟩ ?_
  simp only [t21]
  refine call_ret (s30 _ _) rfl ⟨rfl, trivial⟩ fun H1 _ => ?_
  refine call_ret (s30 _ _) rfl ⟨rfl, trivial⟩ fun H2 _ => ?_
  rcases Int.lt_trichotomy a b with h | h | h
  · simp [Tree.den, g, evalPure, evalBin, evalInt, On, ghost_ex, cmpI, h]
  · simp [Tree.den, g, evalPure, evalBin, evalInt, On, ghost_ex, cmpI, h]
  · have h' : ¬ a < b := by omega
    simp [Tree.den, g, evalPure, evalBin, evalInt, On, ghost_ex, cmpI, h, h']
/-- The bounds of a configuration. -/
def validB (life mull acts trig obj turn : Int) : Bool := decide (1 ≤ life ∧ life ≤ 9999) && (decide (0 ≤ mull ∧ mull ≤ 7) && (decide (1 ≤ acts ∧ acts ≤ 100) && (decide (40 ≤ trig ∧ trig ≤ 500) && (decide (0 ≤ obj ∧ obj ≤ 100) && decide (1 ≤ turn ∧ turn ≤ 200)))))
theorem s22 (a b c d e f : Int) (H : Heap) : Ret Tryd.prog 22 [.agg #[I a, I b, I c, I d, I e, I f]] H (.bool (validB a b c d e f)) := by
  refine run22 (vs := [I a, I b, I c, I d, I e, I f]) (by kernel_rfl) ⟨rfl, rfl, rfl, rfl, rfl, rfl, trivial⟩ ?_
  simp only [t22]
  refine newbox_den fun r0 => ?_
  have step : ∀ {x lo hi : Int} {H : Heap} {k1 k2 : Tree} {Q : Value → Heap → Own → Prop}, (∀ H', decide (lo ≤ x ∧ x ≤ hi) = true → k1.den Tryd.prog Q H' []) → (∀ H', decide (lo ≤ x ∧ x ≤ hi) = false → k2.den Tryd.prog Q H' []) →
      (Tree.chk (.eqN r0 r0) (.call false 31 [I x, I lo, I hi] [] [] .one fun l _ => .br (g l 0) k1 k2)).den Tryd.prog Q H [] := by
    intro x lo hi H k1 k2 Q h1 h2
    refine chkN_den (call_ret (s31 x lo hi _) rfl ⟨rfl, trivial⟩ fun H1 _ => ?_)
    exact br_den (h1 H1) (h2 H1)
  have last : ∀ {x lo hi : Int} {H : Heap} {Q : Value → Heap → Own → Prop}, (∀ H', Q (.bool (decide (lo ≤ x ∧ x ≤ hi))) H' []) →
      (Tree.chk (.eqN r0 r0) (.call false 31 [I x, I lo, I hi] [] [] .one fun l _ => .ret (g l 0) [])).den Tryd.prog Q H [] := by
    intro x lo hi H Q h1
    exact chkN_den (call_ret (s31 x lo hi _) rfl ⟨rfl, trivial⟩ fun H1 _ => ret_den (h1 H1))
  refine step (fun H1 h1 => step (fun H2 h2 => step (fun H3 h3 => step (fun H4 h4 => step (fun H5 h5 => last fun H6 => ?_) ?_) ?_) ?_) ?_) ?_
  all_goals (intros; first | (refine ret_den ?_; simp only [validB, *]; simp) | simp only [validB, *, Bool.true_and, and_self])
theorem s11 (a b c d e f : Int) (H : Heap) : Ret Tryd.prog 11 [.agg #[I a, I b, I c, I d, I e, I f]] H (.bool (validB a b c d e f)) := by
  refine run11 (vs := [I a, I b, I c, I d, I e, I f]) (by kernel_rfl) ⟨rfl, rfl, rfl, rfl, rfl, rfl, trivial⟩ ?_
  simp only [t11]
  refine newbox_den fun r0 => ?_
  have step : ∀ {x lo hi : Int} {H : Heap} {k1 k2 : Tree} {Q : Value → Heap → Own → Prop}, (∀ H', decide (lo ≤ x ∧ x ≤ hi) = true → k1.den Tryd.prog Q H' []) → (∀ H', decide (lo ≤ x ∧ x ≤ hi) = false → k2.den Tryd.prog Q H' []) →
      (Tree.chk (.eqN r0 r0) (.call false 23 [I x, I lo, I hi] [] [] .one fun l _ => .br (g l 0) k1 k2)).den Tryd.prog Q H [] := by
    intro x lo hi H k1 k2 Q h1 h2
    refine chkN_den (call_ret (s23 x lo hi _) rfl ⟨rfl, trivial⟩ fun H1 _ => ?_)
    exact br_den (h1 H1) (h2 H1)
  have last : ∀ {x lo hi : Int} {H : Heap} {Q : Value → Heap → Own → Prop}, (∀ H', Q (.bool (decide (lo ≤ x ∧ x ≤ hi))) H' []) →
      (Tree.chk (.eqN r0 r0) (.call false 23 [I x, I lo, I hi] [] [] .one fun l _ => .ret (g l 0) [])).den Tryd.prog Q H [] := by
    intro x lo hi H Q h1
    exact chkN_den (call_ret (s23 x lo hi _) rfl ⟨rfl, trivial⟩ fun H1 _ => ret_den (h1 H1))
  refine step (fun H1 h1 => step (fun H2 h2 => step (fun H3 h3 => step (fun H4 h4 => step (fun H5 h5 => last fun H6 => ?_) ?_) ?_) ?_) ?_) ?_
  all_goals (intros; first | (refine ret_den ?_; simp only [validB, *]; simp) | simp only [validB, *, Bool.true_and, and_self])
end Go.Proofs.YtafnobmndgjeaaaDoor
