/- Loops with a ghost; steps of thought; Code's tree says what the code does. -/
import Derived.Test.YtafnobmndgjeaaaDoorSx19
namespace Go.Sx
open Go

theorem least {G : Type} (I : G → Prop) (μ : G → Nat) : ∀ (n : Nat) (g : G), I g → μ g ≤ n → ∃ m, (∃ g, I g ∧ μ g = m) ∧ ∀ g, I g → m ≤ μ g
  | 0, g, h, hn => ⟨0, ⟨g, h, by omega⟩, fun _ _ => Nat.zero_le _⟩
  | n + 1, g, h, hn => by
    by_cases hx : ∃ g', I g' ∧ μ g' ≤ n
    · obtain ⟨g', h1, h2⟩ := hx
      exact least I μ n g' h1 h2
    · refine ⟨μ g, ⟨g, h, rfl⟩, fun g' hg' => ?_⟩
      have : ¬ μ g' ≤ n := fun hl => hx ⟨g', hg', hl⟩
      omega
/-- A loop whose measure is a ghost's. -/
theorem wp_loop_ghost {P : Program} {c : Code} {Q : Exit → Act → World → Prop} {G : Type} (I : G → Act → World → Prop) (μ : G → Nat) {g0 : G} {a : Act} {w : World} (h0 : I g0 a w)
    (round : ∀ g a w, I g a w → c.wp P (Exit.then (fun a' w' => ∃ g', I g' a' w' ∧ μ g' < μ g) Q) a w) : (Code.loop c).wp P Q a w := by
  let m : Act → World → Nat := fun a w => Classical.epsilon fun n => (∃ g, I g a w ∧ μ g = n) ∧ ∀ g, I g a w → n ≤ μ g
  have hm : ∀ a w, (∃ g, I g a w) → (∃ g, I g a w ∧ μ g = m a w) ∧ ∀ g, I g a w → m a w ≤ μ g := by
    rintro a w ⟨g, hg⟩
    exact Classical.epsilon_spec (least (fun g => I g a w) μ (μ g) g hg (Nat.le_refl _))
  refine wp_loop (fun a w => ∃ g, I g a w) m ⟨g0, h0⟩ fun a w hI => ?_
  obtain ⟨⟨g, hg, hgm⟩, _⟩ := hm a w hI
  refine wp_mono (round g a w hg) fun e a' w' hq => ?_
  cases e with
  | normal =>
    obtain ⟨g', hg', hlt⟩ := hq
    refine ⟨⟨g', hg'⟩, ?_⟩
    have := (hm a' w' ⟨g', hg'⟩).2 g' hg'
    show m a' w' < m a w
    omega
  | _ => exact hq

theorem Conc.cons {F : Own} {s : SS} {H : Heap} {O : Own} {a : Act} {w : World} (h : Conc F s H O a w) : Cons H O :=
  let ⟨L, _, hm⟩ := h.mm; ⟨w, L ++ F, hm.perm (List.perm_append_comm_assoc _ _ _)⟩

theorem Conc.ghost {F : Own} {s : SS} {H H' : Heap} {O O' : Own} {a : Act} {w : World} (h : Conc F s H O a w) (hg : Ghost H O H' O') : Conc F s H' O' a w ∧ Heap.le H H' := by
  obtain ⟨L, hL, hm⟩ := h.mm
  have h1 : Models w H (O ++ (L ++ F)) := hm.perm (List.perm_append_comm_assoc _ _ _)
  obtain ⟨h2, hle⟩ := hg w _ h1
  exact ⟨⟨h.ok, h.df, h.sz, h.tm, L, hL, h2.perm (List.perm_append_comm_assoc _ _ _)⟩, hle⟩
end Go.Sx
