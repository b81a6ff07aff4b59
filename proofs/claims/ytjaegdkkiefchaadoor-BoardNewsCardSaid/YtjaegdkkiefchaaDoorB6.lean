/- BoardNews is true. -/
import Derived.Test.YtjaegdkkiefchaaDoorB5
import Derived.Test.YtjaegdkkiefchaaDoorKN2
namespace Go.Proofs.YtjaegdkkiefchaaDoor
open Go Go.Sx
set_option maxRecDepth 100000

theorem news_true {H : Heap} (hgl : GlobOk glob0 H) (life : Int) {va vc : Value} {a c : List Int} (ha : Sl H 1 va (ints a)) (hc : Sl H 1 vc (ints c)) :
    Triple PP F_zeitnotlaw15_BoardNews [iV life, va, vc] H [] fun v _ O' => v = .bool true ∧ O' = [] := by
  refine run_zeitnotlaw15_BoardNews (vs := [iV life, va, vc]) (by kernel_rfl) ⟨rfl, ha.one, hc.one, trivial⟩ ?_
  simp only [T_zeitnotlaw15_BoardNews]
  have la := ha.len
  have lc := hc.len
  rw [ints, List.length_map] at la lc
  refine pure_den _ la (pure_den _ (gtr_eq _ _) (chkV_den (pure_den _ lc (chkV_den (pure_den _ (gtr_eq _ _) (chkV_den (pure_den _ (pick_or _ _) (br_den (fun hb => ?_) (fun hb => ?_)))))))))
  · exact call_retO (c_known hgl []) rfl ⟨rfl, trivial⟩ fun H1 l1 => ret_denO ⟨rfl, rfl⟩
  · have hla : a.length ≤ 30 := by simp at hb; omega
    have hlc : c.length ≤ 30 := by simp at hb; omega
    refine call_gives (S := fun v H' => ∃ w, v = .tuple #[.agg (boardC w (newR life a c).1).toArray, iV (newR life a c).2] ∧ BdR H' [] w (newR life a c).1) ?_ ?_
    · exact (c_New life ha hc (by omega) (by omega)).mono fun v H' O' _ h => ⟨h.2, h.1⟩
    rintro v1 H1 ⟨w, rfl, hR⟩ l1
    refine ⟨boardC w (newR life a c).1 ++ [iV (newR life a c).2], rfl, ones_app (boardC_ones hR) ⟨rfl, trivial⟩, ?_⟩
    refine newbox_den fun r0 => chkN_den ?_
    refine call_gives (S := fun v H' => ∃ w, v = .tuple #[.agg (boardC w (newR life a c).1).toArray, iV (newR life a c).2] ∧ BdR H' [] w (newR life a c).1) ?_ ?_
    · exact (r_New life (ha.le l1) (hc.le l1) (by omega) (by omega)).mono fun v H' O' _ h => ⟨h.2, h.1⟩
    rintro v2 H2 ⟨w', rfl, hR'⟩ l2
    refine ⟨boardC w' (newR life a c).1 ++ [iV (newR life a c).2], rfl, ones_app (boardC_ones hR') ⟨rfl, trivial⟩, ?_⟩
    refine newbox_den fun r1 => chkN_den (chkN_den (chkN_den ?_))
    refine call_retO (r_Same (hR.le l2) hR') rfl ⟨rfl, trivial⟩ fun H3 l3 => chkV_den (chkV_den (pure_den _ (eql_eq _ _) (chkV_den (pure_den _ (pick_and _ _) (br_den (fun hb => ?_) (fun hb => ?_))))))
    · exact call_retO (c_known (((hgl.le l1).le l2).le l3) []) rfl ⟨rfl, trivial⟩ fun H4 l4 => ret_denO ⟨rfl, rfl⟩
    · simp at hb
end Go.Proofs.YtjaegdkkiefchaaDoor
