/- BoardValid is true. -/
import Derived.Test.YtjaegdkkiefchaaGreatDoorC23
import Derived.Test.YtjaegdkkiefchaaGreatDoorKN2
namespace Go.Proofs.YtjaegdkkiefchaaGreatDoor
open Go Go.Sx
set_option maxRecDepth 100000
set_option maxHeartbeats 1000000

theorem small_B {b : Bd} (h : smallBd b = true) : bdB b := by
  simp only [smallBd, stSmall, itsSmall, Bool.and_eq_true, Bool.not_eq_true', decide_eq_true_eq, decide_eq_false_iff_not, List.all_eq_true] at h
  obtain ⟨⟨a1, a2, a3, a4⟩, ⟨a5, a6, a7, a8⟩, ⟨a9, a10⟩, ⟨a11, a12⟩, ⟨a13, a14⟩, a15⟩ := h
  refine ⟨by omega, ⟨by omega, by omega, by omega, by omega⟩, ⟨by omega, by omega, by omega, by omega⟩, ⟨by omega, fun x hx => ?_⟩, ⟨by omega, fun x hx => ?_⟩, by omega, by omega⟩
  · have := a10 x hx; omega
  · have := a12 x hx; omega
/-- A call that is handed what is owned, and keeps it. -/
theorem call_drop {P : Program} {f : FuncId} {args : List Value} {H : Heap} {O O1 O2 : Own} {r : Value} {shp : Shp} {K : List Value → List (List Value) → Heap → Own → Prop} {vs : List Value}
    (hO : O.Perm (O1 ++ O2)) (h : Triple P f args H O1 fun v _ _ => v = r) (ho : shp.open r = some vs) (h1 : Ones vs) (hk : ∀ H' O3, Heap.le H H' → K vs [] H' (O3 ++ O2)) :
    CallD (fun H1 O1 R => Triple P f args H1 O1 R) false [] [] shp K H O := by
  intro _
  refine ⟨H, O1, O2, _, Ghost.perm hO, h, fun v H' O' hr hle => ?_⟩
  subst hr
  exact ⟨vs, [], O', ho, h1, trivial, rfl, hk H' O' hle⟩
theorem valid_true {H : Heap} (hgl : GlobOk glob0 H) {v w : BV12} {a b : Bd} (ha : BdS H v a) (hb : BdS H w b) :
    Triple PP F_zeitnotlaw15_BoardValid [.agg (boardC v a).toArray, .agg (boardC w b).toArray] H [] fun r _ O' => r = .bool true ∧ O' = [] := by
  refine run_zeitnotlaw15_BoardValid (vs := boardC v a ++ boardC w b) (by kernel_rfl) (ones_app (boardC_ones (ha.r [])) (boardC_ones (hb.r []))) ?_
  simp only [T_zeitnotlaw15_BoardValid]
  refine newbox_den fun r0 => newbox_den fun r1 => chkN_den ?_
  refine call_retO (c_small (ha.r [])) rfl ⟨rfl, trivial⟩ fun H1 l1 => pure_den _ (not_eq' _) (br_den (fun _ => ?_) (fun hsa => ?_))
  · exact call_retO (c_known (hgl.le l1) []) rfl ⟨rfl, trivial⟩ fun H2 l2 => ret_denO ⟨rfl, rfl⟩
  replace hgl := hgl.le l1
  replace ha := ha.le l1
  replace hb := hb.le l1
  refine chkN_den (call_retO (c_small (hb.r [])) rfl ⟨rfl, trivial⟩ fun H2 l2 => pure_den _ (not_eq' _) (br_den (fun _ => ?_) (fun hsb => ?_)))
  · exact call_retO (c_known (hgl.le l2) []) rfl ⟨rfl, trivial⟩ fun H2 l2 => ret_denO ⟨rfl, rfl⟩
  replace hgl := hgl.le l2
  replace ha := ha.le l2
  replace hb := hb.le l2
  have sa := notF hsa
  have sb := notF hsb
  repeat (first | refine chkN_den ?_ | refine chkV_den ?_)
  refine call_new (r_Copy ha (small_B sa)) ?_
  rintro _ H3 O1 ⟨u, rfl, hu⟩ l3
  refine ⟨boardC u a, rfl, ownB_ones H3 hu, ?_⟩
  replace hgl := hgl.le l3
  replace ha := ha.le l3
  replace hb := hb.le l3
  repeat (first | refine chkN_den ?_ | refine chkV_den ?_)
  refine call_new (c_Copy ha (small_B sa)) ?_
  rintro _ H4 O2 ⟨c, rfl, hc⟩ l4
  refine ⟨boardC c a, rfl, ownB_ones H4 hc, ?_⟩
  replace hgl := hgl.le l4
  replace ha := ha.le l4
  replace hb := hb.le l4
  refine newbox_den fun r2 => newbox_den fun r3 => ?_
  repeat (first | refine chkN_den ?_ | refine chkV_den ?_)
  refine call_retO (c_board_Valid (ha.r _)) rfl ⟨rfl, trivial⟩ fun H5 l5 => ?_
  repeat (first | refine chkN_den ?_ | refine chkV_den ?_)
  replace hgl := hgl.le l5
  replace ha := ha.le l5
  replace hb := hb.le l5
  refine call_retO (r_Valid (ha.r _) (small_fit sa)) rfl ⟨rfl, trivial⟩ fun H6 l6 => pure_den _ (bneq_eq _ _) (br_den (fun hx => ?_) (fun _ => ?_))
  · rw [valid_eq] at hx; simp at hx
  replace hgl := hgl.le l6
  replace ha := ha.le l6
  replace hb := hb.le l6
  repeat (first | refine chkN_den ?_ | refine chkV_den ?_)
  refine call_retO (c_Equal (ha.r _) (hb.r _)) rfl ⟨rfl, trivial⟩ fun H7 l7 => ?_
  repeat (first | refine chkN_den ?_ | refine chkV_den ?_)
  replace hgl := hgl.le l7
  replace ha := ha.le l7
  replace hb := hb.le l7
  refine call_retO (r_Same (ha.r _) (hb.r _)) rfl ⟨rfl, trivial⟩ fun H8 l8 => pure_den _ (bneq_eq _ _) (br_den (fun hx => ?_) (fun _ => ?_))
  · simp at hx
  replace hgl := hgl.le l8
  replace ha := ha.le l8
  replace hb := hb.le l8
  repeat (first | refine chkN_den ?_ | refine chkV_den ?_)
  refine call_retO (c_Equal (hb.r _) (ha.r _)) rfl ⟨rfl, trivial⟩ fun H9 l9 => ?_
  repeat (first | refine chkN_den ?_ | refine chkV_den ?_)
  replace hgl := hgl.le l9
  replace ha := ha.le l9
  replace hb := hb.le l9
  refine call_retO (r_Same (ha.r _) (hb.r _)) rfl ⟨rfl, trivial⟩ fun H10 l10 => pure_den _ (bneq_eq _ _) (br_den (fun hx => ?_) (fun _ => ?_))
  · rw [Bool.beq_comm (a := b)] at hx
    simp at hx
  replace hgl := hgl.le l10
  replace ha := ha.le l10
  repeat (first | refine chkN_den ?_ | refine chkV_den ?_)
  refine call_retO (c_Equal (ha.r _) (hc.r (fun p hp => List.mem_append_left _ hp) H10)) rfl ⟨rfl, trivial⟩ fun H11 l11 => pure_den _ (not_eq' _) (br_den (fun hx => ?_) (fun _ => ?_))
  · simp at hx
  replace hgl := hgl.le l11
  replace ha := ha.le l11
  repeat (first | refine chkN_den ?_ | refine chkV_den ?_)
  refine call_drop (List.Perm.refl _) (c_stain hc) rfl (by trivial) fun H12 O3 l12 => ?_
  replace hgl := hgl.le l12
  replace ha := ha.le l12
  repeat (first | refine chkN_den ?_ | refine chkV_den ?_)
  refine call_retO (r_Same (ha.r _) (hu.r (fun p hp => List.mem_append_right _ (List.mem_append_left _ hp)) H12)) rfl ⟨rfl, trivial⟩ fun H13 l13 => br_den (fun _ => ?_) (fun hx => ?_)
  · exact call_retO (c_known (hgl.le l13) _) rfl ⟨rfl, trivial⟩ fun H14 l14 => ret_drop ⟨rfl, rfl⟩
  · simp at hx
end Go.Proofs.YtjaegdkkiefchaaGreatDoor
