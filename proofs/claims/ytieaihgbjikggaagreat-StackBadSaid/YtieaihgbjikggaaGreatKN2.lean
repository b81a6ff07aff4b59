/- What a call of 'known' hands back. -/
import Derived.Test.YtieaihgbjikggaaGreatKN
import Derived.Test.YtieaihgbjikggaaGreatC18
import Derived.Test.YtieaihgbjikggaaGreatM17
namespace Go.Proofs.YtieaihgbjikggaaGreat
open Go Go.Sx
set_option maxRecDepth 100000
set_option maxHeartbeats 1000000
end Go.Proofs.YtieaihgbjikggaaGreat
namespace Go.Proofs.YtieaihgbjikggaaGreat
open Go Go.Sx
set_option maxRecDepth 100000
set_option maxHeartbeats 1000000
theorem small_B {b : Bd} (h : smallBd b = true) : bdB b := by
 simp only [smallBd, stSmall, itsSmall, Bool.and_eq_true, Bool.not_eq_true', decide_eq_true_eq, decide_eq_false_iff_not, List.all_eq_true] at h
 obtain ⟨⟨a1, a2, a3, a4⟩, ⟨a5, a6, a7, a8⟩, ⟨a9, a10⟩, ⟨a11, a12⟩, ⟨a13, a14⟩, a15⟩ := h
 refine ⟨by omega, ⟨by omega, by omega, by omega, by omega⟩, ⟨by omega, by omega, by omega, by omega⟩, ⟨by omega, fun x hx => ?_⟩, ⟨by omega, fun x hx => ?_⟩, by omega, by omega⟩
 ·have := a10 x hx; omega
 ·have := a12 x hx; omega
/-- A call that is handed what is owned, and keeps it. -/
theorem call_drop {P : Program} {f : FuncId} {args : List Value} {H : Heap} {O O1 O2 : Own} {r : Value} {shp : Shp} {K : List Value → List (List Value) → Heap → Own → Prop} {vs : List Value}
  (hO : O.Perm (O1 ++ O2)) (h : Triple P f args H O1 fun v _ _ => v = r) (ho : shp.open r = some vs) (h1 : Ones vs) (hk : ∀ H' O3, Heap.le H H' → K vs [] H' (O3 ++ O2)) :
  CallD (fun H1 O1 R => Triple P f args H1 O1 R) false [] [] shp K H O := by
 intro _
 refine ⟨H, O1, O2, _, Ghost.perm hO, h, fun v H' O' hr hle => ?_⟩
 subst hr
 exact ⟨vs, [], O', ho, h1, trivial, rfl, hk H' O' hle⟩
end Go.Proofs.YtieaihgbjikggaaGreat
namespace Go.Proofs.YtieaihgbjikggaaGreat
open Go Go.Sx
set_option maxRecDepth 100000
set_option maxHeartbeats 1000000
theorem bdS_zero (H : Heap) : BdS H nilV zBd :=
 ⟨Sl.nil H 12, ⟨Sl.nil H 1, Sl.nil H 1, Sl.nil H 1, Sl.nil H 1⟩, ⟨Sl.nil H 1, Sl.nil H 1, Sl.nil H 1, Sl.nil H 1⟩, ⟨[], Sl.nil H 5, rfl, fun i r x h => by simp at h⟩, ⟨[], Sl.nil H 5, rfl, fun i r x h => by simp at h⟩, Sl.nil H 1, Sl.nil H 2⟩
theorem c_gives {H : Heap} {wx vw vf vs : BV12} {x want src was : Bd} {O1 : Own} (hx : OwnB tys wx x O1) (hw : BdS H vw want) (hf : BdS H vf src) (hs : BdS H vs was) (e no : Int) :
  Triple PP F_zeitnotlaw18_gives [.agg (boardC wx x).toArray, iV e, .agg (boardC vw want).toArray, iV no, .agg (boardC vf src).toArray, .agg (boardC vs was).toArray] H O1 fun r _ _ => r = .bool (((x == want) && (e == no)) && (src == was)) := by
 refine run_zeitnotlaw18_gives (vs := boardC wx x ++ ([iV e] ++ (boardC vw want ++ ([iV no] ++ (boardC vf src ++ boardC vs was))))) (by kernel_rfl)
  (ones_app (ownB_ones H hx) (ones_app ⟨rfl, trivial⟩ (ones_app (boardC_ones (hw.r [])) (ones_app ⟨rfl, trivial⟩ (ones_app (boardC_ones (hf.r [])) (boardC_ones (hs.r []))))))) ?_
 simp only [T_zeitnotlaw18_gives]
 refine newbox_den fun r0 => newbox_den fun r1 => newbox_den fun r2 => newbox_den fun r3 => ?_
 repeat (first | refine chkN_den ?_ | refine chkV_den ?_)
 refine call_retO (r_Same (hx.r (fun p hp => hp) H) (hw.r O1)) rfl ⟨rfl, trivial⟩ fun H1 l1 => ?_
 repeat (first | refine chkN_den ?_ | refine chkV_den ?_ | refine newbox_den fun _ => ?_ | refine pure_den _ (lss_eq _ _) ?_ | refine pure_den _ (gtr_eq _ _) ?_ | refine pure_den _ (leq_eq _ _) ?_ | refine pure_den _ (geq_eq _ _) ?_ | refine pure_den _ (eql_eq _ _) ?_ | refine pure_den _ (neq_eq _ _) ?_ | refine pure_den _ (pick_and _ _) ?_ | refine pure_den _ (pick_or _ _) ?_ | refine pure_den _ (not_eq' _) ?_ | refine pure_den _ (beql_eq _ _) ?_ | refine pure_den _ (bneq_eq _ _) ?_)
 refine br_den (fun hb => ?_) (fun hb => ?_)
 ·repeat (first | refine chkN_den ?_ | refine chkV_den ?_)
  refine call_retO (r_Same ((hf.le l1).r O1) ((hs.le l1).r O1)) rfl ⟨rfl, trivial⟩ fun H2 l2 => ?_
  repeat (first | refine chkN_den ?_ | refine chkV_den ?_)
  refine call_drop (O2 := []) (by simp) (c_stain hx) rfl trivial fun H3 O3 l3 => br_den (fun hc => ?_) (fun hc => ?_)
  ·have l := Heap.le_trans l1 (Heap.le_trans l2 l3)
   repeat (first | refine chkN_den ?_ | refine chkV_den ?_)
   refine call_retO (r_Same ((hf.le l).r _) ((hs.le l).r _)) rfl ⟨rfl, trivial⟩ fun H4 l4 => ret_denO ?_
   rw [show ((x == want) && (e == no)) = true from hb, Bool.true_and]; rfl
  ·refine ret_denO ?_
   rw [show (src == was) = false from hc, Bool.and_false]
 ·repeat (first | refine chkN_den ?_ | refine chkV_den ?_)
  refine call_drop (O2 := []) (by simp) (c_stain hx) rfl trivial fun H3 O3 l3 => ret_denO ?_
  rw [show ((x == want) && (e == no)) = false from hb, Bool.false_and]
end Go.Proofs.YtieaihgbjikggaaGreat
namespace Go.Proofs.YtieaihgbjikggaaGreat
open Go Go.Sx
set_option maxRecDepth 100000
set_option maxHeartbeats 1000000
end Go.Proofs.YtieaihgbjikggaaGreat
namespace Go.Proofs.YtieaihgbjikggaaGreat
open Go Go.Sx
set_option maxRecDepth 100000
set_option maxHeartbeats 1000000
end Go.Proofs.YtieaihgbjikggaaGreat
namespace Go.Proofs.YtieaihgbjikggaaGreat
open Go Go.Sx
set_option maxRecDepth 100000
set_option maxHeartbeats 1000000
end Go.Proofs.YtieaihgbjikggaaGreat
namespace Go.Proofs.YtieaihgbjikggaaGreat
open Go Go.Sx
set_option maxRecDepth 100000
set_option maxHeartbeats 1000000
end Go.Proofs.YtieaihgbjikggaaGreat
namespace Go.Proofs.YtieaihgbjikggaaGreat
open Go Go.Sx
set_option maxRecDepth 100000
set_option maxHeartbeats 1000000
end Go.Proofs.YtieaihgbjikggaaGreat
namespace Go.Proofs.YtieaihgbjikggaaGreat
open Go Go.Sx
set_option maxRecDepth 100000
set_option maxHeartbeats 1000000
end Go.Proofs.YtieaihgbjikggaaGreat
namespace Go.Proofs.YtieaihgbjikggaaGreat
open Go Go.Sx
set_option maxRecDepth 100000
set_option maxHeartbeats 1000000
end Go.Proofs.YtieaihgbjikggaaGreat
namespace Go.Proofs.YtieaihgbjikggaaGreat
open Go Go.Sx
set_option maxRecDepth 100000
set_option maxHeartbeats 1000000
end Go.Proofs.YtieaihgbjikggaaGreat
