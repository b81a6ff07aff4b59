/- The law RulesNil is true: it is run for any call; 'known' is met by what was reckoned. -/
import Derived.Test.YtocfkcilcfojiaaGreatDoorH3
namespace Go.Proofs.YtocfkcilcfojiaaGreatDoor
open Go Go.Sx
set_option maxRecDepth 100000
set_option maxHeartbeats 1000000
def sumKn : SumF := fun f args _ _ =>
 if Nat.beq f aM = true then
  match args with
  | [] => some ([], .s (.at (.k (.bool true))))
  | _ => none
 else none
theorem ve {ok : FuncId → Bool} {H : Heap} (hg : GlobOk kH H) : SumOk PP ok H sumKn := by
 intro f args mem h cs sv _ hs hck
 unfold sumKn at hs
 split at hs
 ·rename_i hf
  have hf := Nat.eq_of_beq_eq_true hf
  split at hs
  ·simp only [Option.some.injEq, Prod.mk.injEq] at hs
   obtain ⟨rfl, rfl⟩ := hs
   refine ⟨kR _, fun F w next _ hm => ?_⟩
   obtain ⟨L, O, hB, hok, hM, hmod, hfr⟩ := hm
   have hret := wh hg (L ++ O)
   rw [hf]
   refine (hret w F (by simpa using hmod)).mono ?_
   rintro e' w' ⟨v', H', O', he, ⟨q2, q3⟩, hle, hm'⟩
   rw [q3] at hm'
   exact ⟨v', he, q2, L, O, hB, hok, hM, by simpa using hm'.less hle, hfr⟩
  ·cases hs
 ·cases hs
def xR : SumG := sumKn.toG.or mR
theorem wL {H : Heap} (hg : GlobOk kH H) : SumOkG PP cfgN.ok H xR := (SumOk.toG (ve hg)).or (qG hg)
def xN (w a b c n r : Int) (b0 b1 : Bool) : List At := [.k (.int .i64 w), .k (.int .i64 a), .k (.int .i64 b), .k (.int .i64 c), .k (.int .u8 n), .k (.bool b0), .k (.bool b1), .k (.int .i64 r)]
theorem xj (w a b c n r : Int) (b0 b1 : Bool) (f : Nat → Nat) : ((G.exN 12 (fL cfgN xR 60 300 aK [.agg (xN w a b c n r b0 b1)] [] 0 ⟨[], []⟩) ((List.range 200).map f)).x, (G.exN 12 (fL cfgN xR 60 300 aK [.agg (xN w a b c n r b0 b1)] [] 0 ⟨[], []⟩) ((List.range 200).map f)).fine isT) =
  ((G.exN 12 (fL cfgN xR 60 300 aK [.agg (xN w a b c n r b0 b1)] [] 0 ⟨[], []⟩) ((List.range 200).map f)).y, true) := by kernel_rfl
theorem sN {H : Heap} (hg : GlobOk kH H) (w a b c n r : Int) (b0 b1 : Bool) :
  Triple PP aK [.agg #[.int .i64 w, .int .i64 a, .int .i64 b, .int .i64 c, .int .u8 n, .bool b0, .bool b1, .int .i64 r]] H [] fun v _ O' => v = .bool true ∧ O' = [] := by
 have hrun : (fL cfgN xR 60 300 aK [.agg (xN w a b c n r b0 b1)] [] 0 ⟨[], []⟩).den fun r => isT r = true := by
  refine G.reckon (p := isT) (fun _ h => h) 12 200 _ fun k => ?_
  have := xj w a b c n r b0 b1 k
  rw [Prod.mk.injEq] at this
  exact this
 refine (ik (c := cfgN) ow (fun _ h => im iY h) hg (wL hg) (args := [.agg (xN w a b c n r b0 b1)]) (by kernel_rfl) (by
  intro s hs
  simp only [List.mem_singleton] at hs
  subst hs
  intro x hx
  simp only [S1.cells, xN, List.mem_cons, List.not_mem_nil, or_false] at hx
  rcases hx with rfl | rfl | rfl | rfl | rfl | rfl | rfl | rfl <;> trivial) hrun).mono ?_
 rintro v H' O' _ ⟨_, h2, sv, y, hrel, hk⟩
 refine ⟨?_, h2⟩
 unfold isT at hk
 simp only at hk
 split at hk
 ·subst hk; exact hrel
 ·cases hk
end Go.Proofs.YtocfkcilcfojiaaGreatDoor
