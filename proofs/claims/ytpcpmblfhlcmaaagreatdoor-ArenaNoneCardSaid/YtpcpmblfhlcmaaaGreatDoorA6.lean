/- The law ArenaNone is true: it is run for any call; 'known' is met by what was reckoned. -/
import Derived.Test.YtpcpmblfhlcmaaaGreatDoorB2
namespace Go.Proofs.YtpcpmblfhlcmaaaGreatDoor
open Go Go.Sx
set_option maxRecDepth 100000
set_option maxHeartbeats 1000000
def sumKn : SumF := fun f args _ _ =>
 if Nat.beq f aX = true then
  match args with
  | [] => some ([], .s (.at (.k (.bool true))))
  | _ => none
 else none
theorem yV {ok : FuncId → Bool} {H : Heap} (hg : GlobOk dp H) : SumOk PP ok H sumKn := by
 intro f args mem h cs sv _ hs hck
 unfold sumKn at hs
 split at hs
 ·rename_i hf
  have hf := Nat.eq_of_beq_eq_true hf
  split at hs
  ·simp only [Option.some.injEq, Prod.mk.injEq] at hs
   obtain ⟨rfl, rfl⟩ := hs
   refine ⟨jZ _, fun F w next _ hm => ?_⟩
   obtain ⟨L, O, hB, hok, hM, hmod, hfr⟩ := hm
   have hret := AN hg (L ++ O)
   rw [hf]
   refine (hret w F (by simpa using hmod)).mono ?_
   rintro e' w' ⟨v', H', O', he, ⟨q2, q3⟩, hle, hm'⟩
   rw [q3] at hm'
   exact ⟨v', he, q2, L, O, hB, hok, hM, by simpa using hm'.less hle, hfr⟩
  ·cases hs
 ·cases hs
def E5 : SumG := sumKn.toG.or aD
theorem BC {H : Heap} (hg : GlobOk dp H) : SumOkG PP cfgN.ok H E5 := (SumOk.toG (yV hg)).or (ah hg)
theorem Ab (x y : Int) (f : Nat → Nat) : ((G.exN 12 (gV cfgN E5 60 300 aN [.at (.k (.int .i64 x)), .at (.k (.int .i64 y))] [] 0 ⟨[], []⟩) ((List.range 200).map f)).x, (G.exN 12 (gV cfgN E5 60 300 aN [.at (.k (.int .i64 x)), .at (.k (.int .i64 y))] [] 0 ⟨[], []⟩) ((List.range 200).map f)).fine isT) =
  ((G.exN 12 (gV cfgN E5 60 300 aN [.at (.k (.int .i64 x)), .at (.k (.int .i64 y))] [] 0 ⟨[], []⟩) ((List.range 200).map f)).y, true) := by kernel_rfl
theorem tI {H : Heap} (hg : GlobOk dp H) (x y : Int) :
  Triple PP aN [.int .i64 x, .int .i64 y] H [] fun v _ O' => v = .bool true ∧ O' = [] := by
 have hrun : (gV cfgN E5 60 300 aN [.at (.k (.int .i64 x)), .at (.k (.int .i64 y))] [] 0 ⟨[], []⟩).den fun r => isT r = true := by
  refine G.reckon (p := isT) (fun _ h => h) 12 200 _ fun k => ?_
  have := Ab x y k
  rw [Prod.mk.injEq] at this
  exact this
 refine (jq (c := cfgN) qR (fun _ h => eI fP h) hg (BC hg) (args := [.at (.k (.int .i64 x)), .at (.k (.int .i64 y))]) (by kernel_rfl) (by
  intro s hs
  simp only [List.mem_cons, List.not_mem_nil, or_false] at hs
  rcases hs with rfl | rfl <;> exact jZ _) hrun).mono ?_
 rintro v H' O' _ ⟨_, h2, sv, y, hrel, hk⟩
 refine ⟨?_, h2⟩
 unfold isT at hk
 simp only at hk
 split at hk
 ·subst hk; exact hrel
 ·cases hk
end Go.Proofs.YtpcpmblfhlcmaaaGreatDoor
