/- What all laws of this seat need: the program's own facts; arguments are read. -/
import Derived.Test.YtdhobpmnkfmcfaaGreatDoorC21
import Derived.Test.YtdhobpmnkfmcfaaGreatDoorRows
namespace Go.Proofs.YtdhobpmnkfmcfaaGreatDoor
open Go Go.Sx Go.ChangeShapes Go.WideShapes Go.ChangeAt Go.RowKit
set_option maxRecDepth 100000
set_option maxHeartbeats 1000000
theorem own:ownKnob Tryz.prog.godebug=none:=by kernel_rfl
theorem Us:laidOutB Tryz.prog=true:=by kernel_rfl
theorem sOk:gI Tryz.prog=true:=by kernel_rfl
abbrev xu:Value:=.slice none 0 0
abbrev zB:Value:=.agg #[xu,iV 0,iV 0,iV 0,iV 0,iV 0,xu,xu,xu,xu,.bool false,.bool false,.bool false,iV 0,iV 0,iV 0,iV 0,iV 0,iV 0,iV 0,xu,xu,xu,xu,.bool false,.bool false,.bool false,iV 0,iV 0,xu,xu,xu,xu,iV 0,iV 0,iV 0,iV 0,iV 0]
theorem NU {n:Int} (h:(Lit.int .i64 n).wf=true):-9223372036854775808≤n∧n≤9223372036854775807:=by
 simp only [Lit.wf,Bool.and_eq_true,decide_eq_true_eq] at h
 exact h
theorem LV {T:Type} {enc:TypeId × Value→T} {P:Program} {w:World} {base:Nat} {sp:Nat→Bool} {held:Bool} {t e:TypeId} {r:Reach} {v:Value} {d:DataW T} {p:List MemPlace} (hu:P.underlying t=some (.slice e)) (hsk:gI P=true) (htl:Nat.blt t P.types.size=true)
  (hv:Value.okWide P w r base t v) (h:DataW.Trod enc P w 0 sp held t v d p):Leaf P (xM w) t v:=by
 obtain ⟨a,len,cap,rfl⟩:=okWide_slice hu hv
 obtain ⟨fuel,hf⟩:=h
 exact ⟨fuel,pm hsk (Nat.le_of_ble_eq_true htl) hf⟩
theorem CV {α:Type} {R:List Value→α→Prop}:∀ {rows:List (List Value)},(∀ r ∈ rows,∃ x,R r x)→∃ l:List α,rows.length=l.length∧∀ (i:Nat) (r:List Value) (x:α),rows[i]?=some r→l[i]?=some x→R r x
 | [],_=>⟨[],rfl,fun i r k h=>by simp at h⟩
 | r::rs,key=>by
  obtain ⟨ks,e1,e2⟩:=CV (rows:=rs) fun x hx=>key x (by simp [hx])
  obtain ⟨k,e3⟩:=key r (by simp)
  refine ⟨k::ks,by simp [e1],fun i r' k' f1 f2=>?_⟩
  cases i with
  | zero=>simp at f1 f2;subst f1;subst f2;exact e3
  | succ i=>exact e2 i r' k' (by simpa using f1) (by simpa using f2)
theorem NW:(jG PP 8 91).bind (fun ls=>ls[1]?)=some 62:=by kernel_rfl
theorem zb:((jG PP 8 75).bind (fun ls=>ls[1]?)=some 69∧(jG PP 8 75).bind (fun ls=>ls[11]?)=some 62)∧(jG PP 8 75).bind (fun ls=>ls[12]?)=some 73:=⟨⟨by kernel_rfl,by kernel_rfl⟩,by kernel_rfl⟩
theorem Q3 {H:Heap} {cs:List Value} (hl:cs.length=2) (a:∀ i l,([3,3]:List TypeId)[i]?=some l→Leaf PP H l (g cs i)):∃ t:Tg,cs=t.row:=by
 obtain ⟨x0,e0⟩:=bb (a 0 3 rfl)
 obtain ⟨x1,e1⟩:=bb (a 1 3 rfl)
 match cs,hl with
 | [_,_],_ =>
  refine ⟨⟨x0,x1⟩,?_⟩
  simp only [g,List.getD_cons_zero,List.getD_cons_succ] at e0 e1
  rw [e0,e1];rfl
end Go.Proofs.YtdhobpmnkfmcfaaGreatDoor
