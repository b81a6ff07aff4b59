/- What all laws of this seat need: the program's own facts; arguments are read. -/
import Derived.Test.YtdhobpmnkfmcfaaGreatDoorC21
import Derived.Test.YtdhobpmnkfmcfaaGreatDoorRows
namespace Go.Proofs.YtdhobpmnkfmcfaaGreatDoor
open Go Go.Sx Go.ChangeShapes Go.WideShapes Go.ChangeAt Go.RowKit
set_option maxRecDepth 100000
set_option maxHeartbeats 1000000
theorem own:ownKnob Tryz.prog.godebug=none:=by kernel_rfl
theorem QS:laidOutB Tryz.prog=true:=by kernel_rfl
theorem sOk:il Tryz.prog=true:=by kernel_rfl
abbrev xj:Value:=.slice none 0 0
abbrev zB:Value:=.agg #[xj,iV 0,iV 0,iV 0,iV 0,iV 0,xj,xj,xj,xj,.bool false,.bool false,.bool false,iV 0,iV 0,iV 0,iV 0,iV 0,iV 0,iV 0,xj,xj,xj,xj,.bool false,.bool false,.bool false,iV 0,iV 0,xj,xj,xj,xj,iV 0,iV 0,iV 0,iV 0,iV 0]
theorem PI {n:Int} (h:(Lit.int .i64 n).wf=true):-9223372036854775808≤n∧n≤9223372036854775807:=by
 simp only [Lit.wf,Bool.and_eq_true,decide_eq_true_eq] at h
 exact h
theorem Jc {Q:Type} {P:Program} {enc:TypeId × Value→Q} {w:World} {base:Nat} {spare:Nat→Bool} {held:Bool} {t0 t1 t2 t3:TypeId} {args:Array Value} {ds:List (DataW Q)} {ps:List MemPlace} (h:DataW.TrodAll enc P w base spare held [t0,t1,t2,t3] args.toList ds ps) :
  ∃ v0 v1 v2 v3 d0 d1 d2 d3 p0 p1 p2 p3,args=#[v0,v1,v2,v3]∧ds=[d0,d1,d2,d3]∧ps=p0++p1++p2++p3∧DataW.Trod enc P w base spare held t0 v0 d0 p0∧DataW.Trod enc P w base spare held t1 v1 d1 p1∧DataW.Trod enc P w base spare held t2 v2 d2 p2∧DataW.Trod enc P w base spare held t3 v3 d3 p3:=by
 obtain ⟨v,vs,d,ds',p,q,hargs,rfl,rfl,hd,hrest⟩:=trodAll_cons h
 obtain ⟨v',vs',d',ds'',p',q',rfl,rfl,rfl,hd',hrest'⟩:=trodAll_cons hrest
 obtain ⟨v'',vs'',d'',ds''',p'',q'',rfl,rfl,rfl,hd'',hrest''⟩:=trodAll_cons hrest'
 obtain ⟨v3,vs3,d3,ds3,p3,q3,rfl,rfl,rfl,hd3,hrest3⟩:=trodAll_cons hrest''
 obtain ⟨rfl,rfl,rfl⟩:=trodAll_nil hrest3
 exact ⟨v,v',v'',v3,d,d',d'',d3,p,p',p'',p3,by cases args;simp_all,rfl,by simp,hd,hd',hd'',hd3⟩
theorem Ap {T:Type} {enc:TypeId × Value→T} {P:Program} {w:World} {base:Nat} {sp:Nat→Bool} {held:Bool} {t e:TypeId} {r:Reach} {v:Value} {d:DataW T} {p:List MemPlace} (hu:P.underlying t=some (.slice e)) (hsk:il P=true) (htl:Nat.blt t P.types.size=true)
  (hv:Value.okWide P w r base t v) (h:DataW.Trod enc P w 0 sp held t v d p):Leaf P (zk w) t v:=by
 obtain ⟨a,len,cap,rfl⟩:=okWide_slice hu hv
 obtain ⟨fuel,hf⟩:=h
 exact ⟨fuel,qU hsk (Nat.le_of_ble_eq_true htl) hf⟩
theorem EK {α:Type} {R:List Value→α→Prop}:∀ {rows:List (List Value)},(∀ r ∈ rows,∃ x,R r x)→∃ l:List α,rows.length=l.length∧∀ (i:Nat) (r:List Value) (x:α),rows[i]?=some r→l[i]?=some x→R r x
 | [],_=>⟨[],rfl,fun i r k h=>by simp at h⟩
 | r::rs,key=>by
  obtain ⟨ks,e1,e2⟩:=EK (rows:=rs) fun x hx=>key x (by simp [hx])
  obtain ⟨k,e3⟩:=key r (by simp)
  refine ⟨k::ks,by simp [e1],fun i r' k' f1 f2=>?_⟩
  cases i with
  | zero=>simp at f1 f2;subst f1;subst f2;exact e3
  | succ i=>exact e2 i r' k' (by simpa using f1) (by simpa using f2)
theorem PN:(jJ PP 8 91).bind (fun ls=>ls[1]?)=some 62:=by kernel_rfl
theorem AX:((jJ PP 8 75).bind (fun ls=>ls[1]?)=some 69∧(jJ PP 8 75).bind (fun ls=>ls[11]?)=some 62)∧(jJ PP 8 75).bind (fun ls=>ls[12]?)=some 73:=⟨⟨by kernel_rfl,by kernel_rfl⟩,by kernel_rfl⟩
theorem S7 {H:Heap} {cs:List Value} (hl:cs.length=2) (a:∀ i l,([3,3]:List TypeId)[i]?=some l→Leaf PP H l (g cs i)):∃ t:Tg,cs=t.row:=by
 obtain ⟨x0,e0⟩:=ba (a 0 3 rfl)
 obtain ⟨x1,e1⟩:=ba (a 1 3 rfl)
 match cs,hl with
 | [_,_],_ =>
  refine ⟨⟨x0,x1⟩,?_⟩
  simp only [g,List.getD_cons_zero,List.getD_cons_succ] at e0 e1
  rw [e0,e1];rfl
end Go.Proofs.YtdhobpmnkfmcfaaGreatDoor
