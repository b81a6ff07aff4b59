/- What all laws of this seat need: the program's own facts; arguments are read. -/
import Derived.Test.YtdhobpmnkfmcfaaGreatDoorC21
import Derived.Test.YtdhobpmnkfmcfaaGreatDoorRows
namespace Go.Proofs.YtdhobpmnkfmcfaaGreatDoor
open Go Go.Sx Go.ChangeShapes Go.WideShapes Go.ChangeAt Go.RowKit
set_option maxRecDepth 100000
set_option maxHeartbeats 1000000
theorem own:ownKnob Tryz.prog.godebug=none:=by kernel_rfl
theorem UQ:laidOutB Tryz.prog=true:=by kernel_rfl
theorem sOk:gP Tryz.prog=true:=by kernel_rfl
abbrev xU:Value:=.slice none 0 0
abbrev zB:Value:=.agg #[xU,iV 0,iV 0,iV 0,iV 0,iV 0,xU,xU,xU,xU,.bool false,.bool false,.bool false,iV 0,iV 0,iV 0,iV 0,iV 0,iV 0,iV 0,xU,xU,xU,xU,.bool false,.bool false,.bool false,iV 0,iV 0,xU,xU,xU,xU,iV 0,iV 0,iV 0,iV 0,iV 0]
theorem F3 {Q:Type} {P:Program} {enc:TypeId × Value→Q} {w:World} {base:Nat} {spare:Nat→Bool} {held:Bool} {t0 t1 t2:TypeId} {args:Array Value} {ds:List (DataW Q)} {ps:List MemPlace} (h:DataW.TrodAll enc P w base spare held [t0,t1,t2] args.toList ds ps) :
  ∃ v0 v1 v2 d0 d1 d2 p0 p1 p2,args=#[v0,v1,v2]∧ds=[d0,d1,d2]∧ps=p0++p1++p2∧DataW.Trod enc P w base spare held t0 v0 d0 p0∧DataW.Trod enc P w base spare held t1 v1 d1 p1∧DataW.Trod enc P w base spare held t2 v2 d2 p2:=by
 obtain⟨v,vs,d,ds',p,q,hargs,rfl,rfl,hd,hrest⟩:=trodAll_cons h
 obtain⟨v',vs',d',ds'',p',q',rfl,rfl,rfl,hd',hrest'⟩:=trodAll_cons hrest
 obtain⟨v'',vs'',d'',ds''',p'',q'',rfl,rfl,rfl,hd'',hrest''⟩:=trodAll_cons hrest'
 obtain⟨rfl,rfl,rfl⟩:=trodAll_nil hrest''
 exact⟨v,v',v'',d,d',d'',p,p',p'',by cases args;simp_all,rfl,by simp,hd,hd',hd''⟩
theorem MC {T:Type} {enc:TypeId × Value→T} {P:Program} {w:World} {base:Nat} {sp:Nat→Bool} {held:Bool} {t e:TypeId} {r:Reach} {v:Value} {d:DataW T} {p:List MemPlace} (hu:P.underlying t=some (.slice e)) (hsk:gP P=true) (htl:Nat.blt t P.types.size=true)
  (hv:Value.okWide P w r base t v) (h:DataW.Trod enc P w 0 sp held t v d p):Leaf P (yd w) t v:=by
 obtain⟨a,len,cap,rfl⟩:=okWide_slice hu hv
 obtain⟨fuel,hf⟩:=h
 exact⟨fuel,pW hsk (Nat.le_of_ble_eq_true htl) hf⟩
theorem CW {α:Type} {R:List Value→α→Prop}:∀ {rows:List (List Value)},(∀ r ∈ rows,∃ x,R r x)→∃ l:List α,rows.length=l.length∧∀ (i:Nat) (r:List Value) (x:α),rows[i]?=some r→l[i]?=some x→R r x
 | [],_=>⟨[],rfl,fun i r k h=>by simp at h⟩
 | r::rs,key=>by
  obtain⟨ks,e1,e2⟩:=CW (rows:=rs) fun x hx=>key x (by simp[hx])
  obtain⟨k,e3⟩:=key r (by simp)
  refine⟨k::ks,by simp[e1],fun i r' k' f1 f2=>?_⟩
  cases i with
  | zero=>simp at f1 f2;subst f1;subst f2;exact e3
  | succ i=>exact e2 i r' k' (by simpa using f1) (by simpa using f2)
theorem N2:(jk PP 8 91).bind (fun ls=>ls[1]?)=some 62:=by kernel_rfl
theorem zF:((jk PP 8 75).bind (fun ls=>ls[1]?)=some 69∧(jk PP 8 75).bind (fun ls=>ls[11]?)=some 62)∧(jk PP 8 75).bind (fun ls=>ls[12]?)=some 73:=⟨⟨by kernel_rfl,by kernel_rfl⟩,by kernel_rfl⟩
end Go.Proofs.YtdhobpmnkfmcfaaGreatDoor
