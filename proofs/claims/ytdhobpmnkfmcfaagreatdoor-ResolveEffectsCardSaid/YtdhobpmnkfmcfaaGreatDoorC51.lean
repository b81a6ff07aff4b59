/- Legal targets; light cards; lists that are equal. -/
import Derived.Test.YtdhobpmnkfmcfaaGreatDoorC48
import Derived.Test.YtdhobpmnkfmcfaaGreatDoorKT
import Derived.Test.YtdhobpmnkfmcfaaGreatDoorC32
import Derived.Test.YtdhobpmnkfmcfaaGreatDoorM17
import Derived.Test.YtdhobpmnkfmcfaaGreatDoorRW
import Derived.Test.YtdhobpmnkfmcfaaGreatDoorC1
import Derived.Test.YtdhobpmnkfmcfaaGreatDoorC21
import Derived.Test.YtdhobpmnkfmcfaaGreatDoorKN
namespace Go.Proofs.YtdhobpmnkfmcfaaGreatDoor
open Go Go.Sx
set_option maxRecDepth 100000
set_option maxHeartbeats 1000000
theorem Wp (o p:Tg):N6 PP (.eqv .eql aD false) [.agg o.row.toArray,.agg p.row.toArray]=some (.bool (o == p)):=by
 have e:N6 PP (.eqv .eql aD false) [.agg o.row.toArray,.agg p.row.toArray]=(IN [o.id == p.id,o.player == p.player]).map fun b=>.bool b:=by kernel_rfl
 rw [e,rH]
 simp only [Option.map_some,Option.some.injEq,Value.bool.injEq]
 cases o;cases p
 rw [Bool.eq_iff_iff]
 simp
theorem Jh {l:List Tg} {i:Nat} (h:i < l.length):(cO l)[i]?=some l[i].row:=by simp [cO,h]
theorem qj (t:Tg):Ones t.row:=⟨rfl,rfl,trivial⟩
theorem TY {H:Heap} {O:Own} {v:Value} {l:List Tg} (h:Sl H 2 v (cO l)) (t:Tg):RetO PP ej [v,.agg t.row.toArray] H O (iV (gx (fun y=>t == y) l 0)):=by
 refine iP (vs:=v::t.row) (by kernel_rfl) ⟨h.one,qj t⟩ ?_
 simp only [cF]
 have hlen:ak .len [v]=some (iV l.length):=by have:=h.len;rwa [bF] at this
 have hlB:=h.lenB
 rw [bF] at hlB
 refine af fun r0=>?_
 refine ab _ hlen ?_
 refine aT l.length (fun i H' O'=>O'=O∧Heap.le H H'∧gx (fun y=>t == y) l 0=gx (fun y=>t == y) (l.drop i) i) ⟨rfl,Heap.le_refl H,by simp⟩ ?_
 rintro i H' O' hi - ⟨rfl,hle,hor⟩
 refine ab _ (aJ _ _) (aj (fun hb=>?_) (fun hb=>?_))
 ·have hlt:i < l.length:=by simpa using hb
  obtain ⟨a,h1,h2,h3,h4⟩:=(h.le hle).idx (k:=.i64) (Jh hlt)
  refine aa ?_
  refine ab _ h1 (cT h2 h3 h4 ?_)
  refine sj (Wp t l[i]) (aj (fun hc=>?_) (fun hc=>?_))
  ·refine ah ⟨?_,rfl⟩
   rw [hor,List.drop_eq_getElem_cons hlt,gx,if_pos hc];rfl
  ·refine ab _ (aE (by omega)) (aP (by simp [Eqs,E]) hlt ⟨rfl,hle,?_⟩)
   rw [hor,List.drop_eq_getElem_cons hlt,gx,if_neg (by rw [hc];simp)];rfl
 ·have hge:l.length≤i:=by simpa using hb
  refine ah ⟨?_,rfl⟩
  rw [hor,List.drop_of_length_le hge];rfl
theorem LQ {H:Heap} {O:Own} {v:Value} {l:List Tg} (h:Sl H 2 v (cO l)) (t:Tg):RetO PP dC [v,.agg t.row.toArray] H O (.bool (l.any fun y=>t == y)):=by
 refine gq (vs:=v::t.row) (by kernel_rfl) ⟨h.one,qj t⟩ ?_
 simp only [bX]
 refine af fun r0=>?_
 refine aa ?_
 refine ai (TY h t) rfl ⟨rfl,trivial⟩ fun H1 _=>?_
 refine ab _ (di _ _) (ah ⟨?_,rfl⟩)
 rw [← AQ _ l 0 (by omega)]
def vJ (cs:List Cd) (b:Bd) (p k:Int) (t:Tg):Bool:=(zQ cs b p k).any fun y=>t == y
theorem V4 {H:Heap} {cv:Value} {cs:List Cd} (hk:CardsS H cv cs) (hli:eD cs=true) {v:cP} {b:Bd} (h:BdS H v b) (hst:b.stack.length≤1000000) (p k:Int) (t:Tg) :
  RetO PP xT [cv,.agg (ap v b).toArray,iV p,iV k,.agg t.row.toArray] H [] (.bool (vJ cs b p k t)):=by
 refine CL (vs:=cv::(ap v b++(iV p::iV k::t.row))) (by kernel_rfl) ⟨hk.one,az (ao (h.r [])) ⟨rfl,rfl,qj t⟩⟩ ?_
 simp only [qF]
 refine af fun r0=>af fun r1=>?_
 refine aa (aa ?_)
 refine ax (V2 hk hli h hst p k) ?_
 rintro x H1 _ ⟨hx,rfl⟩ l1
 refine ⟨[x],rfl,⟨hx.one,trivial⟩,?_⟩
 refine ai (LQ hx t) rfl ⟨rfl,trivial⟩ fun H2 _=>?_
 exact ah ⟨rfl,rfl⟩
theorem Vj {H:Heap} {cv:Value} {cs:List Cd} (hk:CardsS H cv cs) (hli:eD cs=true) {v:cP} {b:Bd} (h:BdS H v b) (hB:bdB b) (hfit:IW b) (hst:b.stack.length≤1000000) (p k:Int) (t:Tg) :
  RetO PP nr [cv,.agg (ap v b).toArray,iV p,iV k,.agg t.row.toArray] H [] (.bool (vJ cs b p k t)):=by
 refine uh (vs:=cv::(ap v b++(iV p::iV k::t.row))) (by kernel_rfl) ⟨hk.one,az (ao (h.r [])) ⟨rfl,rfl,qj t⟩⟩ ?_
 simp only [jl]
 refine af fun r0=>af fun r1=>?_
 refine aa ?_
 refine ax (Qr hk hli h hB hfit hst p k) ?_
 rintro x H1 _ ⟨hx,rfl⟩ l1
 refine ⟨[x],rfl,⟨hx.one,trivial⟩,?_⟩
 rw [vJ]
 generalize zQ cs b p k=l at hx
 have hlen:ak .len [x]=some (iV l.length):=by have:=hx.len;rwa [bF] at this
 have hlB:=hx.lenB
 rw [bF] at hlB
 refine aT l.length (fun i H' O'=>O'=[]∧Heap.le H1 H'∧(l.any fun y=>t == y)=((l.drop i).any fun y=>t == y)) ⟨rfl,Heap.le_refl _,by simp⟩ ?_
 rintro i H' O' hi - ⟨rfl,hle,hor⟩
 refine ab _ hlen ?_
 refine ab _ (aJ _ _) (aj (fun hb=>?_) (fun hb=>?_))
 ·have hlt:i < l.length:=by simpa using hb
  obtain ⟨a,h1,h2,h3,h4⟩:=(hx.le hle).idx (k:=.i64) (Jh hlt)
  refine ab _ h1 (cT h2 h3 h4 ?_)
  refine aa ?_
  have hcm:(t == l[i])=(l[i] == t):=Bool.eq_iff_iff.2 (by rw [beq_iff_eq,beq_iff_eq];exact eq_comm)
  refine sj (Wp l[i] t) (aj (fun hc=>?_) (fun hc=>?_))
  ·refine ah ⟨?_,rfl⟩
   rw [hor,List.drop_eq_getElem_cons hlt,List.any_cons,hcm,hc];rfl
  ·refine ab _ (aE (by omega)) (aP (by simp [Eqs,E]) hlt ⟨rfl,hle,?_⟩)
   rw [hor,List.drop_eq_getElem_cons hlt,List.any_cons,hcm,hc];rfl
 ·have hge:l.length≤i:=by simpa using hb
  refine ah ⟨?_,rfl⟩
  rw [hor,List.drop_of_length_le hge];rfl
end Go.Proofs.YtdhobpmnkfmcfaaGreatDoor
namespace Go.Proofs.YtdhobpmnkfmcfaaGreatDoor
open Go Go.Sx
set_option maxRecDepth 100000
set_option maxHeartbeats 1000000
theorem TO {H:Heap} (O:Own) {v:Value} {cs:List Cd} (h:CardsS H v cs) {i:Nat} (hi:i < cs.length) :
  ∃ a r,ak (.idx 14) [v,iV i]=some (.pointer (some a))∧CdR H r cs[i]∧Reads H O (aU (.pointer (some a)) 11) 1 [g r 11]∧Reads H O (aU (.pointer (some a)) 12) 1 [g r 12]:=by
 obtain ⟨rows,h1,h2,h3⟩:=h
 have hlt:i < rows.length:=by omega
 obtain ⟨a,k1,k2,k3,k4,k5⟩:=(h1.rsl O).idx .i64 i rows[i] (by simp [hlt])
 refine ⟨a,rows[i],k1,h3 i _ _ (List.getElem?_eq_getElem hlt) (List.getElem?_eq_getElem hi),?_,?_⟩
 ·have e:((rows[i]).drop 11).take 1=[g rows[i] 11]:=by
   rw [g,List.getD_eq_getElem?_getD,List.getElem?_eq_getElem (by omega),List.drop_eq_getElem_cons (by omega)];rfl
  rw [← e];exact k3 11 1 (by omega)
 ·have e:((rows[i]).drop 12).take 1=[g rows[i] 12]:=by
   rw [g,List.getD_eq_getElem?_getD,List.getElem?_eq_getElem (by omega),List.drop_eq_getElem_cons (by omega)];rfl
  rw [← e];exact k3 12 1 (by omega)
theorem SI {H:Heap} (O:Own) {v:Value} {tr:List Nat} (h:TrigsS H v tr) {i:Nat} (hi:i < tr.length) :
  ∃ a r,ak (.idx 2) [v,iV i]=some (.pointer (some a))∧TrigR H r tr[i]∧Reads H O (aU (.pointer (some a)) 1) 1 [g r 1]:=by
 obtain ⟨rows,h1,h2,h3⟩:=h
 have hlt:i < rows.length:=by omega
 obtain ⟨a,k1,k2,k3,k4,k5⟩:=(h1.rsl O).idx .i64 i rows[i] (by simp [hlt])
 refine ⟨a,rows[i],k1,h3 i _ _ (List.getElem?_eq_getElem hlt) (List.getElem?_eq_getElem hi),?_⟩
 have e:((rows[i]).drop 1).take 1=[g rows[i] 1]:=by
  rw [g,List.getD_eq_getElem?_getD,List.getElem?_eq_getElem (by omega),List.drop_eq_getElem_cons (by omega)];rfl
 rw [← e];exact k3 1 1 (by omega)
theorem RH {H:Heap} {v:Value} {cs:List Cd} (h:CardsS H v cs):RetO PP nI [v] H [] (.bool (eD cs)):=by
 refine uy (vs:=[v]) (by kernel_rfl) ⟨h.one,trivial⟩ ?_
 simp only [jz]
 have hB:cs.length < 2 ^ 63:=by
  obtain ⟨rows,h1,h2,_⟩:=h
  have:=h1.lenB;omega
 refine aT cs.length (fun i H' O'=>O'=[]∧Heap.le H H'∧i≤13∧((cs.take i).all ji)=true) ⟨rfl,Heap.le_refl H,by omega,rfl⟩ ?_
 rintro i H' O' hi - ⟨rfl,hle,hi13,hor⟩
 replace h:=h.le hle
 refine ab _ h.len ?_
 refine ab _ (aJ _ _) ?_
 refine ae ?_
 refine ab _ (aJ _ _) ?_
 refine ae ?_
 refine ab _ (aX _ _) (aj (fun hb=>?_) (fun hb=>?_))
 ·have hb:(decide ((i:Int) < (cs.length:Int)) && decide ((i:Int) < 13))=true:=hb
  rw [Bool.and_eq_true,decide_eq_true_eq,decide_eq_true_eq] at hb
  have hlt:i < cs.length:=by omega
  have hl13:i < 13:=by omega
  obtain ⟨a,r,k1,k2,k3,k4⟩:=TO [] h hlt
  have hst:eD cs=false∨ji cs[i]=true:=by
   cases hc:ji cs[i]
   ·refine .inl ?_
    rw [eD,Bool.and_eq_false_iff]
    refine .inl ?_
    rw [List.all_eq_false]
    exact ⟨cs[i],List.mem_take_iff_getElem.2 ⟨i,by omega,rfl⟩,by rw [hc];simp⟩
   ·exact .inr rfl
  have hbad:∀ {x:Bool},ji cs[i]=false→x=false→(x=eD cs):=fun h1 h2=>by
   rcases hst with e | e
   ·rw [h2,e]
   ·rw [h1] at e;cases e
  refine ab _ k1 ?_
  refine aC rfl ?_
  refine ar k3 rfl ⟨k2.eff.one,trivial⟩ ?_
  refine ab _ k2.eff.len ?_
  refine ab _ (bG _ _) ?_
  refine ae (ae ?_)
  refine ⟨.pointer (some a),fun _=>k1,.inr rfl,?_⟩
  refine aC rfl (ae (ae ?_))
  refine ⟨[g r 12],rfl,⟨k2.trig.one,trivial⟩,fun _=>k4,?_⟩
  refine ae ?_
  refine ab _ k2.trig.len ?_
  refine ae ?_
  refine ab _ (bG _ _) ?_
  refine ae ?_
  refine ab _ (aS _ _) (aj (fun hc=>?_) (fun hc=>?_))
  ·have hc:(decide ((cs[i].tg.length:Int) > 5) || decide ((cs[i].tr.length:Int) > 3))=true:=hc
   refine ah ⟨?_,rfl⟩
   congr 1
   exact hbad (by rw [ji,hc];rfl) rfl
  ·have hc:(decide ((cs[i].tg.length:Int) > 5) || decide ((cs[i].tr.length:Int) > 3))=false:=hc
   have hc3:cs[i].tr.length≤3:=by
    rw [Bool.or_eq_false_iff,decide_eq_false_iff_not,decide_eq_false_iff_not] at hc;omega
   refine aT cs[i].tr.length (fun j H2 O2=>O2=[]∧Heap.le H' H2∧(cs[i].tr.all fun n=>!decide ((n:Int) > 5))=((cs[i].tr.drop j).all fun n=>!decide ((n:Int) > 5))) ⟨rfl,Heap.le_refl _,rfl⟩ ?_
   rintro j H2 O2 hj - ⟨rfl,hle2,hor2⟩
   refine ab _ k1 ?_
   refine aC rfl ?_
   refine ar (DJ k4 hle2) rfl ⟨k2.trig.one,trivial⟩ ?_
   refine ab _ k2.trig.len ?_
   refine ab _ (aJ _ _) (aj (fun hd=>?_) (fun hd=>?_))
   ·have hjlt:j < cs[i].tr.length:=by simpa using hd
    obtain ⟨a2,r2,m1,m2,m3⟩:=SI [] (k2.trig.le hle2) hjlt
    obtain ⟨er,m4,m5⟩:=m2
    have el:ak .len [g r2 1]=some (iV cs[i].tr[j]):=by have:=m4.len;rwa [m5] at this
    refine ab _ k1 ?_
    refine aC rfl ?_
    refine ar (DJ k4 hle2) rfl ⟨k2.trig.one,trivial⟩ ?_
    refine ab _ m1 ?_
    refine aC rfl ?_
    refine ar m3 rfl ⟨m4.one,trivial⟩ ?_
    refine ab _ el ?_
    refine ab _ (bG _ _) (aj (fun he=>?_) (fun he=>?_))
    ·have he:decide ((cs[i].tr[j]:Int) > 5)=true:=he
     refine ah ⟨?_,rfl⟩
     congr 1
     exact hbad (by rw [ji,hor2,List.drop_eq_getElem_cons hjlt,List.all_cons,he];simp) rfl
    ·have he:decide ((cs[i].tr[j]:Int) > 5)=false:=he
     refine ab _ (aE (by omega)) (aP (by simp [Eqs,E]) hjlt ⟨rfl,hle2,?_⟩)
     rw [hor2,List.drop_eq_getElem_cons hjlt,List.all_cons,he];rfl
   ·have hjge:cs[i].tr.length≤j:=by simpa using hd
    rw [List.drop_of_length_le hjge] at hor2
    refine ab _ (aE (by omega)) (aP (by simp [Eqs,E]) hlt ⟨rfl,Heap.le_trans hle hle2,by omega,?_⟩)
    rw [List.take_add_one,List.getElem?_eq_getElem hlt,List.all_append,hor]
    simp only [Option.toList_some,List.all_cons,List.all_nil,Bool.and_true,Bool.true_and]
    rw [ji,hc,hor2];rfl
 ·have hb:(decide ((i:Int) < (cs.length:Int)) && decide ((i:Int) < 13))=false:=hb
  rw [Bool.and_eq_false_iff,decide_eq_false_iff_not,decide_eq_false_iff_not] at hb
  refine ab _ h.len ?_
  refine ab _ (fJ _ _) (ah ⟨?_,rfl⟩)
  congr 1
  rw [eD]
  rcases hb with hb | hb
  ·have e1:cs.take i=cs:=List.take_of_length_le (by omega)
   have e2:cs.take 13=cs:=List.take_of_length_le (by omega)
   rw [e1] at hor
   rw [e2,hor,Bool.true_and]
  ·obtain rfl:i=13:=by omega
   rw [hor,Bool.true_and]
end Go.Proofs.YtdhobpmnkfmcfaaGreatDoor
namespace Go.Proofs.YtdhobpmnkfmcfaaGreatDoor
open Go Go.Sx
set_option maxRecDepth 100000
set_option maxHeartbeats 1000000
theorem V3 {H:Heap} {v:Value} {tg:List Int} (h:EffsS H v tg) (hb:tg.length≤1000000):Triple PP xR [v] H [] fun r _ O'=>OSl eA 1 r (aI (dW tg)) O':=by
 refine CJ (vs:=[v]) (by kernel_rfl) ⟨h.one,trivial⟩ ?_
 simp only [qE]
 refine ab _ h.len ?_
 refine dF tg.length (fun i x H' O'=>Heap.le H H'∧OSl eA 1 x (aI (dW (tg.take i))) O') ⟨Heap.le_refl _,OSl.nil _ _⟩ ?_
 rintro i x H' O' hi - ⟨hle,hx⟩
 refine ab _ (aJ _ _) (aj (fun hb=>?_) (fun hb=>?_))
 ·have hlt:i < tg.length:=by simpa using hb
  obtain ⟨a,r,k1,k2,k3,k4,k5,_⟩:=LH (O:=O') (h.le hle) hlt
  have hft:=fO (p:=fun t:Int=>t != 0) hlt
  refine ab _ k1 (ar (iq k2) k3 k4 (af fun r0=>?_))
  refine aa (aa ?_)
  rw [k5]
  refine ab _ (bf _ _) ?_
  refine aj (fun hc=>?_) (fun hc=>?_)
  ·have hc:(tg[i] != 0)=true:=hc
   have hlen:(dW (tg.take i)).length≤1000000:=by rw [dW];exact Nat.le_trans (List.length_filter_le _ _) (by rw [List.length_take];omega)
   refine aa ?_
   refine af fun r2=>?_
   refine aH (rows:=aI (dW (tg.take i))) (news:=[[iV tg[i]]]) (O1:=O') (O2:=[]) (e:=eA) (size:=1) (bytes:=8) (by kernel_rfl) (by simp) hx (fun Hf _ hf=>Sl.block1 (hf _ List.mem_cons_self) rfl ⟨rfl,trivial⟩) (by rw [aI,List.length_map,List.length_singleton];omega) (by rw [aI,List.length_map,List.length_singleton];omega) ?_
   intro v' A' H6 l6 hA'
   refine ab _ (aE (by omega)) (aV (by simp [Eqs]) hlt ⟨Heap.le_trans hle l6,?_⟩)
   rw [List.append_nil,dW,hft,if_pos hc,aI,List.map_append];exact hA'
  ·have hc:(tg[i] != 0)=false:=hc
   refine ab _ (aE (by omega)) (aV (by simp [Eqs]) hlt ⟨hle,?_⟩)
   rw [dW,hft,if_neg (by rw [hc];simp),List.append_nil];exact hx
 ·have hge:tg.length≤i:=by simpa using hb
  rw [List.take_of_length_le hge] at hx
  exact ah hx
end Go.Proofs.YtdhobpmnkfmcfaaGreatDoor
namespace Go.Proofs.YtdhobpmnkfmcfaaGreatDoor
open Go Go.Sx
set_option maxRecDepth 100000
set_option maxHeartbeats 1000000
theorem Ua {cs:List Cd} {b:Bd} {p x:Int}:x ∈ zD cs b p ↔ x ∈ uS cs b p∨x ∈ uS cs b (1 - p):=by
 rw [zD,(wP _).mem_iff,List.mem_append]
end Go.Proofs.YtdhobpmnkfmcfaaGreatDoor
namespace Go.Proofs.YtdhobpmnkfmcfaaGreatDoor
open Go Go.Sx
set_option maxRecDepth 100000
set_option maxHeartbeats 1000000
theorem QL {ks:List Int} {b:Bd} (h:ay b=true) {q:Int} (hq:q=0∨q=1) {x:Int}:x ∈ kD ks b q ↔ ∃ o ∈ b.objs,o.id=x∧o.owner=q∧eN ks o=true∧x ∈ (au b q).field:=by
 have hw:aw q 0 1=true:=by simp only [aw,decide_eq_true_eq];omega
 rw [kD,if_pos (by rw [hw,h];rfl),List.mem_map]
 constructor
 ·rintro ⟨o,ho,rfl⟩
  obtain ⟨m,c⟩:=List.mem_filter.1 ho
  simp only [AN,Bool.and_eq_true,beq_iff_eq,List.contains_iff_mem] at c
  exact ⟨o,m,rfl,c.1,c.2.1,c.2.2⟩
 ·rintro ⟨o,m,rfl,c1,c2,c3⟩
  refine ⟨o,List.mem_filter.2 ⟨m,?_⟩,rfl⟩
  simp only [AN,Bool.and_eq_true,beq_iff_eq,List.contains_iff_mem]
  exact ⟨c1,c2,c3⟩
theorem vE:∀ {l m:List Int},l.Nodup→(∀ x ∈ l,x ∈ m)→l.length≤m.length
 | [],_,_,_=>Nat.zero_le _
 | a::l,m,h,hs=>by
  rw [List.nodup_cons] at h
  have ha:=hs a List.mem_cons_self
  have ih:=vE (m:=m.erase a) h.2 fun x hx=>(List.mem_erase_of_ne (fun e=>by rw [e] at hx;exact h.1 hx)).2 (hs x (List.mem_cons_of_mem _ hx))
  rw [List.length_erase_of_mem ha] at ih
  have:=List.length_pos_of_mem ha
  rw [List.length_cons];omega
section
variable {cs:List Cd} {b:Bd} (h:ay b=true) {k:Nat} {o:Ob} (hk:b.objs[k]?=some o) {z:Int} (hz:z=0∨z=1∨z=2∨z=3)
include h hk hz
end
end Go.Proofs.YtdhobpmnkfmcfaaGreatDoor
namespace Go.Proofs.YtdhobpmnkfmcfaaGreatDoor
open Go Go.Sx
set_option maxRecDepth 100000
set_option maxHeartbeats 1000000
theorem Xk (H:Heap):CdRX H KR Xj:=⟨rfl,Sl.nil H 5,⟨[],Sl.nil H 2,rfl,fun i r t h=>by simp at h⟩⟩
theorem QO {H:Heap} {v:Value} {cs:List CdX} (h:CardsX H v cs) (c:Int) (hn:¬ (c < 0∨c ≥ (cs.length:Int))) :
  ∃ a r,ak (.idx 14) [v,iV c]=some (.pointer (some a))∧H.read (.pointer (some a)) 14=some r∧r.length=14∧Ones r∧CdRX H r (cdX cs c):=by
 obtain ⟨rows,h1,h2,h3⟩:=h
 have hlt:c.toNat < rows.length:=by omega
 obtain ⟨a,k1,k2,k3,k4⟩:=h1.idx (k:=.i64) (i:=c.toNat) (List.getElem?_eq_getElem hlt)
 have hk:cs[c.toNat]?=some (cdX cs c):=by
  rw [cdX,if_neg hn,List.getD_eq_getElem?_getD,List.getElem?_eq_getElem (by omega)];rfl
 refine ⟨a,_,?_,k2,k3,k4,h3 c.toNat _ _ (List.getElem?_eq_getElem hlt) hk⟩
 rw [show iV c=iV (c.toNat:Int) by rw [Int.toNat_of_nonneg (by omega)]];exact k1
def XN (cs:List CdX) (c:Int) (v:Value) (H:Heap):Prop:=∃ cells:List Value,v=.agg cells.toArray∧cells.length=14∧Ones cells∧CdRX H cells (cdX cs c)
theorem VY {H:Heap} {O:Own} {v:Value} {cs:List CdX} (h:CardsX H v cs) (o:Ob):Triple PP oo [v,.agg o.row.toArray] H O fun r H' O'=>XN cs o.card r H'∧O'=O:=by
 refine oH (vs:=v::o.row) (by kernel_rfl) ⟨h.one,bD o⟩ ?_
 simp only [lu]
 refine af fun r0=>af fun r1=>?_
 refine aa ?_
 refine ab _ (aJ _ _) ?_
 refine aa (ae (ae ?_))
 refine ab _ h.len ?_
 refine ae (ae (ab _ (fJ _ _) (ae (ab _ (aS _ _) ?_))))
 refine aj (fun hb=>?_) (fun hb=>?_)
 ·have hb:(decide (o.card < 0) || decide (o.card ≥ (cs.length:Int)))=true:=hb
  refine aa (aa ?_)
  refine ah ⟨⟨KR,rfl,rfl,⟨rfl,rfl,rfl,rfl,rfl,rfl,rfl,rfl,rfl,rfl,rfl,rfl,rfl,rfl,trivial⟩,?_⟩,rfl⟩
  rw [cdX,if_pos (by simpa using hb)];exact Xk H
 ·have hb:(decide (o.card < 0) || decide (o.card ≥ (cs.length:Int)))=false:=hb
  obtain ⟨a,r,k1,k2,k3,k4,k5⟩:=QO h o.card (by simpa [Bool.or_eq_false_iff] using hb)
  refine aa ?_
  refine ab _ k1 (ar (iq k2) k3 k4 ?_)
  refine aa (aa ?_)
  exact ah ⟨⟨r,by rw [← EC k3];rfl,k3,k4,k5⟩,rfl⟩
def XV (v:Value) (trs:List (List Eff)) (O:Own):Prop:=∃ rows A Ts,O.Perm (A++List.flatten Ts)∧OSl gn 2 v rows A∧rows.length=trs.length∧Ts.length=trs.length ∧
 ∀ (i:Nat) (r:List Value) (l:List Eff) (T:Own),rows[i]?=some r→trs[i]?=some l→Ts[i]?=some T→OSl eW 5 (g r 1) (nj l) T
def Xd (c:CdX) (v:Value) (O:Own):Prop:=∃ (cells:List Value) (A B:Own),v=.agg cells.toArray∧cells.length=14∧Ones cells∧g cells 1=iV c.kind∧OSl eW 5 (g cells 11) (nj c.effs) A∧XV (g cells 12) c.trs B∧O.Perm (A++B)
theorem LW {H:Heap} {cells:List Value} {c:CdX} (h:CdRX H cells c) (hl:cells.length=14) (ho:Ones cells) (hli:ji c.base=true) :
  Triple PP yM [.agg cells.toArray] H [] fun r _ O'=>Xd c r O':=by
 simp only [ji,CdX.base,Bool.and_eq_true,Bool.not_eq_true',Bool.or_eq_false_iff,decide_eq_false_iff_not,List.all_eq_true,List.length_map,List.mem_map,forall_exists_index,and_imp,forall_apply_eq_imp_iff₂] at hli
 obtain ⟨⟨b1,b2⟩,b3⟩:=hli
 obtain ⟨hk,he,⟨trows,t1,t2,t3⟩⟩:=h
 refine y5 (vs:=cells) (by rw [← EC hl];kernel_rfl) ho ?_
 simp only [tA]
 refine af fun r0=>af fun r1=>?_
 refine aa (aa ?_)
 refine ax (DX he (by rw [AV];omega)) fun x H1 O1 hx l1=>⟨[x],rfl,⟨hx.one,trivial⟩,?_⟩
 refine ax (NR (t1.le l1) (by omega)) fun y H2 O2 hy l2=>⟨[y],rfl,⟨hy.one,trivial⟩,?_⟩
 have ylen:=hy.len
 rw [t2] at ylen
 refine aa (aa (aa ?_))
 refine ab _ ylen ?_
 refine aT c.trs.length (fun i H' O'=>Heap.le H2 H'∧∃ rows' A Ts,O'.Perm (A++(List.flatten Ts++O1))∧OSl gn 2 y rows' A∧rows'.length=c.trs.length∧Ts.length=i ∧
  (∀ (j:Nat) (r:List Value) (l:List Eff) (T:Own),rows'[j]?=some r→c.trs[j]?=some l→Ts[j]?=some T→OSl eW 5 (g r 1) (nj l) T)∧∀ j,i≤j→rows'[j]?=trows[j]?)
  ⟨Heap.le_refl _,trows,O2,[],by simp,hy,t2,rfl,fun j r l T _ _ h=>by simp at h,fun _ _=>rfl⟩ ?_
 rintro i H' O' hi - ⟨hle,rows',A,Ts,hp,hA,hrl,htl,hspec,hrest⟩
 refine ab _ (aJ _ _) (aj (fun hb=>?_) (fun hb=>?_))
 ·have hlt:i < c.trs.length:=by simpa using hb
  have hri:rows'[i]?=some trows[i]:=by rw [hrest i (Nat.le_refl _)];exact List.getElem?_eq_getElem (by omega)
  have k1:=t3 i trows[i] c.trs[i] (List.getElem?_eq_getElem (by omega)) (List.getElem?_eq_getElem hlt)
  have hb3:=b3 _ (List.getElem_mem hlt)
  obtain ⟨a,i1,i2,i3,i4⟩:=hA.idx (fun p h=>hp.mem_iff.2 (List.mem_append_left _ h)) H' (k:=.i64) hri
  obtain ⟨w1,w2⟩:=hA.rows_ok hri
  refine ab _ i1 (ar i3 w1 w2 (af fun r2=>?_))
  refine aa (aa (aa ?_))
  refine ax (DX (k1.le (Heap.le_trans l1 (Heap.le_trans l2 hle))) (by rw [AV];omega)) fun z H3 T hz l3=>⟨[z],rfl,⟨hz.one,trivial⟩,?_⟩
  have hp2:(T++O').Perm (A++(T++(List.flatten Ts++O1))):=(hp.append_left T).trans (List.perm_append_comm_assoc _ _ _)
  obtain ⟨a2,j1,j2⟩:=hA.store hp2 (k:=.i64) hri
  obtain ⟨A',hst,hA'⟩:=j2 1 [z] (by simp [w1]) ⟨hz.one,trivial⟩
  have hsp:g (cB trows[i] 1 [z]) 1=z:=by
   match hm:trows[i],w1 with
   | [_,_],_=>rfl
  refine ab _ j1 ?_
  refine aC rfl (aC rfl ?_)
  refine ⟨_,hst,?_⟩
  refine ab _ (aE (by omega)) (aP (by simp [Eqs]) hlt ⟨Heap.le_trans hle l3,_,A',Ts++[T],?_,hA',by simp [hrl],by simp [htl],?_,?_⟩)
  ·refine List.Perm.append_left A' ?_
   rw [List.flatten_append,← List.append_assoc]
   refine List.Perm.append_right O1 ?_
   simpa using List.perm_append_comm
  ·intro j r x T' h1 h2 h3
   by_cases hj:j=i
   ·subst hj
    rw [List.getElem?_set_self (by omega)] at h1
    rw [List.getElem?_eq_getElem hlt] at h2
    rw [List.getElem?_append_right (by omega),htl,Nat.sub_self] at h3
    simp only [Option.some.injEq,List.getElem?_cons_zero] at h1 h2 h3
    subst h1;subst h2;subst h3
    rw [hsp];exact hz
   ·rw [List.getElem?_set_ne (by omega)] at h1
    have hjlt:j < Ts.length:=by
     have:=(List.getElem?_eq_some_iff.1 h3).1
     simp at this;omega
    rw [List.getElem?_append_left hjlt] at h3
    exact hspec j r x T' h1 h2 h3
  ·intro j hj
   rw [List.getElem?_set_ne (by omega)]
   exact hrest j (by omega)
 ·have hie:i=c.trs.length:=by
   have:¬ ((i:Int) < (c.trs.length:Int)):=by simpa using hb
   omega
  subst hie
  refine aa (aa (aa ?_))
  refine ah ⟨[g cells 0,g cells 1,g cells 2,g cells 3,g cells 4,g cells 5,g cells 6,g cells 7,g cells 8,g cells 9,g cells 10,x,y,g cells 13],O1,A++List.flatten Ts,rfl,rfl,?_,hk,hx,⟨rows',A,Ts,List.Perm.refl _,hA,hrl,htl,hspec⟩,?_⟩
  ·exact ⟨dV ho (by omega),dV ho (by omega),dV ho (by omega),dV ho (by omega),dV ho (by omega),dV ho (by omega),dV ho (by omega),dV ho (by omega),dV ho (by omega),dV ho (by omega),dV ho (by omega),hx.one,hy.one,dV ho (by omega),trivial⟩
  ·refine hp.trans ?_
   rw [← List.append_assoc]
   exact List.perm_append_comm
theorem Pi {H:Heap} {v:Value} {cs:List CdX} (h:CardsX H v cs) (hli:eD (cs.map CdX.base)=true) (o:Ob):Triple PP tP [v,.agg o.row.toArray] H [] fun r _ O'=>Xd (cdX cs o.card) r O':=by
 refine vr (vs:=v::o.row) (by kernel_rfl) ⟨h.one,bD o⟩ ?_
 simp only [oi]
 refine af fun r0=>af fun r1=>?_
 refine aa ?_
 refine ax (VY (O:=[]) h o) ?_
 rintro _ H1 _ ⟨⟨cells,rfl,k1,k2,k3⟩,rfl⟩ l1
 refine ⟨cells,by simp [Shp.open,k1],k2,?_⟩
 have hrow:=EC k1
 have hlc:ji (cdX cs o.card).base=true:=by rw [NL];exact DL hli _
 refine ax (LW (cells:=[g cells 0,g cells 1,g cells 2,g cells 3,g cells 4,g cells 5,g cells 6,g cells 7,g cells 8,g cells 9,g cells 10,g cells 11,g cells 12,g cells 13]) (by rw [hrow];exact k3) rfl (by rw [hrow];exact k2) hlc) ?_
 rintro _ H2 O2 ⟨cells2,A,B,rfl,m1,m2,m3⟩ l2
 refine ⟨cells2,by simp [Shp.open,m1],m2,?_⟩
 refine aa (aa ?_)
 refine y7 (O':=O2) (by simp) ⟨cells2,A,B,by rw [← EC m1];rfl,m1,m2,m3⟩
end Go.Proofs.YtdhobpmnkfmcfaaGreatDoor
namespace Go.Proofs.YtdhobpmnkfmcfaaGreatDoor
open Go Go.Sx
set_option maxRecDepth 100000
set_option maxHeartbeats 1000000
theorem US {r:List Value} (h:r.length=2):(r.drop 1).take 1=[g r 1]:=by
 match r,h with
 | [_,_],_=>rfl
theorem Pj {H:Heap} {v:Value} {cs:List CdX} (h:CardsX H v cs) (hli:eD (cs.map CdX.base)=true) (player id card trig:Int) {s:Value} (hs:s.oneCell'=true) :
  Triple PP wy [v,.agg #[iV player,iV id,iV card,iV trig,s]] H [] fun r _ O'=>OSl eW 5 r (nj (UG cs card trig)) O':=by
 refine Aq (vs:=[v,iV player,iV id,iV card,iV trig,s]) (by kernel_rfl) ⟨h.one,rfl,rfl,rfl,rfl,hs,trivial⟩ ?_
 simp only [o6]
 refine af fun r0=>?_
 refine aa ?_
 refine ax (Pi h hli (Xx card)) ?_
 rintro _ H1 O1 ⟨cells,A,B,rfl,k1,k2,k3,k4,k5,k6⟩ l1
 refine ⟨cells,by simp [Shp.open,k1],k2,af fun r1=>?_⟩
 have k4:OSl eW 5 (g cells 11) (nj (cdX cs card).effs) A:=k4
 obtain ⟨rows,A',Ts,q1,q2,q3,q4,q5⟩:XV (g cells 12) (cdX cs card).trs B:=k5
 have hlen:ak .len [g cells 12]=some (iV (cdX cs card).trs.length):=by have:=q2.len;rwa [q3] at this
 refine aa (aa ?_)
 refine ab _ (aA _ _) (aj (fun hb=>?_) (fun hb=>?_))
 ·have hb:trig=-1:=by simpa using hb
  refine aa ?_
  refine AC (O':=A) (Y:=B) (by simpa using k6) ?_
  rw [UG,if_pos hb];exact k4
 have hb:trig ≠ -1:=by simpa using hb
 refine aa ?_
 refine ab _ (aJ _ _) ?_
 repeat (first | refine aa ?_ | refine ae ?_)
 refine ab _ hlen ?_
 refine ae (ae (ab _ (fJ _ _) (ae (ab _ (aS _ _) ?_))))
 refine aj (fun hc=>?_) (fun hc=>?_)
 ·have hc:(decide (trig < 0) || decide (trig ≥ ((cdX cs card).trs.length:Int)))=true:=hc
  refine nN ?_
  rw [UG,if_neg hb,if_pos (by simpa using hc)];exact OSl.nil _ _
 ·have hc:(decide (trig < 0) || decide (trig ≥ ((cdX cs card).trs.length:Int)))=false:=hc
  have hn:¬ (trig < 0∨trig ≥ ((cdX cs card).trs.length:Int)):=by simpa [Bool.or_eq_false_iff] using hc
  have hlt:trig.toNat < (cdX cs card).trs.length:=by omega
  have ecast:((trig.toNat:Nat):Int)=trig:=by omega
  have hri:rows[trig.toNat]?=some (rows[trig.toNat]'(by omega)):=List.getElem?_eq_getElem (by omega)
  have hTi:trig.toNat < Ts.length:=by omega
  have hT:=q5 _ _ _ _ hri (List.getElem?_eq_getElem hlt) (List.getElem?_eq_getElem hTi)
  obtain ⟨w1,w2⟩:=q2.rows_ok hri
  obtain ⟨p1,_⟩:=vL hTi
  have hmem:∀ p ∈ A',p ∈ O1++[]:=fun p hp=>by
   rw [List.append_nil]
   exact k6.mem_iff.2 (List.mem_append_right _ (q1.mem_iff.2 (List.mem_append_left _ hp)))
  obtain ⟨a,i1,i2,i3,i4⟩:=q2.idx hmem H1 (k:=.i64) hri
  have i5:=i4 1 1 (by omega)
  rw [US w1] at i5
  rw [ecast] at i1
  refine aa (aa ?_)
  refine ab _ i1 ?_
  refine aC rfl ?_
  refine ar i5 rfl ⟨hT.one,trivial⟩ ?_
  have hperm:(O1++[]).Perm (Ts[trig.toNat]++(A++(A'++List.flatten (Ts.eraseIdx trig.toNat)))):=by
   rw [List.append_nil]
   refine k6.trans ?_
   refine ((q1.trans (p1.append_left A')).append_left A).trans ?_
   refine ((List.perm_append_comm_assoc A' _ _).append_left A).trans ?_
   exact List.perm_append_comm_assoc A _ _
  refine AC hperm ?_
  rw [UG,if_neg hb,if_neg hn,List.getD_eq_getElem?_getD,List.getElem?_eq_getElem hlt]
  exact hT
end Go.Proofs.YtdhobpmnkfmcfaaGreatDoor
namespace Go.Proofs.YtdhobpmnkfmcfaaGreatDoor
open Go Go.Sx
set_option maxRecDepth 100000
set_option maxHeartbeats 1000000
theorem Vq {H:Heap} {v:cP} {b:Bd} (h:BdS H v b) (hv:ay b=false):RetO PP yL [.agg (ap v b).toArray] H [] (.tuple #[.agg (ap BJ zBd).toArray,.agg #[iV 0,iV 0,iV 0,iV 0,.slice none 0 0],iV 2]):=by
 refine yX (vs:=ap v b) (by kernel_rfl) (ao (h.r [])) ?_
 simp only [tj]
 refine af fun r0=>af fun r1=>af fun r2=>?_
 refine aa ?_
 refine ai (dY (h.r [])) rfl ⟨rfl,trivial⟩ fun H1 l1=>?_
 rw [hv]
 refine ab _ (aN _) (aj (fun _=>?_) (fun hd=>by cases hd))
 refine aa (aa (aa (aa ?_)))
 exact ah ⟨rfl,rfl⟩
end Go.Proofs.YtdhobpmnkfmcfaaGreatDoor
namespace Go.Proofs.YtdhobpmnkfmcfaaGreatDoor
open Go Go.Sx
set_option maxRecDepth 100000
set_option maxHeartbeats 1000000
end Go.Proofs.YtdhobpmnkfmcfaaGreatDoor
namespace Go.Proofs.YtdhobpmnkfmcfaaGreatDoor
open Go Go.Sx
set_option maxRecDepth 100000
set_option maxHeartbeats 1000000
end Go.Proofs.YtdhobpmnkfmcfaaGreatDoor
namespace Go.Proofs.YtdhobpmnkfmcfaaGreatDoor
open Go Go.Sx
set_option maxRecDepth 100000
set_option maxHeartbeats 1000000
theorem Ah {b:Bd} (h:ay b=true) {x:It} (hx:x ∈ b.stack):dz x false=true:=List.all_eq_true.1 (aY h).2.2.2 x hx
theorem DG {b:Bd} (h:ay b=true):b.stack.length≤200:=by
 simp only [ay,zf,Bool.and_eq_true,Bool.not_eq_true',Bool.or_eq_false_iff,decide_eq_false_iff_not] at h
 obtain ⟨a1,a2,a3,a4,⟨⟨⟨a5,a6⟩,a7⟩,a8⟩,_⟩:=h
 omega
end Go.Proofs.YtdhobpmnkfmcfaaGreatDoor
namespace Go.Proofs.YtdhobpmnkfmcfaaGreatDoor
open Go Go.Sx
set_option maxRecDepth 100000
set_option maxHeartbeats 1000000
theorem Xv {H:Heap} {va vc:Value} (life:Int) {a c:List Int} (ha:Sl H 1 va (aI a)) (hc:Sl H 1 vc (aI c)) (hla:a.length≤1000) (hlc:c.length≤1000) :
  Triple PP qh [iV life,.agg #[va,vc]] H [] (XM life a c):=by
 refine xd (vs:=[iV life,va,vc]) (by kernel_rfl) ⟨rfl,ha.one,hc.one,trivial⟩ ?_
 simp only [ln]
 have la:=ha.len
 have lc:=hc.len
 rw [aI,List.length_map] at la lc
 refine af fun r0=>af fun r1=>af fun r2=>?_
 repeat (first | refine aa ?_ | refine ae ?_ | refine ab _ la ?_ | refine ab _ lc ?_ | refine ab _ (iC (by omega)) ?_ | refine ab _ (bG _ _) ?_ | refine ab _ (aJ _ _) ?_ | refine ab _ (aS _ _) ?_)
 refine aj (fun hb=>aa (aa (ah (Lp ?_ H)))) (fun hb=>?_)
 ·unfold Lq
  simp only [Bool.or_eq_true,decide_eq_true_eq] at hb
  rcases hb with hb | hb
  ·have:¬ (1≤life∧life≤9999):=by omega
   simp only [this,decide_false,Bool.false_and]
  ·have:¬ (a.length + c.length≤500):=by omega
   simp only [this,decide_false,Bool.and_false,Bool.false_and]
 simp only [Bool.or_eq_false_iff,decide_eq_true_eq,decide_eq_false_iff_not] at hb
 have hlife:1≤life∧life≤9999:=by omega
 have hsum:a.length + c.length≤500:=by omega
 refine aa ?_
 refine wW a.length (fun i xs H' O'=>∃ o l O1 O2,xs=[o,l,rV]∧O'.Perm (O1++O2)∧Heap.le H H'∧OSl aM 12 o (((ix 0 a 0).take i).map Ob.row) O1∧OSl aO 1 l (aI (((ix 0 a 0).take i).map (·.id))) O2∧∀ x ∈ a.take i,0≤x∧x≤399)
  ⟨rV,rV,[],[],rfl,List.Perm.refl _,Heap.le_refl _,OSl.nil _ _,OSl.nil _ _,by simp⟩ ?_
 rintro i xs H2 O2' hi - - - ⟨o,l,O1,O2,rfl,hO,l2,ho,hl,hall⟩
 refine aa (ab _ la (ab _ (aJ _ _) (aj (fun hb=>?_) (fun hb=>?_))))
 ·have hlt:i < a.length:=by simpa using hb
  obtain ⟨p,h1,h2,h3,h4⟩:=(ha.le l2).idx (k:=.i64) (i:=i) (r:=[iV a[i]]) (by simp [aI,hlt])
  refine aa (ab _ h1 (cT h2 h3 h4 (ab _ (aJ _ _) (ae (aa (ae (ae (ae (y9 h1 rfl (ae (JS h2 h3 h4 (ae (ab _ (bG _ _) (ae (ab _ (aS _ _) (aj (fun hb=>aa (aa (nN (Lp ?_ H2)))) (fun hb=>?_)))))))))))))))))
  ·refine JK (i:=i) (by simp;omega) ?_
   rw [List.getElem_append_left hlt]
   rintro ⟨q1,q2⟩
   simp at hb
   omega
  ·have hin:0≤a[i]∧a[i]≤399:=by simp at hb;omega
   have lno:=ho.len
   rw [List.length_map,List.length_take,ja,Nat.min_eq_left (by omega)] at lno
   refine aa (ab _ lno (ab _ (aE (by omega)) (aa (aa (ab _ h1 (cT h2 h3 h4 (af fun r3=>?_)))))))
   refine aH (rows:=((ix 0 a 0).take i).map Ob.row) (news:=[(OA ((i + 1:Nat):Int) a[i] 0).row]) (O1:=O1) (O2:=O2) (e:=aM) (size:=12) (bytes:=80) (by kernel_rfl) hO ho
    (fun Hf _ hf=>Sl.block1 (hf _ List.mem_cons_self) rfl (by simp [OA,Ob.row,Ones,Value.oneCell'])) ?_ ?_ ?_
   ·simp [ja];omega
   ·simp [ja];omega
   intro o' O1' H5 l5 ho'
   refine aa (aa (af fun r4=>?_))
   refine aH (rows:=aI (((ix 0 a 0).take i).map (·.id))) (news:=[[iV ((i + 1:Nat):Int)]]) (O1:=O2) (O2:=O1') (e:=aO) (size:=1) (bytes:=8) (by kernel_rfl) List.perm_append_comm hl
    (fun Hf _ hf=>Sl.block1 (hf _ List.mem_cons_self) rfl ⟨rfl,trivial⟩) ?_ ?_ ?_
   ·simp [aI,ja];omega
   ·simp [aI,ja];omega
   intro l' O2'' H6 l6 hl'
   refine aa (ab _ (aE (by omega)) (oW (by simp [Eqs,E]) hlt ⟨o',l',O1',O2'',rfl,List.perm_append_comm,?_,?_,?_,NV hlt hall hin⟩))
   ·exact Heap.le_trans l2 (Heap.le_trans l5 l6)
   ·rw [zp hlt,List.map_append,Nat.zero_add];exact ho'
   ·rw [zp hlt,List.map_append,Nat.zero_add,E0] at *
    exact hl'
 ·have hie:i=a.length:=by simp at hb;omega
  subst hie
  rw [List.take_of_length_le (by rw [ja];exact Nat.le_refl _)] at ho hl
  rw [List.take_length] at hall
  refine aa ?_
  refine wW c.length (fun i xs H' O'=>∃ o m O1 O3,xs=[o,l,m]∧O'.Perm (O1++(O2++O3))∧Heap.le H2 H'∧OSl aM 12 o ((ix 0 a 0++(ix a.length c 1).take i).map Ob.row) O1∧OSl aO 1 m (aI (((ix a.length c 1).take i).map (·.id))) O3∧∀ x ∈ c.take i,0≤x∧x≤399)
   ⟨o,rV,O1,[],rfl,by simpa using hO,Heap.le_refl _,by simpa using ho,OSl.nil _ _,by simp⟩ ?_
  rintro i xs H3 O3' hi - - - ⟨o,m,O1,O3,rfl,hO,l3,ho,hm,hallc⟩
  refine aa (ab _ lc (ab _ (aJ _ _) (aj (fun hb=>?_) (fun hb=>?_))))
  ·have hlt:i < c.length:=by simpa using hb
   obtain ⟨p,h1,h2,h3,h4⟩:=((hc.le l2).le l3).idx (k:=.i64) (i:=i) (r:=[iV c[i]]) (by simp [aI,hlt])
   refine aa (ab _ h1 (cT h2 h3 h4 (ab _ (aJ _ _) (ae (aa (ae (ae (ae (y9 h1 rfl (ae (JS h2 h3 h4 (ae (ab _ (bG _ _) (ae (ab _ (aS _ _) (aj (fun hb=>aa (aa (nN (Lp ?_ H3)))) (fun hb=>?_)))))))))))))))))
   ·refine JK (i:=a.length + i) (by simp;omega) ?_
    rw [List.getElem_append_right (by omega)]
    rintro ⟨q1,q2⟩
    simp at hb q1 q2
    omega
   ·have hin:0≤c[i]∧c[i]≤399:=by simp at hb;omega
    have lno:=ho.len
    rw [List.length_map,List.length_append,List.length_take,ja,ja,Nat.min_eq_left (by omega)] at lno
    refine aa (ab _ lno (ab _ (aE (by omega)) (aa (aa (ab _ h1 (cT h2 h3 h4 (af fun r5=>?_)))))))
    refine aH (rows:=(ix 0 a 0++(ix a.length c 1).take i).map Ob.row) (news:=[(OA ((a.length + i + 1:Nat):Int) c[i] 1).row]) (O1:=O1) (O2:=O2++O3) (e:=aM) (size:=12) (bytes:=80) (by kernel_rfl) hO ho
     (fun Hf _ hf=>Sl.block1 (hf _ List.mem_cons_self) rfl (by simp [OA,Ob.row,Ones,Value.oneCell'])) ?_ ?_ ?_
    ·simp [ja];omega
    ·simp [ja];omega
    intro o' O1' H6 l6 ho'
    refine aa (aa (af fun r6=>?_))
    refine aH (rows:=aI (((ix a.length c 1).take i).map (·.id))) (news:=[[iV ((a.length + i + 1:Nat):Int)]]) (O1:=O3) (O2:=O1'++O2) (e:=aO) (size:=1) (bytes:=8) (by kernel_rfl)
     (by rw [← List.append_assoc];exact List.perm_append_comm) hm (fun Hf _ hf=>Sl.block1 (hf _ List.mem_cons_self) rfl ⟨rfl,trivial⟩) ?_ ?_ ?_
    ·simp [aI,ja];omega
    ·simp [aI,ja];omega
    intro m' O3'' H7 l7 hm'
    refine aa (ab _ (aE (by omega)) (oW (by simp [Eqs,E]) hlt ⟨o',m',O1',O3'',rfl,?_,?_,?_,?_,NV hlt hallc hin⟩))
    ·rw [← List.append_assoc O1'];exact List.perm_append_comm
    ·exact Heap.le_trans l3 (Heap.le_trans l6 l7)
    ·rw [zp hlt,← List.append_assoc,List.map_append];exact ho'
    ·rw [zp hlt,List.map_append]
     rw [E0] at hm'
     exact hm'
  ·have hie:i=c.length:=by simp at hb;omega
   subst hie
   rw [List.take_of_length_le (by rw [ja];exact Nat.le_refl _)] at ho hm
   rw [List.take_length] at hallc
   refine aa (aa (aa (Tq ?_ hO ho hl hm)))
   unfold Lq
   simp only [Bool.and_eq_true,decide_eq_true_eq,List.all_eq_true]
   refine ⟨⟨hlife,hsum⟩,fun x hx=>?_⟩
   rcases List.mem_append.1 hx with hx | hx
   ·exact hall x hx
   ·exact hallc x hx
end Go.Proofs.YtdhobpmnkfmcfaaGreatDoor
namespace Go.Sx
open Go
set_option maxRecDepth 100000
set_option maxHeartbeats 1000000
theorem VS {T:Heap→Own→(Value→Heap→Own→Prop)→Prop} {frz:List BV} {shp:Shp} {K:List Value→List (List Value)→Heap→Own→Prop} {H:Heap} {O B:Own} {Φ:Heap→Prop}
  (hz:∀ H1,Heap.le H H1→Cons H1 O→∃ Hf,Ghost H1 O Hf B∧Heap.le H1 Hf∧Φ Hf)
  (h:∀ Hf,Heap.le H Hf→(∀ b ∈ frz,Hf b.r=some b.obj.2)→Φ Hf→∃ Q,T Hf [] Q∧∀ v H' O',Q v H' O'→Heap.le Hf H'→∃ vs,shp.open v=some vs∧Ones vs∧K vs [] H' (O'++B)) :
  dN T false frz [] shp K H O:=by
 intro hc
 have hf:=iY hc
 have hc2:Cons (H.insAll frz) O:=by
  obtain ⟨w,F,hm⟩:=hc
  exact ⟨w,F,(nU (by simpa [List.append_assoc] using hm)).1⟩
 obtain ⟨Hf,g,hl,hphi⟩:=hz _ (Heap.le_insAll frz H) hc2
 obtain ⟨Q,hT,hk⟩:=h Hf (Heap.le_trans (Heap.le_insAll frz H) hl) (fun b hb=>hl.1 _ _ (hf b hb)) hphi
 refine ⟨Hf,[],B,Q,by simpa using g,by simpa using hT,fun v H' O' hq hle=>?_⟩
 obtain ⟨vs,h1,h2,h3⟩:=hk v H' O' hq hle
 exact ⟨vs,[],O',h1,h2,trivial,by simp [nT],by simpa using h3⟩
theorem VO {H:Heap} {O:Own}:∀ H1,Heap.le H H1→Cons H1 O→∃ Hf,Ghost H1 O Hf O∧Heap.le H1 Hf∧(fun _:Heap=>True) Hf:=fun H1 _ _=>⟨H1,Ghost.refl _ _,Heap.le_refl _,trivial⟩
end Go.Sx
namespace Go.Proofs.YtdhobpmnkfmcfaaGreatDoor
open Go Go.Sx
set_option maxRecDepth 100000
set_option maxHeartbeats 1000000
theorem Va {n:Int} {m:Nat} (h:0≤n) (hm:0 < m):ak (.bin .rem .int) [iV n,iV (m:Int)]=some (iV ((n.toNat % m:Nat):Int)):=by
 simp only [ak,fC,eP]
 have h2:(m:Int) ≠ 0:=by omega
 have h3:n.tmod (m:Int)=((n.toNat % m:Nat):Int):=by
  rw [Int.tmod_eq_emod_of_nonneg h,Int.natCast_emod,Int.toNat_of_nonneg h]
 simp [h2,h3]
 omega
end Go.Proofs.YtdhobpmnkfmcfaaGreatDoor
namespace Go.Proofs.YtdhobpmnkfmcfaaGreatDoor
open Go Go.Sx
set_option maxRecDepth 100000
set_option maxHeartbeats 1000000
theorem Triple.frozen2 {P:Program} {f:FuncId} {args:List Value} {H:Heap} {t:Tys} {b:Bd} {e:Int} (h:Triple P f args H [] fun r _ O'=>∃ w,r=.tuple #[.agg (ap w b).toArray,iV e]∧OwnB t w b O') :
  Triple P f args H [] fun r H' O'=>(∃ w,r=.tuple #[.agg (ap w b).toArray,iV e]∧BdS H' w b)∧O'=[]:=by
 refine Triple.ghost h ?_
 rintro v H' O' _ hc ⟨w,rfl,ho⟩
 obtain ⟨H'',g,k,_⟩:=ho.freeze (X:=[]) (by simpa using hc)
 exact ⟨H'',[],by simpa using g,⟨w,rfl,k⟩,rfl⟩
end Go.Proofs.YtdhobpmnkfmcfaaGreatDoor
namespace Go.Proofs.YtdhobpmnkfmcfaaGreatDoor
open Go Go.Sx
set_option maxRecDepth 100000
set_option maxHeartbeats 1000000
theorem WI {H:Heap} {O:Own} {v:Value} {l:List It} (h:ItsS H v l) {i:Nat} {x:It} (hx:l[i]?=some x) :
  ∃ a s,ak (.idx 5) [v,iV i]=some (.pointer (some a))∧Sl H 2 s (cO x.tgs)∧Reads H O (.pointer (some a)) 5 [iV x.player,iV x.id,iV x.card,iV x.trig,s] ∧
   ∀ off m,off + m≤5→Reads H O (aU (.pointer (some a)) off) m (([iV x.player,iV x.id,iV x.card,iV x.trig,s].drop off).take m):=by
 obtain ⟨rows,h1,h2,h3⟩:=h
 have hlt:=(List.getElem?_eq_some_iff.1 hx).1
 have hr:rows[i]?=some (rows[i]'(by omega)):=List.getElem?_eq_getElem (by omega)
 obtain ⟨s,e,hs⟩:=h3 i _ x hr hx
 obtain ⟨a,k1,k2,k3,_⟩:=(h1.rsl O).idx .i64 i _ hr
 rw [e] at k2 k3
 exact ⟨a,s,k1,hs,k2,k3⟩
theorem Ku {α:Type} (l:List α) (x:α):(l++[x])[l.length]?=some x:=by simp
def tV (cs:List CdX) (x:It):List Int:=dW ((UG cs x.card x.trig).map (·.target))
def QA (cs:List CdX) (x:It):Int:=if x.trig=-1∧(x.tgs.length:Int) < min 4 ((tV cs x).length:Int) then (tV cs x).getD x.tgs.length 0 else 0
def Qz (cs:List CdX) (b:Bd):Int:=match b.stack.getLast? with
 | none=>0
 | some x=>QA cs x
theorem Qy {cs:List CdX} {b:Bd} {l:List It} {x:It} (hl:b.stack=l++[x]):Qz cs b=QA cs x:=by
 simp [Qz,hl]
theorem JG {cs:List CdX} {b:Bd} (hl:b.stack=[]):Qz cs b=0:=by
 simp [Qz,hl]
theorem Ug {b:Bd} (h:b.stack ≠ []):∃ l x,b.stack=l++[x]:=⟨b.stack.dropLast,b.stack.getLast h,(List.dropLast_concat_getLast h).symm⟩
theorem NE {cs:List CdX} (hli:eD (cs.map CdX.base)=true) (c t:Int):(UG cs c t).length≤5:=by
 have h:=DL hli c
 rw [← NL] at h
 simp only [ji,CdX.base,Bool.and_eq_true,Bool.not_eq_true',Bool.or_eq_false_iff,decide_eq_false_iff_not,List.all_eq_true,List.length_map] at h
 obtain ⟨⟨h1,h2⟩,h3⟩:=h
 rw [UG]
 split
 ·omega
 split
 ·simp
 ·rename_i hn
  have hlt:t.toNat < (cdX cs c).trs.length:=by omega
  rw [List.getD_eq_getElem?_getD,List.getElem?_eq_getElem hlt,Option.getD_some]
  have:=h3 _ (List.mem_map.2 ⟨_,List.getElem_mem hlt,rfl⟩)
  omega
theorem OC {cs:List CdX} (hli:eD (cs.map CdX.base)=true) (x:It):(tV cs x).length≤5:=by
 have:=NE hli x.card x.trig
 have h2:(tV cs x).length≤((UG cs x.card x.trig).map (·.target)).length:=List.length_filter_le _ _
 rw [List.length_map] at h2
 omega
theorem W1 {H:Heap} {cv:Value} {cs:List CdX} (hk:CardsX H cv cs) (hli:eD (cs.map CdX.base)=true) {v:cP} {b:Bd} (h:BdS H v b) (hv:ay b=true):RetO PP Ce [cv,.agg (ap v b).toArray] H [] (iV (Qz cs b)):=by
 refine Gf (vs:=cv::ap v b) (by kernel_rfl) ⟨hk.one,ao (h.r [])⟩ ?_
 simp only [wb]
 have slen:ak .len [v.s]=some (iV b.stack.length):=ItsR.len (h.stack.r [])
 have h200:=DG hv
 refine af fun r0=>?_
 refine aa ?_
 refine ab _ slen ?_
 refine ab _ (aA _ _) (aj (fun h0=>?_) (fun h0=>?_))
 ·have h0:b.stack=[]:=List.length_eq_zero_iff.1 (by have:(b.stack.length:Int)=0:=(by simpa using h0);omega)
  exact ah ⟨by rw [JG h0],rfl⟩
 have hne:b.stack ≠ []:=fun e=>by rw [e] at h0;simp at h0
 obtain ⟨l,x,hl⟩:=Ug hne
 have hlen:b.stack.length=l.length + 1:=by rw [hl];simp
 have hxf:=Ah hv (x:=x) (by rw [hl];simp)
 rw [Qy hl]
 refine aa ?_
 refine ai (dY (h.r [])) rfl ⟨rfl,trivial⟩ fun H1 l1=>?_
 rw [hv]
 have h:=h.le l1
 have hk:=hk.le l1
 obtain ⟨a,s,k1,hs,k2,k3⟩:=WI (O:=[]) h.stack (i:=l.length) (x:=x) (by rw [hl];exact Ku l x)
 have esub:((b.stack.length:Int) - 1)=(l.length:Int):=by omega
 refine ab _ (aN _) ?_
 refine aa (ae (ae ?_))
 refine ab _ (I5 (by omega) (by omega)) ?_
 rw [esub]
 refine ae (ae ?_)
 refine ⟨_,fun _=>k1,.inr rfl,?_⟩
 refine ⟨fun _=>rfl,?_⟩
 refine ae (ae ?_)
 refine ⟨[iV x.trig],rfl,⟨rfl,trivial⟩,fun _=>k3 3 1 (by omega),?_⟩
 refine ae ?_
 refine ab _ (bf _ _) ?_
 refine ae ?_
 refine ab _ (aS _ _) (aj (fun ht=>?_) (fun ht=>?_))
 ·have ht:(!true || x.trig != -1)=true:=ht
  have ht:x.trig ≠ -1:=by simpa using ht
  exact ah ⟨by rw [QA,if_neg (fun h=>ht h.1)],rfl⟩
 have ht:(!true || x.trig != -1)=false:=ht
 have ht:x.trig=-1:=by simpa using ht
 refine aa ?_
 refine ab _ (I5 (by omega) (by omega)) ?_
 rw [esub]
 refine ab _ k1 (ar k2 rfl ⟨rfl,rfl,rfl,rfl,hs.one,trivial⟩ (af fun r1=>?_))
 refine aa (aa ?_)
 refine ax (Triple.frozenS (Pj hk hli x.player x.id x.card x.trig hs.one)) ?_
 rintro ev H2 _ ⟨hev,rfl⟩ l2
 refine ⟨[ev],rfl,⟨hev.one,trivial⟩,?_⟩
 have hn5:=OC hli x
 refine ax (Triple.frozenS (V3 (Ks hev) (by rw [List.length_map];have:=NE hli x.card x.trig;omega))) ?_
 rintro nv H3 _ ⟨hnv,rfl⟩ l3
 have hnv:Sl H3 1 nv (aI (tV cs x)):=hnv
 refine ⟨[nv],rfl,⟨hnv.one,trivial⟩,?_⟩
 have tlen:ak .len [s]=some (iV x.tgs.length):=by have:=hs.len;rwa [bF] at this
 have nlen:ak .len [nv]=some (iV (tV cs x).length):=by have:=hnv.len;rwa [aI,List.length_map] at this
 have ht4:x.tgs.length≤4:=by
  simp only [dz,Bool.and_eq_true,Bool.not_eq_true',Bool.or_eq_false_iff,decide_eq_false_iff_not] at hxf
  have:=hxf.2.2.2.2.1.1.1
  omega
 refine aa ?_
 refine ab _ tlen ?_
 refine ab _ nlen ?_
 refine ab _ (aJ _ _) ?_
 refine ae ?_
 refine ab _ (aJ _ _) ?_
 refine ae ?_
 refine ab _ (aX _ _) (aj (fun hc=>?_) (fun hc=>?_))
 ·have hc:(decide ((x.tgs.length:Int) < ((tV cs x).length:Int)) && decide ((x.tgs.length:Int) < 4))=true:=hc
  have hc:(x.tgs.length:Int) < ((tV cs x).length:Int)∧(x.tgs.length:Int) < 4:=by simpa using hc
  have hlt:x.tgs.length < (tV cs x).length:=by omega
  obtain ⟨a2,i1,i2,_,i3,i4⟩:=(hnv.rsl ([]:Own)).idx .i64 x.tgs.length [iV (tV cs x)[x.tgs.length]] (by simp [aI,hlt])
  refine ab _ i1 (ar i2 rfl ⟨rfl,trivial⟩ ?_)
  refine ah ⟨?_,rfl⟩
  rw [QA,if_pos ⟨ht,by omega⟩,List.getD_eq_getElem?_getD,List.getElem?_eq_getElem hlt];rfl
 ·have hc:(decide ((x.tgs.length:Int) < ((tV cs x).length:Int)) && decide ((x.tgs.length:Int) < 4))=false:=hc
  have hc:¬ ((x.tgs.length:Int) < ((tV cs x).length:Int)∧(x.tgs.length:Int) < 4):=by
   intro hh
   rw [decide_eq_true hh.1,decide_eq_true hh.2] at hc
   cases hc
  exact ah ⟨by rw [QA,if_neg (fun h=>hc (by omega))],rfl⟩
end Go.Proofs.YtdhobpmnkfmcfaaGreatDoor
namespace Go.Proofs.YtdhobpmnkfmcfaaGreatDoor
open Go Go.Sx
set_option maxRecDepth 100000
set_option maxHeartbeats 1000000
theorem OI {α:Type} {Ts:List α} {n:Nat} (h:Ts.length=n + 1):∃ T,Ts=Ts.take n++[T]∧Ts[n]?=some T:=by
 have hlt:n < Ts.length:=by omega
 refine ⟨Ts[n],?_,List.getElem?_eq_getElem hlt⟩
 have:=List.take_append_drop n Ts
 rw [List.drop_eq_getElem_cons hlt,List.drop_of_length_le (by omega)] at this
 exact this.symm
theorem Vp {w:cP} {b:Bd} {O:Own} (ho:OwnBS tys w b O) {l:List It} {x:It} (hl:b.stack=l++[x]) :
  ∃ A T s a u,O.Perm (A++T)∧ak (.idx 5) [w.s,iV l.length]=some (.pointer (some a))∧OSl aD 2 s (cO x.tgs) T ∧
   (∀ (H:Heap),Reads H O (.pointer (some a)) 5 [iV x.player,iV x.id,iV x.card,iV x.trig,s]) ∧
   ak (.slc 5 false true false) [w.s,iV l.length]=some u∧OwnB tys { w with s:=u } { b with stack:=l } A:=by
 obtain ⟨A,R,hp,⟨rows,A1,Ts,q1,q2,q3,q4,q5⟩,back⟩:=ho
 have hn:b.stack.length=l.length + 1:=by rw [hl];simp
 have hri:rows[l.length]?=some (rows[l.length]'(by omega)):=List.getElem?_eq_getElem (by omega)
 have hxi:b.stack[l.length]?=some x:=by rw [hl];exact Ku l x
 obtain ⟨T,eT,hT⟩:=OI (Ts:=Ts) (n:=l.length) (by omega)
 obtain ⟨s,e,hs⟩:=q5 _ _ _ _ hri hxi hT
 obtain ⟨u,u1,u2⟩:=q2.upto (i:=l.length) (by omega)
 obtain ⟨a,k1,_⟩:=q2.store (O:=A1) (O2:=[]) (by simp) (k:=.i64) hri
 refine ⟨(A1++List.flatten (Ts.take l.length))++R,T,s,a,u,?_,k1,hs,fun H=>?_,u1,back u l _ ⟨rows.take l.length,A1,Ts.take l.length,List.Perm.refl _,u2,by rw [List.length_take];omega,by rw [List.length_take];omega,fun i r y Ty h1 h2 h3=>?_⟩⟩
 ·have e2:List.flatten Ts=List.flatten (Ts.take l.length)++T:=by
   conv=>lhs;rw [eT]
   rw [List.flatten_append];simp
  rw [e2] at q1
  refine hp.trans ((q1.append_right R).trans ?_)
  rw [List.append_assoc,List.append_assoc,List.append_assoc,List.append_assoc]
  refine List.Perm.append_left A1 ?_
  refine List.Perm.append_left _ ?_
  exact List.perm_append_comm
 ·obtain ⟨a',i1,_,i2,i3⟩:=q2.idx (fun p h=>hp.mem_iff.2 (List.mem_append_left _ (q1.mem_iff.2 (List.mem_append_left _ h)))) H (k:=.i64) hri
  have:a'=a:=by
   rw [k1] at i1
   simpa using i1.symm
  subst this
  rw [e] at i2
  exact i2
 ·have hil:i < l.length:=(List.getElem?_eq_some_iff.1 h2).1
  rw [List.getElem?_take,if_pos hil] at h1 h3
  have h2':b.stack[i]?=some y:=by rw [hl,List.getElem?_append_left hil];exact h2
  obtain ⟨s',e',k⟩:=q5 i r y Ty h1 h2' h3
  exact ⟨s',e',.inl k⟩
def Jf (b:Bd):It:=b.stack.getLast?.getD zIt
theorem PO {b:Bd} {l:List It} {x:It} (hl:b.stack=l++[x]):Jf b=x:=by simp [Jf,hl]
def Oe (b:Bd):Bd × Int:=if ay b=false then (zBd,2) else if b.stack=[] then (zBd,9) else if (Jf b).trig=-1 then ((fE b (Jf b).id 3).1,0) else ({ b with stack:=b.stack.dropLast },0)
def Of (b:Bd):It:=if ay b=false then zIt else Jf b
theorem XF {H:Heap} {v:cP} {b:Bd} (h:BdS H v b) (hB:bdB b) :
  Triple PP yL [.agg (ap v b).toArray] H [] fun r _ O'=>∃ w s A T,r=.tuple #[.agg (ap w (Oe b).1).toArray,.agg #[iV (Of b).player,iV (Of b).id,iV (Of b).card,iV (Of b).trig,s],iV (Oe b).2] ∧
   O'.Perm (A++T)∧OwnB tys w (Oe b).1 A∧OSl aD 2 s (cO (Of b).tgs) T:=by
 by_cases hv:ay b=true
 case neg =>
  have hv:ay b=false:=by simpa using hv
  have e:Oe b=(zBd,2):=by rw [Oe,if_pos hv]
  have e2:Of b=zIt:=by rw [Of,if_pos hv]
  rw [e,e2]
  refine (Vq h hv).mono ?_
  rintro r H' O' _ ⟨rfl,rfl⟩
  exact ⟨BJ,.slice none 0 0,[],[],rfl,List.Perm.refl _,OwnB.zero tys,OSl.nil _ _⟩
 have e2:Of b=Jf b:=by rw [Of,if_neg (by rw [hv];simp)]
 refine yX (vs:=ap v b) (by kernel_rfl) (ao (h.r [])) ?_
 simp only [tj]
 have h200:=DG hv
 refine af fun r0=>af fun r1=>af fun r2=>?_
 refine aa ?_
 refine ai (dY (h.r [])) rfl ⟨rfl,trivial⟩ fun H1 l1=>?_
 rw [hv]
 have h:=h.le l1
 have slen:ak .len [v.s]=some (iV b.stack.length):=ItsR.len (h.stack.r [])
 refine ab _ (aN _) (aj (fun hd=>by cases hd) (fun _=>?_))
 refine aa ?_
 refine ab _ slen ?_
 refine ab _ (aA _ _) (aj (fun h0=>?_) (fun h0=>?_))
 ·have h0:b.stack=[]:=List.length_eq_zero_iff.1 (by have:(b.stack.length:Int)=0:=(by simpa using h0);omega)
  have e:Oe b=(zBd,9):=by rw [Oe,if_neg (by rw [hv];simp),if_pos h0]
  have e3:Jf b=zIt:=by simp [Jf,h0]
  rw [e,e2,e3]
  refine aa (aa (aa (aa ?_)))
  exact ah ⟨BJ,.slice none 0 0,[],[],rfl,List.Perm.refl _,OwnB.zero tys,OSl.nil _ _⟩
 have hne:b.stack ≠ []:=fun e=>by rw [e] at h0;simp at h0
 obtain ⟨l,x,hl⟩:=Ug hne
 have hlen:b.stack.length=l.length + 1:=by rw [hl];simp
 have hxf:=Ah hv (x:=x) (by rw [hl];simp)
 have hxid:i64 x.id:=by
  simp only [dz,aw,Bool.and_eq_true,decide_eq_true_eq] at hxf
  constructor <;> omega
 have esub:((b.stack.length:Int) - 1)=(l.length:Int):=by omega
 have etop:=PO hl
 rw [e2,etop]
 refine aa ?_
 refine ax (RU h hB) ?_
 rintro _ H4 O4 ⟨w,rfl,ho⟩ l4
 refine ⟨ap w b,rfl,bq H4 ho.weak,?_⟩
 rw [List.append_nil]
 have h:=h.le l4
 obtain ⟨A,T,s4,a4,u,p1,i1,hs4,rd,hu,hpop⟩:=Vp ho hl
 refine af fun r3=>?_
 refine aa (aa ?_)
 refine ab _ (I5 (by omega) (by omega)) ?_
 rw [esub]
 refine ab _ i1 (ar (rd H4) rfl ⟨rfl,rfl,rfl,rfl,hs4.one,trivial⟩ (af fun r4=>?_))
 refine aa (aa ?_)
 refine ab _ (aA _ _) (aj (fun ht=>?_) (fun ht=>?_))
 ·have ht:x.trig=-1:=by simpa using ht
  have e:Oe b=((fE b x.id 3).1,0):=by rw [Oe,if_neg (by rw [hv];simp),if_neg hne,etop,if_pos ht]
  rw [e]
  refine aa (aa ?_)
  refine ax (NQ h hB hxid 3) ?_
  rintro _ H5 O5 ⟨w5,rfl,ho5⟩ l5
  refine ⟨ap w5 (fE b x.id 3).1++[iV (fE b x.id 3).2],rfl,az (bq H5 ho5) ⟨rfl,trivial⟩,?_⟩
  repeat (first | refine aa ?_ | refine ae ?_ | refine aC rfl ?_)
  refine AC (O':=O5++T) (Y:=A) ?_ ⟨w5,s4,O5,T,rfl,List.Perm.refl _,ho5,hs4⟩
  rw [List.append_assoc]
  exact (p1.trans List.perm_append_comm).append_left O5
 ·have ht:x.trig ≠ -1:=by simpa using ht
  have e:Oe b=({ b with stack:=l },0):=by rw [Oe,if_neg (by rw [hv];simp),if_neg hne,etop,if_neg ht,hl,List.dropLast_concat]
  rw [e]
  refine aa ?_
  refine ab _ (I5 (by omega) (by omega)) ?_
  rw [esub]
  refine ab _ hu ?_
  repeat (first | refine aa ?_ | refine ae ?_ | refine aC rfl ?_)
  exact ah ⟨{ w with s:=u },s4,A,T,rfl,p1,hpop,hs4⟩
def bK (b:Bd) (id:Int):Bd × Int:=if (be b id == 2)=true then (zBd,2) else if (be b id != 0 || (tU b id).2.1 != 4)=true then (zBd,9) else fE b id 3
theorem KC {H:Heap} {v:cP} {b:Bd} (h:BdS H v b) (hB:bdB b) {id:Int} (hid:i64 id):Triple PP wz [.agg (ap v b).toArray,iV id] H [] fun r _ O'=>∃ w,r=.tuple #[.agg (ap w (bK b id).1).toArray,iV (bK b id).2]∧OwnB tys w (bK b id).1 O':=by
 refine Au (vs:=ap v b++[iV id]) (by kernel_rfl) (az (ao (h.r [])) ⟨rfl,trivial⟩) ?_
 simp only [o7]
 refine af fun r0=>af fun r1=>?_
 refine aa ?_
 refine ai (IS h hid []) rfl (vs:=Ia (tU b id)++[iV (be b id)]) ⟨rfl,rfl,rfl,rfl,trivial⟩ fun H1 l1=>af fun r2=>?_
 have h:=h.le l1
 refine aa ?_
 refine ab _ (aA _ _) (aj (fun hb=>?_) (fun hb=>?_))
 ·have hb:(be b id == 2)=true:=hb
  have e:bK b id=(zBd,2):=by rw [bK,if_pos hb]
  have e2:be b id=2:=by simpa using hb
  rw [e,e2]
  refine aa (aa ?_)
  exact ah ⟨BJ,rfl,OwnB.zero tys⟩
 have hb:(be b id == 2)=false:=hb
 refine ab _ (bf _ _) ?_
 refine aa (ae (ae ?_))
 refine ab _ (bf _ _) ?_
 refine ae ?_
 refine ab _ (aS _ _) (aj (fun hc=>?_) (fun hc=>?_))
 ·have e:bK b id=(zBd,9):=by rw [bK,if_neg (by rw [hb];simp),if_pos hc]
  rw [e]
  refine aa (aa ?_)
  exact ah ⟨BJ,rfl,OwnB.zero tys⟩
 have hc:(be b id != 0 || (tU b id).2.1 != 4)=false:=hc
 have e:bK b id=fE b id 3:=by rw [bK,if_neg (by rw [hb];simp),if_neg (by rw [hc];simp)]
 rw [e]
 refine aa ?_
 refine ax (NQ h hB hid 3) ?_
 rintro _ H5 O5 ⟨w5,rfl,ho5⟩ l5
 refine ⟨ap w5 (fE b id 3).1++[iV (fE b id 3).2],rfl,az (bq H5 ho5) ⟨rfl,trivial⟩,?_⟩
 rw [List.append_nil]
 refine aa (aa ?_)
 exact ah ⟨w5,rfl,ho5⟩
end Go.Proofs.YtdhobpmnkfmcfaaGreatDoor
namespace Go.Proofs.YtdhobpmnkfmcfaaGreatDoor
open Go Go.Sx
set_option maxRecDepth 100000
set_option maxHeartbeats 1000000
def szS (n:Nat) (s:St):Prop:=s.lib.length≤n∧s.hand.length≤n∧s.field.length≤n∧s.grave.length≤n
def szI (n:Nat) (l:List It):Prop:=l.length≤n∧∀ x ∈ l,x.tgs.length≤n
def szB (n:Nat) (b:Bd):Prop:=b.objs.length≤n∧szS n b.s0∧szS n b.s1∧szI n b.stack∧szI n b.queue∧b.att.length≤n∧b.blocks.length≤n
theorem szS.le {n m:Nat} {s:St} (h:szS n s) (hm:n≤m):szS m s:=⟨Nat.le_trans h.1 hm,Nat.le_trans h.2.1 hm,Nat.le_trans h.2.2.1 hm,Nat.le_trans h.2.2.2 hm⟩
theorem szI.le {n m:Nat} {l:List It} (h:szI n l) (hm:n≤m):szI m l:=⟨Nat.le_trans h.1 hm,fun x hx=>Nat.le_trans (h.2 x hx) hm⟩
theorem szB.le {n m:Nat} {b:Bd} (h:szB n b) (hm:n≤m):szB m b :=
 ⟨Nat.le_trans h.1 hm,szS.le h.2.1 hm,szS.le h.2.2.1 hm,szI.le h.2.2.2.1 hm,szI.le h.2.2.2.2.1 hm,Nat.le_trans h.2.2.2.2.2.1 hm,Nat.le_trans h.2.2.2.2.2.2 hm⟩
theorem Xo {n:Nat} {b:Bd} (h:szB n b) (hn:n≤100000):bdB b:=by
 obtain ⟨a1,a2,a3,a4,a5,a6,a7⟩:=szB.le h (show n≤1000000 by omega)
 exact ⟨a1,a2,a3,a4,a5,a6,a7⟩
theorem PW {n:Nat} {b:Bd} (h:szB n b) (hn:n≤100000):IW b:=by
 obtain ⟨_,a2,a3,a4,_⟩:=szB.le h hn
 exact ⟨a2,a3,a4.1⟩
theorem ME {b:Bd} (h:fw b=true):szB 40 b:=by
 simp only [fw,im,nW,Bool.and_eq_true,Bool.not_eq_true',decide_eq_false_iff_not,decide_eq_true_eq,List.all_eq_true] at h
 obtain ⟨⟨a1,a2,a3,a4⟩,⟨b1,b2,b3,b4⟩,⟨c1,c2⟩,⟨d1,d2⟩,⟨e1,e2⟩,e3⟩:=h
 refine ⟨by omega,⟨by omega,by omega,by omega,by omega⟩,⟨by omega,by omega,by omega,by omega⟩,⟨by omega,fun x hx=>?_⟩,⟨by omega,fun x hx=>?_⟩,by omega,by omega⟩
 ·have:=c2 x hx;omega
 ·have:=d2 x hx;omega
theorem szI.app {n:Nat} {l:List It} (h:szI n l) {x:It} (hx:x.tgs.length≤n + 1):szI (n + 1) (l++[x]):=by
 refine ⟨by have:=h.1;simp;omega,fun y hy=>?_⟩
 rcases List.mem_append.1 hy with hy | hy
 ·have:=h.2 y hy;omega
 ·rw [List.mem_singleton.1 hy];exact hx
theorem Ws {n:Nat} {b:Bd} (h:szB n b) (id:Int):szB n (xi b id):=by
 obtain ⟨a1,a2,a3,a4,a5,a6,a7⟩:=h
 have hw:∀ {l:List Int},l.length≤n→(du l id).length≤n:=fun h=>Nat.le_trans (List.length_filter_le _ _) h
 exact ⟨a1,⟨hw a2.1,hw a2.2.1,hw a2.2.2.1,hw a2.2.2.2⟩,⟨hw a3.1,hw a3.2.1,hw a3.2.2.1,hw a3.2.2.2⟩,⟨Nat.le_trans (List.length_filter_le _ _) a4.1,fun x hx=>a4.2 x (List.mem_filter.1 hx).1⟩,a5,hw a6,Nat.le_trans (List.length_filter_le _ _) a7⟩
theorem PU {n:Nat} {s:St} (h:szS n s) (z id:Int):szS (n + 1) (Vm s z id):=by
 obtain ⟨h1,h2,h3,h4⟩:=h
 simp only [Vm]
 split
 ·exact ⟨by simp;omega,by show s.hand.length≤n + 1;omega,by show s.field.length≤n + 1;omega,by show s.grave.length≤n + 1;omega⟩
 split
 ·exact ⟨by show s.lib.length≤n + 1;omega,by simp;omega,by show s.field.length≤n + 1;omega,by show s.grave.length≤n + 1;omega⟩
 split
 ·exact ⟨by show s.lib.length≤n + 1;omega,by show s.hand.length≤n + 1;omega,by simp;omega,by show s.grave.length≤n + 1;omega⟩
 split
 ·exact ⟨by show s.lib.length≤n + 1;omega,by show s.hand.length≤n + 1;omega,by show s.field.length≤n + 1;omega,by simp;omega⟩
 ·exact ⟨by omega,by omega,by omega,by omega⟩
theorem UY {n:Nat} {b:Bd} (h:szB n b) (k:Nat) (o:Ob) (z:Int):szB (n + 1) (JL b k o z):=by
 obtain ⟨a1,a2,a3,a4,a5,a6,a7⟩:=Ws h o.id
 simp only [JL,rU,bH,au]
 split
 ·exact ⟨by simp only [dw,List.length_set];omega,PU a2 _ _,szS.le a3 (by omega),szI.le a4 (by omega),szI.le a5 (by omega),Nat.le_trans a6 (by omega),Nat.le_trans a7 (by omega)⟩
 ·exact ⟨by simp only [dw,List.length_set];omega,szS.le a2 (by omega),PU a3 _ _,szI.le a4 (by omega),szI.le a5 (by omega),Nat.le_trans a6 (by omega),Nat.le_trans a7 (by omega)⟩
theorem MA {n:Nat} {b:Bd} (h:szB n b) (id z:Int):szB (n + 1) (fE b id z).1:=by
 have hz:szB (n + 1) zBd:=⟨Nat.zero_le _,⟨Nat.zero_le _,Nat.zero_le _,Nat.zero_le _,Nat.zero_le _⟩,⟨Nat.zero_le _,Nat.zero_le _,Nat.zero_le _,Nat.zero_le _⟩,⟨Nat.zero_le _,fun x hx=>by cases hx⟩,⟨Nat.zero_le _,fun x hx=>by cases hx⟩,Nat.zero_le _,Nat.zero_le _⟩
 rw [fE]
 split
 ·exact hz
 split
 ·exact hz
 ·exact UY h _ _ _
end Go.Proofs.YtdhobpmnkfmcfaaGreatDoor
namespace Go.Proofs.YtdhobpmnkfmcfaaGreatDoor
open Go Go.Sx
set_option maxRecDepth 100000
set_option maxHeartbeats 1000000
section
variable {b:Bd} {k j:Nat} {o:Ob} {ts:List Tg}
variable (hk:b.objs[k]?=some o)
include hk
end
end Go.Proofs.YtdhobpmnkfmcfaaGreatDoor
namespace Go.Proofs.YtdhobpmnkfmcfaaGreatDoor
open Go Go.Sx
set_option maxRecDepth 100000
set_option maxHeartbeats 1000000
theorem PK {b:Bd} (h:ay b=true) (id:Int):be b id=0∨be b id=9:=by
 rw [be,if_pos h];split
 ·exact .inr rfl
 ·exact .inl rfl
theorem Ut {b:Bd} (hv:ay b=true) {k:Nat} {o:Ob} (e1:b.objs[k]?=some o) (z:Int) (hz:z=0∨z=1∨z=2∨z=3):fE b o.id z=(OD b k (cL o z) z,0):=by
 have e3:=(eC (aY hv).1 e1).2.2.1
 have hE0:be b o.id=0:=by
  have:¬ eX b o.id < 0:=by omega
  simp [be,hv,this]
 have hEne:(be b o.id != 0)=false:=by rw [hE0];rfl
 have hfo:=sH hEne e1 e3
 have emr:OD b k (cL o z) z=JL b k (cL o z) z:=by
  show rU (dw (M1 b o.id) k _) o.owner z o.id=rU (dw (xi b o.id) k _) o.owner z o.id
  rw [Ln hv]
 have hzw:aw z 0 3=true:=by simp only [aw,decide_eq_true_eq];omega
 rw [fE,if_neg (by rw [hE0,hzw];decide),if_neg (by rw [hEne];simp),hfo,e3,emr];rfl
theorem AH {H:Heap} {v:cP} {b:Bd} (h:BdS H v b) (hv:ay b=true) (hB:bdB b) {k:Nat} {o:Ob} (hk:b.objs[k]?=some o) (z:Int) (hz:z=0∨z=1∨z=2∨z=3) :
  Triple PP kq [.agg (ap v b).toArray,iV o.id,iV z] H [] fun r H' O'=>(∃ w,r=.agg (ap w (fE b o.id z).1).toArray∧BdS H' w (fE b o.id z).1)∧O'=[]:=by
 rw [Ut hv hk z hz]
 obtain ⟨_,_,e3,hown⟩:=eC (aY hv).1 hk
 exact Qs h hB hk e3 hown z
theorem Jy {H:Heap} {v:cP} {b:Bd} (h:BdS H v b) (hv:ay b=true) (hB:bdB b) {id:Int}:Triple PP lV [.agg (ap v b).toArray,iV id] H [] fun r H' O'=>(∃ w,r=.tuple #[.agg (ap w (bK b id).1).toArray,iV (bK b id).2]∧BdS H' w (bK b id).1)∧O'=[]:=by
 refine qY (vs:=ap v b++[iV id]) (by kernel_rfl) (az (ao (h.r [])) ⟨rfl,trivial⟩) ?_
 simp only [gz]
 refine af fun r0=>af fun r1=>?_
 obtain ⟨w1,w2⟩:=SC hv id
 refine aa ?_
 refine ai (Vf (h.r []) id) rfl (vs:=Ia (Jl (ia (onR id) b id))++[iV (GH (ia (onR id) b id))]) ⟨rfl,rfl,rfl,rfl,trivial⟩ fun H1 l1=>af fun r2=>?_
 rw [← w1,← w2]
 have h:=h.le l1
 have hn2:¬ (be b id == 2)=true:=by
  rcases PK hv id with e | e <;> rw [e] <;> decide
 refine aa ?_
 refine ab _ (bf _ _) ?_
 refine aa (ae (ae ?_))
 refine ab _ (bf _ _) ?_
 refine ae ?_
 refine ab _ (aS _ _) (aj (fun hc=>?_) (fun hc=>?_))
 ·have e:bK b id=(zBd,9):=by rw [bK,if_neg hn2,if_pos hc]
  rw [e]
  refine aa (aa ?_)
  exact ah ⟨⟨BJ,rfl,DY _⟩,rfl⟩
 have hc:(be b id != 0 || (tU b id).2.1 != 4)=false:=hc
 have e:bK b id=fE b id 3:=by rw [bK,if_neg hn2,if_neg (by rw [hc];simp)]
 rw [Bool.or_eq_false_iff] at hc
 obtain ⟨_,k,o,e1,e2,e3,e4⟩:=oP hc.1
 have hmv:=AH h hv hB e1 3 (by omega)
 have ez:(fE b o.id 3).2=0:=by rw [Ut hv e1 3 (by omega)]
 rw [e2] at hmv ez
 rw [e]
 refine aa ?_
 refine ax hmv ?_
 rintro _ H5 _ ⟨⟨w5,rfl,h5⟩,rfl⟩ l5
 refine ⟨ap w5 (fE b id 3).1,rfl,ao (h5.r []),?_⟩
 refine aa (aa ?_)
 exact ah ⟨⟨w5,by rw [ez];rfl,h5⟩,rfl⟩
end Go.Proofs.YtdhobpmnkfmcfaaGreatDoor
namespace Go.Proofs.YtdhobpmnkfmcfaaGreatDoor
open Go Go.Sx
set_option maxRecDepth 100000
set_option maxHeartbeats 1000000
structure Ac where
 (what id:Int)
 x:It
 t:Tg
def XK (a:Ac) (s:Value):List Value:=[iV a.what,iV a.id,iV a.x.player,iV a.x.id,iV a.x.card,iV a.x.trig,s,iV a.t.id,iV a.t.player]
def ActsS (H:Heap) (v:Value) (l:List Ac):Prop:=∃ rows,Sl H 9 v rows∧rows.length=l.length∧∀ (i:Nat) (r:List Value) (a:Ac),rows[i]?=some r→l[i]?=some a→i64 a.id∧∃ s,r=XK a s∧Sl H 2 s (cO a.x.tgs)
theorem ActsS.le {H H':Heap} {v:Value} {l:List Ac} (h:ActsS H v l) (hl:Heap.le H H'):ActsS H' v l :=
 let ⟨rows,h1,h2,h3⟩:=h;⟨rows,h1.le hl,h2,fun i r x a b=>let ⟨k0,s,e,k⟩:=h3 i r x a b;⟨k0,s,e,k.le hl⟩⟩
theorem ActsS.len {H:Heap} {v:Value} {l:List Ac} (h:ActsS H v l):ak .len [v]=some (iV l.length):=by
 obtain ⟨rows,h1,h2,_⟩:=h
 rw [← h2];exact h1.len
theorem ActsS.one {H:Heap} {v:Value} {l:List Ac} (h:ActsS H v l):v.oneCell'=true:=by
 obtain ⟨rows,h1,_⟩:=h
 exact h1.one
section
variable {H:Heap} {cv:Value} {cs:List CdX} (hk:CardsX H cv cs) (hli:eD (cs.map CdX.base)=true) {v u:cP} {b:Bd} (h:BdS H v b) (hu:BdS H u b) (hv:ay b=true) (hB:bdB b) (hfit:IW b)
 {r1 r2 r3 r4 r5 r6 r7 r8:Nat} {l0 l1 l2:List Value} {n m:Nat} (q0:g l0 0=cv) (q1:ag (G38 l0 1)=.agg (ap v b).toArray) (q2:ag (G38 l1 0)=.agg (ap u b).toArray)
include hk hli h hu hv hB hfit q0 q1 q2
end
section
variable {H:Heap} {v u:cP} {b:Bd} (h:BdS H v b) (hu:BdS H u b) (hv:ay b=true) (hB:bdB b)
 {r1 r2 r3 r4 r5 r6 r7 r8:Nat} {l0 l1:List Value} {n:Nat} (q1:ag (G38 l0 1)=.agg (ap v b).toArray) (q2:ag (G38 l1 0)=.agg (ap u b).toArray)
include h hu hv hB q1 q2
end
end Go.Proofs.YtdhobpmnkfmcfaaGreatDoor
namespace Go.Proofs.YtdhobpmnkfmcfaaGreatDoor
open Go Go.Sx
set_option maxRecDepth 100000
set_option maxHeartbeats 1000000
end Go.Proofs.YtdhobpmnkfmcfaaGreatDoor
namespace Go.Proofs.YtdhobpmnkfmcfaaGreatDoor
open Go Go.Sx
set_option maxRecDepth 100000
set_option maxHeartbeats 1000000
section
variable {b:Bd} (hv:ay b=true) {n:Nat} (hsz:szB n b)
include hv hsz
end
end Go.Proofs.YtdhobpmnkfmcfaaGreatDoor
namespace Go.Proofs.YtdhobpmnkfmcfaaGreatDoor
open Go Go.Sx
set_option maxRecDepth 100000
set_option maxHeartbeats 1000000
theorem iu (x y:Int):ak .min2 [iV x,iV y]=some (iV (min x y)):=by
 simp only [ak];congr 2;omega
theorem md (x y:Int):ak .max2 [iV x,iV y]=some (iV (max x y)):=by
 simp only [ak];congr 2;omega
theorem sM {x y:Int} (h1:-9223372036854775808≤x + y) (h2:x + y < 9223372036854775808):ak (.bin .add .int) [iV x,iV y]=some (iV (x + y)):=by
 simp only [ak,fC,eP,if_true]
 rw [ij (by omega) (by omega)]
def UT (p:Int):Int:=max 0 (min p 99)
theorem WE {H:Heap} {O:Own} (p:Int):RetO PP lK [iV 0,iV p] H O (iV (UT p)):=by
 refine ni (vs:=[iV 0,iV p]) (by kernel_rfl) ⟨rfl,rfl,trivial⟩ ?_
 simp only [gX]
 refine ab _ (iu _ _) (ab _ (md _ _) (ab _ (iu _ _) (ab _ (md _ _) (ab _ (sM ?_ ?_) (ab _ (iu _ _) (ah ⟨?_,rfl⟩))))))
 ·omega
 ·omega
 ·rw [UT];congr 1;omega
theorem Ph {H:Heap} {O:Own} {p:Int} (h0:0≤p) (hp:p < 9223372036854775808):RetO PP Bz [iV 0,iV p] H O (iV p):=by
 refine BG (vs:=[iV 0,iV p]) (by kernel_rfl) ⟨rfl,rfl,trivial⟩ ?_
 simp only [wY]
 refine ab _ (sM (by omega) (by omega)) (ab _ (bG _ _) ?_)
 refine ae ?_
 refine ab _ (bG _ _) ?_
 refine ae ?_
 refine ab _ (aX _ _) ?_
 refine ae ?_
 refine ab _ (fJ _ _) ?_
 refine ae ?_
 refine ab _ (aX _ _) (aj (fun hb=>by simp at hb) (fun _=>?_))
 refine ab _ (aJ _ _) ?_
 refine ae ?_
 refine ab _ (aJ _ _) ?_
 refine ae ?_
 refine ab _ (aX _ _) ?_
 refine ae ?_
 refine ab _ (di _ _) ?_
 refine ae ?_
 refine ab _ (aX _ _) (aj (fun hb=>by simp at hb) (fun _=>?_))
 exact ah ⟨by rw [Int.zero_add],rfl⟩
theorem LV {H:Heap} {O:Own} (p m:Int):RetO PP FZ [iV p,iV m] H O (iV (max 0 (min p m))):=by
 refine Ie (vs:=[iV p,iV m]) (by kernel_rfl) ⟨rfl,rfl,trivial⟩ ?_
 simp only [yz]
 exact ab _ (iu _ _) (ab _ (md _ _) (ah ⟨rfl,rfl⟩))
theorem RB {H:Heap} {O:Own} {p:Int} (h0:0≤p) (hp:p < 9223372036854775808):RetO PP F2 [iV 0,iV p,iV 99] H O (iV (UT p)):=by
 refine Ec (vs:=[iV 0,iV p,iV 99]) (by kernel_rfl) ⟨rfl,rfl,rfl,trivial⟩ ?_
 simp only [zI]
 exact ai (Ph h0 hp) rfl ⟨rfl,trivial⟩ fun _ _=>ai (LV p 99) rfl ⟨rfl,trivial⟩ fun _ _=>ah ⟨rfl,rfl⟩
theorem UJ {H:Heap} {O:Own} {p:Int} (hp:p < 9223372036854775808):RetO PP tO [iV 0,iV p] H O (iV (UT p)):=by
 refine vq (vs:=[iV 0,iV p]) (by kernel_rfl) ⟨rfl,rfl,trivial⟩ ?_
 simp only [oh]
 refine ab _ (md _ _) (ab _ (md _ _) ?_)
 rw [show max (0:Int) 0=0 by omega]
 refine ai (RB (p:=max 0 p) (by omega) (by omega)) rfl ⟨rfl,trivial⟩ fun _ _=>ah ⟨?_,rfl⟩
 show iV _=iV _
 congr 1;simp only [UT];omega
def Py (id p pw tn:Int) (sick:Bool):Ob:={ zO with id:=id,card:=-1,owner:=p,power:=UT pw,tough:=UT tn,sick:=sick }
theorem Gu {H:Heap} {O:Own} {id p pw tn:Int} (h1:pw < 9223372036854775808) (h2:tn < 9223372036854775808):RetO PP xW [iV id,iV p,iV pw,iV tn] H O (.agg (Py id p pw tn false).row.toArray):=by
 refine CN (vs:=[iV id,iV p,iV pw,iV tn]) (by kernel_rfl) ⟨rfl,rfl,rfl,rfl,trivial⟩ ?_
 simp only [qJ]
 refine af fun r0=>ai (UJ h1) rfl ⟨rfl,trivial⟩ fun _ _=>ai (UJ h2) rfl ⟨rfl,trivial⟩ fun _ _=>?_
 refine aa (aa ?_)
 exact ah ⟨rfl,rfl⟩
end Go.Proofs.YtdhobpmnkfmcfaaGreatDoor
namespace Go.Proofs.YtdhobpmnkfmcfaaGreatDoor
open Go Go.Sx
set_option maxRecDepth 100000
set_option maxHeartbeats 1000000
theorem Wm:∀ k:Nat,k < 64→(bruijn.drop (2 ^ k * 285870213051353865 % 2 ^ 64 / 2 ^ 58)).take 1=[(k:Int)]:=by decide +kernel
theorem Xz (a b:Nat):ak (.bin .mul .int) [uV a,uV b]=some (uV (a * b % 2 ^ 64)):=by
 show some (Value.int .u64 (IntKind.u64.wrap ((a:Int) * b)))=_
 congr 2
theorem Xr (a:Nat):ak (.bin .shr .int) [uV a,uV 58]=some (uV (a / 2 ^ 58)):=by
 show some (Value.int .u64 ((a:Int).fdiv (2 ^ 58)))=_
 congr 2
 rw [Int.fdiv_eq_ediv_of_nonneg _ (by omega)]
 omega
theorem Yl {H:Heap} (hgl:GlobOk AT H) (O:Own) {x k m:Nat} (hx:x < 2 ^ 64) (hk:k < 64) (e:x=2 ^ k * (2 * m + 1)):RetO PP eJ [uV x] H O (iV k):=by
 have hp:=Nat.two_pow_pos k
 have h0:0 < x:=by rw [e];exact Nat.mul_pos hp (by omega)
 have hpk:2 ^ k < 2 ^ 64:=Nat.pow_lt_pow_right (by omega) hk
 have t2:=Wm k hk
 have t1:=Xz (2 ^ k) 285870213051353865
 refine gf (vs:=[uV x]) (by kernel_rfl) ⟨rfl,trivial⟩ ?_
 simp only [dc]
 refine ab _ (WO x 0) (aj (fun hb=>?_) (fun _=>?_))
 ·have:x=0:=by simpa using hb
  omega
 ·refine ab _ (Xy hx h0) (ab _ (W4 hx (by omega)) ?_)
  rw [VH hx e]
  generalize hM:2 ^ k * 285870213051353865 % 2 ^ 64=M at t1 t2
  have hM64:M < 2 ^ 64:=by rw [← hM];exact Nat.mod_lt _ (by omega)
  have hi:M / 2 ^ 58 < 64:=by omega
  refine ab _ t1 (ab _ (Xr M) ?_)
  have hpi:ak (.pidx 64 1) [.pointer (some ⟨0,0,none⟩),uV (M / 2 ^ 58)]=some (.pointer (some ⟨0,M / 2 ^ 58,none⟩)):=by
   show (if (0:Int)≤((M / 2 ^ 58:Nat):Int)∧((M / 2 ^ 58:Nat):Int) < (64:Nat) then some (Value.pointer (some (Addr.add ⟨0,0,none⟩ (((M / 2 ^ 58:Nat):Int).toNat * 1)))) else none)=_
   rw [if_pos ⟨by omega,by omega⟩,Int.toNat_natCast,Nat.mul_one,Addr.add]
   by_cases h:M / 2 ^ 58=0
   ·rw [if_pos h,h]
   ·rw [if_neg h];simp
  have hrd:H.read (.pointer (some ⟨0,M / 2 ^ 58,none⟩)) 1=some [Value.int .u8 k]:=by
   have:=(hgl 0 (bruijn.map fun n=>Value.int .u8 n) rfl).2 (M / 2 ^ 58) 1 (by rw [List.length_map];show _≤64;omega)
   rw [this,← List.map_drop,← List.map_take,t2];rfl
  refine ab _ hpi (cT hrd rfl ⟨rfl,trivial⟩ (ab (iV k) ?_ (ah ⟨rfl,rfl⟩)))
  show some (Value.int .i64 (IntKind.i64.wrap (k:Int)))=_
  rw [ij (by omega) (by omega)]
theorem XB {H:Heap} (O:Own):RetO PP eJ [uV 0] H O (iV 64):=by
 refine gf (vs:=[uV 0]) (by kernel_rfl) ⟨rfl,trivial⟩ ?_
 simp only [dc]
 exact ab _ (WO 0 0) (aj (fun _=>ah ⟨rfl,rfl⟩) (fun hb=>by simp at hb))
def F9 (ws:List Nat):List (List Value):=ws.map fun w=>[uV w]
def W7 (p:Value) (ws:List Nat) (O:Own):Prop :=
 ∃ r s A,p=.pointer (some ⟨r,0,none⟩)∧O=(r,.cells #[iV 500,s] bj (0,0))::A∧OSl zF 1 s (F9 ws) A
theorem zC {r:Nat} {s:Value} {A:Own} {H:Heap}:Reads H ((r,.cells #[iV 500,s] bj (0,0))::A) (.pointer (some ⟨r,0,none⟩)) 1 [iV 500] :=
 .inr ⟨⟨r,0,none⟩,_,_,rfl,rfl,List.mem_cons_self,rfl,rfl⟩
theorem FC {r:Nat} {s:Value} {A:Own} {H:Heap}:Reads H ((r,.cells #[iV 500,s] bj (0,0))::A) (aU (.pointer (some ⟨r,0,none⟩)) 1) 1 [s] :=
 .inr ⟨⟨r,1,none⟩,_,_,rfl,rfl,List.mem_cons_self,rfl,rfl⟩
theorem TR {H:Heap}:Triple PP F3 [iV 500] H [] fun v H' O'=>∃ p,v=.tuple #[p,iV 0]∧W7 p (List.replicate 8 0) O':=by
 refine If (vs:=[iV 500]) (by kernel_rfl) ⟨rfl,trivial⟩ ?_
 simp only [yD]
 refine ab _ (aJ _ _) (ae (ab _ (aJ _ _) (ae (ab _ (aJ _ _) ?_))))
 refine aj (fun hb=>by simp at hb) (fun _=>?_)
 refine ab (iV 564) (by kernel_rfl) ?_
 refine ab (iV 563) (by kernel_rfl) ?_
 refine ab (iV (8:Nat)) (by kernel_rfl) ?_
 refine Tz (n:=8) (elem:=zF) (z:=uV 0) (by kernel_rfl) (by kernel_rfl) (by kernel_rfl) (by kernel_rfl) rfl (by omega) fun s A hs=>?_
 refine af fun r0=>?_
 exact fun _=>⟨H,_,Ghost.refl _ _,_,rfl,r0,s,A,rfl,by simp [BV.obj,g],hs⟩
theorem UI {H:Heap} {r:Nat} {s:Value} {A:Own} (hs:s.oneCell'=true):RetO PP uc [.pointer (some ⟨r,0,none⟩)] H ((r,.cells #[iV 500,s] bj (0,0))::A) (.bool false):=by
 refine y2 (vs:=[.pointer (some ⟨r,0,none⟩)]) (by kernel_rfl) ⟨rfl,trivial⟩ ?_
 simp only [na]
 refine ab (.bool false) rfl ?_
 refine aC rfl (ae (aC rfl (ae (ae ?_))))
 refine ⟨[iV 500],rfl,⟨rfl,trivial⟩,fun _=>zC,?_⟩
 refine ae (ab _ (aA _ _) (ae (ab _ (aA _ _) ?_)))
 exact ah ⟨rfl,rfl⟩
end Go.Proofs.YtdhobpmnkfmcfaaGreatDoor
namespace Go.Proofs.YtdhobpmnkfmcfaaGreatDoor
open Go Go.Sx
set_option maxRecDepth 100000
set_option maxHeartbeats 1000000
theorem HU {x y:Int} (h1:-9223372036854775808≤x - y) (h2:x - y < 9223372036854775808):ak (.bin .sub .int) [iV x,iV y]=some (iV (x - y)):=by
 simp only [ak,fC,eP,if_true]
 rw [ij (by omega) (by omega)]
abbrev idV (q r:Nat):Value:=iV (((64 * q + r:Nat):Int) + 1)
theorem UB {q r:Nat} (hq:q < 8) (hr:r < 64):ak (.bin .sub .int) [idV q r,iV 1]=some (iV ((64 * q + r:Nat):Int)):=by
 rw [HU (by omega) (by omega)]
 congr 2;omega
theorem WL {q r:Nat} (hq:q < 8) (hr:r < 64):ak (.bin .quo .int) [iV ((64 * q + r:Nat):Int),iV 64]=some (iV (q:Int)):=by
 show some (Value.int .i64 (IntKind.i64.wrap (((64 * q + r) / 64:Nat):Int)))=_
 rw [ij (by omega) (by omega),show (64 * q + r) / 64=q by omega]
theorem WJ {q r:Nat} (hr:r < 64):ak (.bin .rem .int) [iV ((64 * q + r:Nat):Int),iV 64]=some (iV (r:Int)):=by
 show some (Value.int .i64 (((64 * q + r) % 64:Nat):Int))=_
 rw [show (64 * q + r) % 64=r by omega]
theorem yO {ws:List Nat} {q:Nat} (h:q < ws.length):(F9 ws)[q]?=some [uV ws[q]]:=by simp [F9,h]
theorem PG (ws:List Nat) (q w:Nat):(F9 ws).set q [uV w]=F9 (ws.set q w):=by simp [F9,List.map_set]
theorem XD {H:Heap} {r0:Nat} {s:Value} {A:Own} {ws:List Nat} (hs:OSl zF 1 s (F9 ws) A) (hl:ws.length=8) {q r:Nat} (hq:q < 8) (hr:r < 64) {a:Addr} (ha:ak (.idx 1) [s,iV (q:Int)]=some (.pointer (some a))) :
  RetO PP wJ [.pointer (some ⟨r0,0,none⟩),idV q r] H ((r0,.cells #[iV 500,s] bj (0,0))::A) (.tuple #[.pointer (some a),uV (2 ^ r)]):=by
 refine Av (vs:=[.pointer (some ⟨r0,0,none⟩),idV q r]) (by kernel_rfl) ⟨rfl,rfl,trivial⟩ ?_
 simp only [o8]
 refine aC rfl (aC rfl ?_)
 refine ⟨[s],rfl,⟨hs.one,trivial⟩,fun _=>FC,?_⟩
 refine ab _ (UB hq hr) ?_
 refine ab _ (WL hq hr) ?_
 refine ab _ ha ?_
 refine ab _ (UB hq hr) ?_
 refine ab _ (WJ hr) ?_
 refine ab _ (Xs hr) ?_
 exact ah ⟨rfl,rfl⟩
theorem V0 {H:Heap} {r0:Nat} {s:Value} {A:Own} {ws:List Nat} (hs:OSl zF 1 s (F9 ws) A) (hl:ws.length=8) {q r:Nat} (hq:q < 8) (hr:r < 64) (h5:64 * q + r < 500) {a:Addr} (ha:ak (.idx 1) [s,iV (q:Int)]=some (.pointer (some a))) :
  RetO PP rR [.pointer (some ⟨r0,0,none⟩),idV q r] H ((r0,.cells #[iV 500,s] bj (0,0))::A) (.tuple #[.pointer (some a),uV (2 ^ r),iV 0]):=by
 refine yf (vs:=[.pointer (some ⟨r0,0,none⟩),idV q r]) (by kernel_rfl) ⟨rfl,rfl,trivial⟩ ?_
 simp only [ml]
 refine ai (UI hs.one) rfl ⟨rfl,trivial⟩ fun H1 l1=>?_
 refine aj (fun hb=>by cases hb) (fun _=>?_)
 refine ab _ (aJ _ _) ?_
 refine aC rfl (ae (aC rfl (ae (ae ?_))))
 refine ⟨[iV 500],rfl,⟨rfl,trivial⟩,fun _=>zC,?_⟩
 refine ae (ae ?_)
 refine ab _ (bG _ _) ?_
 refine ae ?_
 refine ab _ (aS _ _) ?_
 refine aj (fun hb=>?_) (fun _=>?_)
 ·simp at hb;omega
 ·refine ai (XD hs hl hq hr ha) rfl ⟨rfl,rfl,trivial⟩ fun H2 l2=>?_
  exact ah ⟨rfl,rfl⟩
theorem Vs {w r:Nat} (h:w.testBit r=true):w ||| 2 ^ r=w:=by
 refine Nat.eq_of_testBit_eq fun j=>?_
 rw [Nat.testBit_or,Nat.testBit_two_pow]
 by_cases e:r=j
 ·subst e;rw [h];rfl
 ·rw [decide_eq_false e,Bool.or_false]
theorem V8 {w r:Nat}:(w &&& 2 ^ r != 0)=w.testBit r:=by
 have e:w &&& 2 ^ r=if w.testBit r then 2 ^ r else 0:=by
  refine Nat.eq_of_testBit_eq fun j=>?_
  rw [Nat.testBit_and,Nat.testBit_two_pow]
  by_cases e:r=j
  ·subst e;cases w.testBit r <;> simp
  ·rw [decide_eq_false e,Bool.and_false];split
   ·rw [Nat.testBit_two_pow,decide_eq_false e]
   ·simp
 rw [e]
 have:=Nat.two_pow_pos r
 cases w.testBit r <;> simp
def Fq (ws:List Nat) (q r:Nat):List Nat:=ws.set q (ws.getD q 0 ||| 2 ^ r)
theorem V5 {H:Heap} {p:Value} {O:Own} {ws:List Nat} (h:W7 p ws O) (hl:ws.length=8) (hw:∀ w ∈ ws,w < 2 ^ 64) {q r:Nat} (hr:r < 64) (h5:64 * q + r < 500) :
  Triple PP rS [p,idV q r] H O fun v H' O'=>(∃ e,v=iV e)∧W7 p (Fq ws q r) O':=by
 obtain ⟨r0,s,A,rfl,rfl,hs⟩:=h
 have hq:q < 8:=by omega
 have hql:q < ws.length:=by omega
 have hwq:=hw _ (List.getElem_mem hql)
 have hgd:ws.getD q 0=ws[q]:=by rw [List.getD_eq_getElem?_getD,List.getElem?_eq_getElem hql];rfl
 obtain ⟨a,ha,hst⟩:=hs.store (O:=(r0,.cells #[iV 500,s] bj (0,0))::A) (O2:=[(r0,.cells #[iV 500,s] bj (0,0))]) (by simpa using List.perm_append_comm (l₁:=[(r0,Obj.cells #[iV 500,s] bj (0,0))]) (l₂:=A)) (k:=.i64) (yO hql)
 obtain ⟨a',ha',_,hrd,_⟩:=hs.idx (O:=(r0,.cells #[iV 500,s] bj (0,0))::A) (fun p hp=>List.mem_cons_of_mem _ hp) H (k:=.i64) (yO hql)
 obtain rfl:a'=a:=by rw [ha] at ha';simpa using ha'.symm
 have hrd:∀ H',Reads H' ((r0,.cells #[iV 500,s] bj (0,0))::A) (.pointer (some a')) 1 [uV ws[q]]:=fun H'=>by
  obtain ⟨a2,h2,_,h3,_⟩:=hs.idx (O:=(r0,.cells #[iV 500,s] bj (0,0))::A) (fun p hp=>List.mem_cons_of_mem _ hp) H' (k:=.i64) (yO hql)
  obtain rfl:a2=a':=by rw [h2] at ha;simpa using ha
  exact h3
 refine yg (vs:=[.pointer (some ⟨r0,0,none⟩),idV q r]) (by kernel_rfl) ⟨rfl,rfl,trivial⟩ ?_
 simp only [mn]
 refine ai (V0 hs hl hq hr h5 ha) rfl ⟨rfl,rfl,rfl,trivial⟩ fun H1 l1=>?_
 refine ab _ (bf _ _) ?_
 refine aj (fun hb=>by cases hb) (fun _=>?_)
 refine aC rfl ?_
 refine ⟨[uV ws[q]],rfl,⟨rfl,trivial⟩,fun _=>hrd H1,?_⟩
 have hp2:2 ^ r < 2 ^ 64:=Nat.pow_lt_pow_right (by omega) hr
 refine ab _ (W4 hwq hp2) ?_
 refine ab _ (Vz _ 0) ?_
 refine aj (fun hb=>?_) (fun _=>?_)
 ·rw [V8] at hb
  refine ah ⟨⟨11,rfl⟩,r0,s,A,rfl,rfl,?_⟩
  rw [Fq,hgd,Vs hb,List.set_getElem_self]
  exact hs
 ·refine aC rfl ?_
  refine ⟨[uV ws[q]],rfl,⟨rfl,trivial⟩,fun _=>hrd H1,?_⟩
  refine ab _ (XS hwq hp2) ?_
  refine aC rfl (aC rfl ?_)
  obtain ⟨O1,hs1,hs2⟩:=hst 0 [uV (ws[q] ||| 2 ^ r)] (Nat.le_refl _) ⟨rfl,trivial⟩
  refine ⟨_,hs1,?_⟩
  refine fun _=>⟨_,_,Ghost.perm (List.perm_append_comm (l₁:=O1) (l₂:=[(r0,Obj.cells #[iV 500,s] bj (0,0))])),⟨0,rfl⟩,r0,s,O1,rfl,rfl,?_⟩
  rw [Fq,hgd,← PG]
  exact hs2
theorem Ru {ws:List Nat} {q r:Nat} (hr:r < 64) (hw:∀ w ∈ ws,w < 2 ^ 64):∀ w ∈ Fq ws q r,w < 2 ^ 64:=by
 intro w h
 rcases List.mem_or_eq_of_mem_set h with h | rfl
 ·exact hw w h
 ·refine Nat.or_lt_two_pow ?_ (Nat.pow_lt_pow_right (by omega) hr)
  rw [List.getD_eq_getElem?_getD]
  cases e:ws[q]? with
  | none=>simp
  | some x=>exact hw x (List.mem_of_getElem? e)
end Go.Proofs.YtdhobpmnkfmcfaaGreatDoor
namespace Go.Proofs.YtdhobpmnkfmcfaaGreatDoor
open Go Go.Sx
set_option maxRecDepth 100000
set_option maxHeartbeats 1000000
structure BitsOk (ws:List Nat) (inS:Nat→Bool):Prop where
 len:ws.length=8
 lt:∀ w ∈ ws,w < 2 ^ 64
 bit:∀ q r,q < 8→r < 64→(ws.getD q 0).testBit r=inS (64 * q + r)
theorem Ub:BitsOk (List.replicate 8 0) fun _=>false where
 len:=rfl
 lt:=fun w h=>by rw [List.eq_of_mem_replicate h];omega
 bit:=fun q r hq _=>by
  rw [List.getD_eq_getElem?_getD,List.getElem?_replicate,if_pos hq];simp
theorem BitsOk.claim {ws:List Nat} {inS:Nat→Bool} (h:BitsOk ws inS) {q r:Nat} (hq:q < 8) (hr:r < 64):BitsOk (Fq ws q r) fun m=>inS m || m == 64 * q + r where
 len:=by rw [Fq,List.length_set];exact h.len
 lt:=Ru hr h.lt
 bit:=fun q' r' hq' hr'=>by
  have hl:=h.len
  rw [Fq,List.getD_eq_getElem?_getD,List.getElem?_set]
  by_cases e:q=q'
  ·subst e
   rw [if_pos rfl,if_pos (by omega),Option.getD_some,Nat.testBit_or,Nat.testBit_two_pow,h.bit q r' hq hr']
   congr 1
   rw [Bool.eq_iff_iff];simp;omega
  ·rw [if_neg e,← List.getD_eq_getElem?_getD,h.bit q' r' hq' hr']
   have:(64 * q' + r' == 64 * q + r)=false:=by simp;omega
   rw [this,Bool.or_false]
def XL (inS:Nat→Bool) (v:Value):Prop :=
 (∃ m:Nat,m < 500∧inS m=false∧(∀ j,j < m→inS j=true)∧v=.tuple #[iV ((m:Int) + 1),iV 0])∨((∀ m,m < 500→inS m=true)∧v=.tuple #[iV 0,iV 7])
theorem VB {x y:Int} (h1:-9223372036854775808≤x * y) (h2:x * y < 9223372036854775808):ak (.bin .mul .int) [iV x,iV y]=some (iV (x * y)):=by
 simp only [ak,fC,eP,if_true]
 rw [ij (by omega) (by omega)]
theorem Rt {w j:Nat} (hj:j < 64):(2 ^ 64 - 1 ^^^ w).testBit j=!w.testBit j:=by
 rw [Nat.testBit_xor,Nat.testBit_two_pow_sub_one,decide_eq_true hj];cases w.testBit j <;> rfl
theorem WX {H:Heap} (hgl:GlobOk AT H) {p:Value} {O:Own} {ws:List Nat} {inS:Nat→Bool} (h:W7 p ws O) (hb:BitsOk ws inS) :
  Triple PP ud [p] H O fun v _ _=>XL inS v:=by
 obtain ⟨r0,s,A,rfl,rfl,hs⟩:=h
 have hl:=hb.len
 have hlen:ak .len [s]=some (iV (8:Nat)):=by have:=hs.len;rwa [F9,List.length_map,hl] at this
 refine y3 (vs:=[.pointer (some ⟨r0,0,none⟩)]) (by kernel_rfl) ⟨rfl,trivial⟩ ?_
 simp only [nb]
 refine ai (UI hs.one) rfl ⟨rfl,trivial⟩ fun H1 l1=>?_
 refine aj (fun hb=>by cases hb) (fun _=>?_)
 refine aC rfl (aC rfl ?_)
 refine ⟨[s],rfl,⟨hs.one,trivial⟩,fun _=>FC,?_⟩
 refine ab _ hlen ?_
 refine aT 8 (fun i H' O'=>Heap.le H H'∧O'=(r0,.cells #[iV 500,s] bj (0,0))::A∧∀ m,m < 64 * i→m < 500→inS m=true) ⟨l1,rfl,fun m h=>absurd h (by omega)⟩ ?_
 rintro i H' O' hi - ⟨hle,rfl,hall⟩
 refine ab _ (aJ _ _) ?_
 refine aj (fun hlt=>?_) (fun hlt=>?_)
 ·have hi8:i < 8:=by simp at hlt;omega
  have hil:i < ws.length:=by omega
  have hwi:=hb.lt _ (List.getElem_mem hil)
  have hgd:ws.getD i 0=ws[i]:=by rw [List.getD_eq_getElem?_getD,List.getElem?_eq_getElem hil];rfl
  have hbit:=hb.bit i
  rw [hgd] at hbit
  generalize hwd:ws[i]=w at hwi hbit hgd
  have hget:(F9 ws)[i]?=some [uV w]:=by rw [yO hil,hwd]
  obtain ⟨a,ha,_⟩:=hs.idx (O:=(r0,.cells #[iV 500,s] bj (0,0))::A) (fun p hp=>List.mem_cons_of_mem _ hp) H' (k:=.i64) hget
  have hrd:∀ H',Reads H' ((r0,.cells #[iV 500,s] bj (0,0))::A) (.pointer (some a)) 1 [uV w]:=fun H'=>by
   obtain ⟨a2,h2,_,h3,_⟩:=hs.idx (O:=(r0,.cells #[iV 500,s] bj (0,0))::A) (fun p hp=>List.mem_cons_of_mem _ hp) H' (k:=.i64) hget
   obtain rfl:a2=a:=by rw [h2] at ha;simpa using ha
   exact h3
  refine ab _ ha ?_
  refine ar (hrd H') rfl ⟨rfl,trivial⟩ ?_
  refine ab _ (VB (by omega) (by omega)) ?_
  refine ab _ (LL hwi) ?_
  have hcl:2 ^ 64 - 1 ^^^ w < 2 ^ 64:=Nat.xor_lt_two_pow (by omega) hwi
  have hcb:=fun j (hj:j < 64)=>Rt (w:=w) hj
  generalize hcd:2 ^ 64 - 1 ^^^ w=c at hcl hcb
  rcases Nat.eq_zero_or_pos c with h0 | h0
  ·subst h0
   have hfull:∀ m,m < 64 * (i + 1)→m < 500→inS m=true:=fun m hm h5=>by
    rcases Nat.lt_or_ge m (64 * i) with h | h
    ·exact hall m h h5
    ·have:=hcb (m - 64 * i) (by omega)
     rw [Nat.zero_testBit] at this
     have h2:=hbit (m - 64 * i) hi8 (by omega)
     rw [show 64 * i + (m - 64 * i)=m by omega] at h2
     rw [← h2];simpa using this.symm
   refine ai (XB _) rfl ⟨rfl,trivial⟩ fun H2 l2=>?_
   refine ab _ (sM (by omega) (by omega)) ?_
   refine ab _ (sM (by omega) (by omega)) ?_
   refine ab _ (LL hwi) ?_
   rw [hcd]
   refine ab _ (Vz 0 0) ?_
   refine aC rfl (ae (aC rfl (ae (ae ?_))))
   refine ⟨[iV 500],rfl,⟨rfl,trivial⟩,fun _=>zC,?_⟩
   refine ae (ae ?_)
   refine ab _ (fJ _ _) ?_
   refine ae ?_
   refine ab _ (aX _ _) ?_
   refine aj (fun hb=>by simp at hb) (fun _=>?_)
   exact ab _ (aE (by omega)) (aP (by simp [Eqs]) hi8 ⟨Heap.le_trans hle l2,rfl,hfull⟩)
  ·obtain ⟨k,m',hk,e⟩:=QN h0 hcl
   have hlow:∀ m,m < 64 * i + k→m < 500→inS m=true:=fun m hm h5=>by
    rcases Nat.lt_or_ge m (64 * i) with h | h
    ·exact hall m h h5
    ·have:=hcb (m - 64 * i) (by omega)
     rw [VG e (by omega)] at this
     have h2:=hbit (m - 64 * i) hi8 (by omega)
     rw [show 64 * i + (m - 64 * i)=m by omega] at h2
     rw [← h2];simpa using this.symm
   have hkf:inS (64 * i + k)=false:=by
    have:=hcb k hk
    rw [WH e] at this
    rw [← hbit k hi8 hk];simpa using this.symm
   refine ai (Yl (hgl.le hle) _ hcl hk e) rfl ⟨rfl,trivial⟩ fun H2 l2=>?_
   refine ab _ (sM (by omega) (by omega)) ?_
   refine ab _ (sM (by omega) (by omega)) ?_
   refine ab _ (LL hwi) ?_
   rw [hcd]
   refine ab _ (Vz c 0) ?_
   refine aC rfl (ae (aC rfl (ae (ae ?_))))
   refine ⟨[iV 500],rfl,⟨rfl,trivial⟩,fun _=>zC,?_⟩
   refine ae (ae ?_)
   refine ab _ (fJ _ _) ?_
   refine ae ?_
   refine ab _ (aX _ _) ?_
   refine aj (fun hy=>?_) (fun hn=>?_)
   ·have h5:64 * i + k < 500:=by simp at hy;omega
    refine aC rfl (aC rfl ?_)
    refine ⟨[s],rfl,⟨hs.one,trivial⟩,fun _=>FC,?_⟩
    refine ab _ ha ?_
    refine ar (hrd H2) rfl ⟨rfl,trivial⟩ ?_
    have hw1:w + 1 < 2 ^ 64:=by
     refine Nat.lt_of_le_of_ne (by omega) fun ew=>?_
     have hwm:w=2 ^ 64 - 1:=by omega
     rw [hwm,Nat.xor_self] at hcd
     omega
    refine ab _ (XJ (b:=1) hw1) ?_
    refine ab _ (XS hwi hw1) ?_
    refine ab _ ha ?_
    refine aC rfl ?_
    obtain ⟨a3,ha3,hst⟩:=hs.store (O:=(r0,.cells #[iV 500,s] bj (0,0))::A) (O2:=[(r0,.cells #[iV 500,s] bj (0,0))]) (by simpa using List.perm_append_comm (l₁:=[(r0,Obj.cells #[iV 500,s] bj (0,0))]) (l₂:=A)) (k:=.i64) hget
    obtain rfl:a3=a:=by rw [ha3] at ha;simpa using ha
    obtain ⟨O1,hs1,_⟩:=hst 0 [uV (w ||| (w + 1))] (Nat.le_refl _) ⟨rfl,trivial⟩
    refine ⟨_,hs1,?_⟩
    refine ah (.inl ⟨64 * i + k,h5,hkf,fun j hj=>hlow j hj (by omega),?_⟩)
    show Value.tuple #[iV _,iV 0]=_
    congr 3
   ·have hne:(c != 0)=true:=by simp;omega
    rw [hne,Bool.true_and] at hn
    have h5:500≤64 * i + k:=by simp at hn;omega
    refine ab _ (aE (by omega)) (aP (by simp [Eqs]) hi8 ⟨Heap.le_trans hle l2,rfl,fun m _ hm5=>hlow m (by omega) hm5⟩)
 ·have hi8:i=8:=by simp at hlt;omega
  subst hi8
  exact ah (.inr ⟨fun m hm=>hall m (by omega) hm,rfl⟩)
end Go.Proofs.YtdhobpmnkfmcfaaGreatDoor
namespace Go.Sx
open Go
set_option maxRecDepth 100000
set_option maxHeartbeats 1000000
theorem Rw {P:Program} {op:PrimOp} {args:List Value} {H:Heap} {O O2 Y:Own} {r:Nat} {cs cs':List Value} {e:TypeId} {v:Value} {shp:Shp} {K:List Value→List (List Value)→Heap→Own→Prop} {vs:List Value}
  (hO:O.Perm ([(r,.cells cs.toArray e (0,0))]++(Y++O2))) (hrun:∀ w F,Models w H ([(r,.cells cs.toArray e (0,0))]++(Y++F))→(op.sem args).run P w=.ok (.value v) (w.setRow r cs'.toArray)) (ho:shp.open v=some vs) (h1:Ones vs)
  (hk:K vs [] H ([(r,.cells cs'.toArray e (0,0))]++(Y++O2))):dN (fun H1 O1 R=>ck P (op.sem args) H1 O1 R) false [] [] shp K H O:=by
 intro _
 refine ⟨H,[(r,.cells cs.toArray e (0,0))]++Y,O2,fun v' H' O'=>v'=v∧H'=H∧O'=[(r,.cells cs'.toArray e (0,0))]++Y,Ghost.perm (by simpa using hO),fun w F hm=>⟨v,w.setRow r cs'.toArray,H,_,hrun w F (by simpa using hm),⟨rfl,rfl,rfl⟩,Heap.le_refl H,?_⟩,?_⟩
 ·have:=AL (vs:=cs) (vs':=cs') (O:=Y++F) (by simpa using hm)
  simpa using this
 ·rintro v' H' O' ⟨rfl,rfl,rfl⟩ _
  exact ⟨vs,[],_,ho,h1,trivial,rfl,by simpa using hk⟩
theorem Pe {P:Program} {t t2 ty e:TypeId} {i:TypeInfo} (ht:P.underlying t=some (.slice e)) (hi:P.info? e=some i) {H:Heap} {O O2 Y:Own} {r off dLen dCap m k:Nat} {cs src:List Value} {x:Value} {K:List Value→List (List Value)→Heap→Own→Prop}
  (hO:O.Perm ([(r,.cells cs.toArray e (0,0))]++(Y++O2))) (hl:∀ w':World,(Builtin.lenOf x).run P w'=.ok m w') (hk:k=min m dLen)
  (hcells:∀ w F,Models w H ([(r,.cells cs.toArray e (0,0))]++(Y++F))→(Builtin.firstCells i.size k x).run P w=.ok src.toArray w) (hfit:off + src.length≤cs.length) (h1:∀ v ∈ src,v.oneCell'=true)
  (hK:K [iV (k:Int)] [] H ([(r,.cells (cs.take off++src++cs.drop (off + src.length)).toArray e (0,0))]++(Y++O2))) :
  dN (fun H1 O1 R=>ck P ((PrimOp.bi .copy #[t,t2] ty).sem [.slice (some ⟨r,off,none⟩) dLen dCap,x]) H1 O1 R) false [] [] .one K H O:=by
 refine Rw (r:=r) (cs:=cs) (e:=e) (O2:=O2) (Y:=Y) (cs':=cs.take off++src++cs.drop (off + src.length)) hO (v:=iV (k:Int)) (fun w F hm=>?_) rfl ⟨rfl,trivial⟩ hK
 have hrow:=(hm.own (r,.cells cs.toArray e (0,0)) (by simp)).1
 have:=Ej (P:=P) (t:=t) (t2:=t2) (ty:=ty) ht hi (w:=w) (off:=off) (dLen:=dLen) (dCap:=dCap) hrow hl hk (hcells w F hm) hfit h1
 simp only [PrimOp.sem,builtin]
 rw [Sem.run_bind,this]
 rfl
theorem Ry {P:Program} {t tn ty e:TypeId} {i:TypeInfo} {z:Value} {kn:IntKind} (ht:P.underlying t=some (.slice e)) (htn:P.underlying tn=some (.int kn)) (hi:P.info? e=some i) (hz:i.zero=some z) (hzs:z.cells.size=i.size) (hz1:∀ u ∈ z.cells.toList,u.oneCell'=true) (hs0:0 < i.size) (hby:i.bytes≤1000)
  {H:Heap} {O O2:Own} {r n cap m:Nat} {cs:List Value} {K:List Value→List (List Value)→Heap→Own→Prop} (hO:O.Perm ([(r,.cells cs.toArray e (0,0))]++O2)) (hfit:n * i.size≤cs.length) (h0:0 < m) (hg:cap < n + m) (hb:n + m≤2000000)
  (hK:∀ r2 c2 zs,zs.length=(c2 - n) * i.size→n + m≤c2→c2 < 2 ^ 63→(∀ u ∈ zs,Value.oneCell' u=true)→K [.slice (some ⟨r2,0,none⟩) (n + m) c2] [] H ([(r2,.cells (cs.take (n * i.size)++zs).toArray e (0,0))]++([(r,.cells cs.toArray e (0,0))]++O2))) :
  dN (fun H1 O1 R=>ck P ((PrimOp.bi .append #[t,tn] ty).sem [.slice (some ⟨r,0,none⟩) n cap,iV (m:Int)]) H1 O1 R) false [] [] .one K H O:=by
 intro _
 refine ⟨H,[(r,.cells cs.toArray e (0,0))],O2,fun v' H' O'=>H'=H∧∃ r2 c2 zs,v'=.slice (some ⟨r2,0,none⟩) (n + m) c2∧zs.length=(c2 - n) * i.size∧n + m≤c2∧c2 < 2 ^ 63∧(∀ u ∈ zs,Value.oneCell' u=true)∧O'=[(r2,.cells (cs.take (n * i.size)++zs).toArray e (0,0))]++[(r,.cells cs.toArray e (0,0))],Ghost.perm hO,fun w F hm=>?_,?_⟩
 ·have hm':Models w.drew H ([(r,.cells cs.toArray e (0,0))]++F):=Models.same (w:=w) (by simpa using hm) rfl rfl
  have hold:(Builtin.firstCells i.size n (.slice (some ⟨r,0,none⟩) n cap)).run P w.drew=.ok (cs.take (n * i.size)).toArray w.drew:=by
   have:=E6 (P:=P) hm' (size:=i.size) (k:=n) (off:=0) (n:=n) (cap:=cap) (by omega)
   rwa [List.drop_zero] at this
  have hns:Builtin.nextslicecap (n + m) cap * i.bytes≤281474976710656:=by
   have h1:=nextslicecap_le hg
   have h2:Builtin.nextslicecap (n + m) cap * i.bytes≤(2 * (n + m)) * 1000:=Nat.mul_le_mul h1 hby
   omega
  have hkb:m * i.bytes≤281474976710656:=by
   have h2:m * i.bytes≤2000000 * 1000:=Nat.mul_le_mul (by omega) hby
   omega
  have hrun:=Go.Lib.run_append_grow_zeros (P:=P) w t tn ty e i z .i64 kn ht htn hi hz (some ⟨r,0,none⟩) n cap (cs.take (n * i.size)) hold m h0 hs0 hg (by omega) hkb hns
  generalize hc2:grownCap w (n + m) cap e=c2 at hrun
  have hge:n + m≤c2:=by rw [← hc2];exact grownCap_ge _ _ _ _
  have hle:c2≤maxLen:=by rw [← hc2];exact grownCap_le_maxLen _ _ _ _ (by simp only [maxLen];omega)
  have hp:=hm'.push (.cells ((cs.take (n * i.size)).toArray++Builtin.zeroCells z.cells m++Builtin.zeroCells z.cells (c2 - (n + m))) e (0,0))
  have hzl:((Builtin.zeroCells z.cells m).toList++(Builtin.zeroCells z.cells (c2 - (n + m))).toList).length=(c2 - n) * i.size:=by
   rw [List.length_append,Array.length_toList,Array.length_toList,size_zeroCells,size_zeroCells,hzs,← Nat.add_mul]
   congr 1;omega
  have hcells:(cs.take (n * i.size)).toArray++Builtin.zeroCells z.cells m++Builtin.zeroCells z.cells (c2 - (n + m))=(cs.take (n * i.size)++((Builtin.zeroCells z.cells m).toList++(Builtin.zeroCells z.cells (c2 - (n + m))).toList)).toArray:=by
   apply Array.ext'
   simp
  rw [hcells] at hrun hp
  refine ⟨_,w.drew.alloc (.cells (cs.take (n * i.size)++((Builtin.zeroCells z.cells m).toList++(Builtin.zeroCells z.cells (c2 - (n + m))).toList)).toArray e (0,0)),H,_,?_,⟨rfl,w.heap.size,c2,_,rfl,hzl,hge,by simp only [maxLen] at hle;omega,?_,rfl⟩,Heap.le_refl H,?_⟩
  ·simp only [PrimOp.sem,builtin]
   rw [Sem.run_bind,hrun]
   rfl
  ·intro u hu
   rcases List.mem_append.1 hu with hu | hu
   ·exact DZ hz1 u hu
   ·exact DZ hz1 u hu
  ·exact hp
 ·rintro v' H' O' ⟨rfl,r2,c2,zs,rfl,hl,h1,h2,h3,rfl⟩ _
  exact ⟨[.slice (some ⟨r2,0,none⟩) (n + m) c2],[],_,rfl,⟨rfl,trivial⟩,trivial,rfl,by simpa using hK r2 c2 zs hl h1 h2 h3⟩
end Go.Sx
