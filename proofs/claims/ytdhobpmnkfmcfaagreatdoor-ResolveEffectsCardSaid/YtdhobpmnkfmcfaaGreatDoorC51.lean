/- Legal targets; light cards; lists that are equal. -/
import Derived.Test.YtdhobpmnkfmcfaaGreatDoorC48
import Derived.Test.YtdhobpmnkfmcfaaGreatDoorKT
import Derived.Test.YtdhobpmnkfmcfaaGreatDoorC32
import Derived.Test.YtdhobpmnkfmcfaaGreatDoorM17
import Derived.Test.YtdhobpmnkfmcfaaGreatDoorRW
import Derived.Test.YtdhobpmnkfmcfaaGreatDoorC1
import Derived.Test.YtdhobpmnkfmcfaaGreatDoorC21
import Derived.Test.YtdhobpmnkfmcfaaGreatDoorKN
namespace Go.Proofs.YtdhobpmnkfmcfaaGreatDoor
open Go Go.Sx
set_option maxRecDepth 100000
set_option maxHeartbeats 1000000
theorem QG (o p:Tg):JJ PP (.eqv .eql aC false) [.agg o.row.toArray,.agg p.row.toArray]=some (.bool (o == p)):=by
 have e:JJ PP (.eqv .eql aC false) [.agg o.row.toArray,.agg p.row.toArray]=(Fy [o.id == p.id,o.player == p.player]).map fun b=>.bool b:=by kernel_rfl
 rw [e,qt]
 simp only [Option.map_some,Option.some.injEq,Value.bool.injEq]
 cases o;cases p
 rw [Bool.eq_iff_iff]
 simp
theorem F0 {l:List Tg} {i:Nat} (h:i < l.length):(cK l)[i]?=some l[i].row:=by simp [cK,h]
theorem oS (t:Tg):Ones t.row:=⟨rfl,rfl,trivial⟩
theorem N0 {H:Heap} {O:Own} {v:Value} {l:List Tg} (h:Sl H 2 v (cK l)) (t:Tg):RetO PP dV [v,.agg t.row.toArray] H O (iV (fY (fun y=>t == y) l 0)):=by
 refine ii (vs:=v::t.row) (by kernel_rfl) ⟨h.one,oS t⟩ ?_
 simp only [cA]
 have hlen:al .len [v]=some (iV l.length):=by have:=h.len;rwa [bF] at this
 have hlB:=h.lenB
 rw [bF] at hlB
 refine af fun r0=>?_
 refine ab _ hlen ?_
 refine aS l.length (fun i H' O'=>O'=O∧Heap.le H H'∧fY (fun y=>t == y) l 0=fY (fun y=>t == y) (l.drop i) i) ⟨rfl,Heap.le_refl H,by simp⟩ ?_
 rintro i H' O' hi - ⟨rfl,hle,hor⟩
 refine ab _ (aI _ _) (aj (fun hb=>?_) (fun hb=>?_))
 ·have hlt:i < l.length:=by simpa using hb
  obtain ⟨a,h1,h2,h3,h4⟩:=(h.le hle).idx (k:=.i64) (F0 hlt)
  refine aa ?_
  refine ab _ h1 (cM h2 h3 h4 ?_)
  refine qT (QG t l[i]) (aj (fun hc=>?_) (fun hc=>?_))
  ·refine ah ⟨?_,rfl⟩
   rw [hor,List.drop_eq_getElem_cons hlt,fY,if_pos hc];rfl
  ·refine ab _ (aD (by omega)) (aO (by simp [Eqs,E]) hlt ⟨rfl,hle,?_⟩)
   rw [hor,List.drop_eq_getElem_cons hlt,fY,if_neg (by rw [hc];simp)];rfl
 ·have hge:l.length≤i:=by simpa using hb
  refine ah ⟨?_,rfl⟩
  rw [hor,List.drop_of_length_le hge];rfl
theorem Io {H:Heap} {O:Own} {v:Value} {l:List Tg} (h:Sl H 2 v (cK l)) (t:Tg):RetO PP dn [v,.agg t.row.toArray] H O (.bool (l.any fun y=>t == y)):=by
 refine fT (vs:=v::t.row) (by kernel_rfl) ⟨h.one,oS t⟩ ?_
 simp only [bS]
 refine af fun r0=>?_
 refine aa ?_
 refine ai (N0 h t) rfl ⟨rfl,trivial⟩ fun H1 _=>?_
 refine ab _ (cZ _ _) (ah ⟨?_,rfl⟩)
 rw [← zg _ l 0 (by omega)]
def ut (cs:List Cd) (b:Bd) (p k:Int) (t:Tg):Bool:=(zJ cs b p k).any fun y=>t == y
theorem Qo {H:Heap} {cv:Value} {cs:List Cd} (hk:CardsS H cv cs) (hli:eC cs=true) {v:cX} {b:Bd} (h:BdS H v b) (hst:b.stack.length≤1000000) (p k:Int) (t:Tg) :
  RetO PP wc [cv,.agg (ap v b).toArray,iV p,iV k,.agg t.row.toArray] H [] (.bool (ut cs b p k t)):=by
 refine AE (vs:=cv::(ap v b++(iV p::iV k::t.row))) (by kernel_rfl) ⟨hk.one,ay (ao (h.r [])) ⟨rfl,rfl,oS t⟩⟩ ?_
 simp only [pg]
 refine af fun r0=>af fun r1=>?_
 refine aa (aa ?_)
 refine aw (Qm hk hli h hst p k) ?_
 rintro x H1 _ ⟨hx,rfl⟩ l1
 refine ⟨[x],rfl,⟨hx.one,trivial⟩,?_⟩
 refine ai (Io hx t) rfl ⟨rfl,trivial⟩ fun H2 _=>?_
 exact ah ⟨rfl,rfl⟩
theorem Pp {H:Heap} {cv:Value} {cs:List Cd} (hk:CardsS H cv cs) (hli:eC cs=true) {v:cX} {b:Bd} (h:BdS H v b) (hB:bdB b) (hfit:FG b) (hst:b.stack.length≤1000000) (p k:Int) (t:Tg) :
  RetO PP mD [cv,.agg (ap v b).toArray,iV p,iV k,.agg t.row.toArray] H [] (.bool (ut cs b p k t)):=by
 refine sL (vs:=cv::(ap v b++(iV p::iV k::t.row))) (by kernel_rfl) ⟨hk.one,ay (ao (h.r [])) ⟨rfl,rfl,oS t⟩⟩ ?_
 simp only [iE]
 refine af fun r0=>af fun r1=>?_
 refine aa ?_
 refine aw (Pl hk hli h hB hfit hst p k) ?_
 rintro x H1 _ ⟨hx,rfl⟩ l1
 refine ⟨[x],rfl,⟨hx.one,trivial⟩,?_⟩
 rw [ut]
 generalize zJ cs b p k=l at hx
 have hlen:al .len [x]=some (iV l.length):=by have:=hx.len;rwa [bF] at this
 have hlB:=hx.lenB
 rw [bF] at hlB
 refine aS l.length (fun i H' O'=>O'=[]∧Heap.le H1 H'∧(l.any fun y=>t == y)=((l.drop i).any fun y=>t == y)) ⟨rfl,Heap.le_refl _,by simp⟩ ?_
 rintro i H' O' hi - ⟨rfl,hle,hor⟩
 refine ab _ hlen ?_
 refine ab _ (aI _ _) (aj (fun hb=>?_) (fun hb=>?_))
 ·have hlt:i < l.length:=by simpa using hb
  obtain ⟨a,h1,h2,h3,h4⟩:=(hx.le hle).idx (k:=.i64) (F0 hlt)
  refine ab _ h1 (cM h2 h3 h4 ?_)
  refine aa ?_
  have hcm:(t == l[i])=(l[i] == t):=Bool.eq_iff_iff.2 (by rw [beq_iff_eq,beq_iff_eq];exact eq_comm)
  refine qT (QG l[i] t) (aj (fun hc=>?_) (fun hc=>?_))
  ·refine ah ⟨?_,rfl⟩
   rw [hor,List.drop_eq_getElem_cons hlt,List.any_cons,hcm,hc];rfl
  ·refine ab _ (aD (by omega)) (aO (by simp [Eqs,E]) hlt ⟨rfl,hle,?_⟩)
   rw [hor,List.drop_eq_getElem_cons hlt,List.any_cons,hcm,hc];rfl
 ·have hge:l.length≤i:=by simpa using hb
  refine ah ⟨?_,rfl⟩
  rw [hor,List.drop_of_length_le hge];rfl
end Go.Proofs.YtdhobpmnkfmcfaaGreatDoor
namespace Go.Proofs.YtdhobpmnkfmcfaaGreatDoor
open Go Go.Sx
set_option maxRecDepth 100000
set_option maxHeartbeats 1000000
theorem NS {H:Heap} (O:Own) {v:Value} {cs:List Cd} (h:CardsS H v cs) {i:Nat} (hi:i < cs.length) :
  ∃ a r,al (.idx 14) [v,iV i]=some (.pointer (some a))∧CdR H r cs[i]∧Reads H O (aT (.pointer (some a)) 11) 1 [g r 11]∧Reads H O (aT (.pointer (some a)) 12) 1 [g r 12]:=by
 obtain ⟨rows,h1,h2,h3⟩:=h
 have hlt:i < rows.length:=by omega
 obtain ⟨a,k1,k2,k3,k4,k5⟩:=(h1.rsl O).idx .i64 i rows[i] (by simp [hlt])
 refine ⟨a,rows[i],k1,h3 i _ _ (List.getElem?_eq_getElem hlt) (List.getElem?_eq_getElem hi),?_,?_⟩
 ·have e:((rows[i]).drop 11).take 1=[g rows[i] 11]:=by
   rw [g,List.getD_eq_getElem?_getD,List.getElem?_eq_getElem (by omega),List.drop_eq_getElem_cons (by omega)];rfl
  rw [← e];exact k3 11 1 (by omega)
 ·have e:((rows[i]).drop 12).take 1=[g rows[i] 12]:=by
   rw [g,List.getD_eq_getElem?_getD,List.getElem?_eq_getElem (by omega),List.drop_eq_getElem_cons (by omega)];rfl
  rw [← e];exact k3 12 1 (by omega)
theorem MT {H:Heap} (O:Own) {v:Value} {tr:List Nat} (h:TrigsS H v tr) {i:Nat} (hi:i < tr.length) :
  ∃ a r,al (.idx 2) [v,iV i]=some (.pointer (some a))∧TrigR H r tr[i]∧Reads H O (aT (.pointer (some a)) 1) 1 [g r 1]:=by
 obtain ⟨rows,h1,h2,h3⟩:=h
 have hlt:i < rows.length:=by omega
 obtain ⟨a,k1,k2,k3,k4,k5⟩:=(h1.rsl O).idx .i64 i rows[i] (by simp [hlt])
 refine ⟨a,rows[i],k1,h3 i _ _ (List.getElem?_eq_getElem hlt) (List.getElem?_eq_getElem hi),?_⟩
 have e:((rows[i]).drop 1).take 1=[g rows[i] 1]:=by
  rw [g,List.getD_eq_getElem?_getD,List.getElem?_eq_getElem (by omega),List.drop_eq_getElem_cons (by omega)];rfl
 rw [← e];exact k3 1 1 (by omega)
theorem Qj {H:Heap} {v:Value} {cs:List Cd} (h:CardsS H v cs):RetO PP mR [v] H [] (.bool (eC cs)):=by
 refine sZ (vs:=[v]) (by kernel_rfl) ⟨h.one,trivial⟩ ?_
 simp only [iS]
 have hB:cs.length < 2 ^ 63:=by
  obtain ⟨rows,h1,h2,_⟩:=h
  have:=h1.lenB;omega
 refine aS cs.length (fun i H' O'=>O'=[]∧Heap.le H H'∧i≤13∧((cs.take i).all iB)=true) ⟨rfl,Heap.le_refl H,by omega,rfl⟩ ?_
 rintro i H' O' hi - ⟨rfl,hle,hi13,hor⟩
 replace h:=h.le hle
 refine ab _ h.len ?_
 refine ab _ (aI _ _) ?_
 refine ae ?_
 refine ab _ (aI _ _) ?_
 refine ae ?_
 refine ab _ (aX _ _) (aj (fun hb=>?_) (fun hb=>?_))
 ·have hb:(decide ((i:Int) < (cs.length:Int)) && decide ((i:Int) < 13))=true:=hb
  rw [Bool.and_eq_true,decide_eq_true_eq,decide_eq_true_eq] at hb
  have hlt:i < cs.length:=by omega
  have hl13:i < 13:=by omega
  obtain ⟨a,r,k1,k2,k3,k4⟩:=NS [] h hlt
  have hst:eC cs=false∨iB cs[i]=true:=by
   cases hc:iB cs[i]
   ·refine .inl ?_
    rw [eC,Bool.and_eq_false_iff]
    refine .inl ?_
    rw [List.all_eq_false]
    exact ⟨cs[i],List.mem_take_iff_getElem.2 ⟨i,by omega,rfl⟩,by rw [hc];simp⟩
   ·exact .inr rfl
  have hbad:∀ {x:Bool},iB cs[i]=false→x=false→(x=eC cs):=fun h1 h2=>by
   rcases hst with e | e
   ·rw [h2,e]
   ·rw [h1] at e;cases e
  refine ab _ k1 ?_
  refine aB rfl ?_
  refine aq k3 rfl ⟨k2.eff.one,trivial⟩ ?_
  refine ab _ k2.eff.len ?_
  refine ab _ (bH _ _) ?_
  refine ae (ae ?_)
  refine ⟨.pointer (some a),fun _=>k1,.inr rfl,?_⟩
  refine aB rfl (ae (ae ?_))
  refine ⟨[g r 12],rfl,⟨k2.trig.one,trivial⟩,fun _=>k4,?_⟩
  refine ae ?_
  refine ab _ k2.trig.len ?_
  refine ae ?_
  refine ab _ (bH _ _) ?_
  refine ae ?_
  refine ab _ (aR _ _) (aj (fun hc=>?_) (fun hc=>?_))
  ·have hc:(decide ((cs[i].tg.length:Int) > 5) || decide ((cs[i].tr.length:Int) > 3))=true:=hc
   refine ah ⟨?_,rfl⟩
   congr 1
   exact hbad (by rw [iB,hc];rfl) rfl
  ·have hc:(decide ((cs[i].tg.length:Int) > 5) || decide ((cs[i].tr.length:Int) > 3))=false:=hc
   have hc3:cs[i].tr.length≤3:=by
    rw [Bool.or_eq_false_iff,decide_eq_false_iff_not,decide_eq_false_iff_not] at hc;omega
   refine aS cs[i].tr.length (fun j H2 O2=>O2=[]∧Heap.le H' H2∧(cs[i].tr.all fun n=>!decide ((n:Int) > 5))=((cs[i].tr.drop j).all fun n=>!decide ((n:Int) > 5))) ⟨rfl,Heap.le_refl _,rfl⟩ ?_
   rintro j H2 O2 hj - ⟨rfl,hle2,hor2⟩
   refine ab _ k1 ?_
   refine aB rfl ?_
   refine aq (Bt k4 hle2) rfl ⟨k2.trig.one,trivial⟩ ?_
   refine ab _ k2.trig.len ?_
   refine ab _ (aI _ _) (aj (fun hd=>?_) (fun hd=>?_))
   ·have hjlt:j < cs[i].tr.length:=by simpa using hd
    obtain ⟨a2,r2,m1,m2,m3⟩:=MT [] (k2.trig.le hle2) hjlt
    obtain ⟨er,m4,m5⟩:=m2
    have el:al .len [g r2 1]=some (iV cs[i].tr[j]):=by have:=m4.len;rwa [m5] at this
    refine ab _ k1 ?_
    refine aB rfl ?_
    refine aq (Bt k4 hle2) rfl ⟨k2.trig.one,trivial⟩ ?_
    refine ab _ m1 ?_
    refine aB rfl ?_
    refine aq m3 rfl ⟨m4.one,trivial⟩ ?_
    refine ab _ el ?_
    refine ab _ (bH _ _) (aj (fun he=>?_) (fun he=>?_))
    ·have he:decide ((cs[i].tr[j]:Int) > 5)=true:=he
     refine ah ⟨?_,rfl⟩
     congr 1
     exact hbad (by rw [iB,hor2,List.drop_eq_getElem_cons hjlt,List.all_cons,he];simp) rfl
    ·have he:decide ((cs[i].tr[j]:Int) > 5)=false:=he
     refine ab _ (aD (by omega)) (aO (by simp [Eqs,E]) hjlt ⟨rfl,hle2,?_⟩)
     rw [hor2,List.drop_eq_getElem_cons hjlt,List.all_cons,he];rfl
   ·have hjge:cs[i].tr.length≤j:=by simpa using hd
    rw [List.drop_of_length_le hjge] at hor2
    refine ab _ (aD (by omega)) (aO (by simp [Eqs,E]) hlt ⟨rfl,Heap.le_trans hle hle2,by omega,?_⟩)
    rw [List.take_add_one,List.getElem?_eq_getElem hlt,List.all_append,hor]
    simp only [Option.toList_some,List.all_cons,List.all_nil,Bool.and_true,Bool.true_and]
    rw [iB,hc,hor2];rfl
 ·have hb:(decide ((i:Int) < (cs.length:Int)) && decide ((i:Int) < 13))=false:=hb
  rw [Bool.and_eq_false_iff,decide_eq_false_iff_not,decide_eq_false_iff_not] at hb
  refine ab _ h.len ?_
  refine ab _ (fh _ _) (ah ⟨?_,rfl⟩)
  congr 1
  rw [eC]
  rcases hb with hb | hb
  ·have e1:cs.take i=cs:=List.take_of_length_le (by omega)
   have e2:cs.take 13=cs:=List.take_of_length_le (by omega)
   rw [e1] at hor
   rw [e2,hor,Bool.true_and]
  ·obtain rfl:i=13:=by omega
   rw [hor,Bool.true_and]
end Go.Proofs.YtdhobpmnkfmcfaaGreatDoor
namespace Go.Proofs.YtdhobpmnkfmcfaaGreatDoor
open Go Go.Sx
set_option maxRecDepth 100000
set_option maxHeartbeats 1000000
theorem Qn {H:Heap} {v:Value} {tg:List Int} (h:EffsS H v tg) (hb:tg.length≤1000000):Triple PP wb [v] H [] fun r _ O'=>OSl d7 1 r (aH (dL tg)) O':=by
 refine AD (vs:=[v]) (by kernel_rfl) ⟨h.one,trivial⟩ ?_
 simp only [pf]
 refine ab _ h.len ?_
 refine dr tg.length (fun i x H' O'=>Heap.le H H'∧OSl d7 1 x (aH (dL (tg.take i))) O') ⟨Heap.le_refl _,OSl.nil _ _⟩ ?_
 rintro i x H' O' hi - ⟨hle,hx⟩
 refine ab _ (aI _ _) (aj (fun hb=>?_) (fun hb=>?_))
 ·have hlt:i < tg.length:=by simpa using hb
  obtain ⟨a,r,k1,k2,k3,k4,k5,_⟩:=If (O:=O') (h.le hle) hlt
  have hft:=fq (p:=fun t:Int=>t != 0) hlt
  refine ab _ k1 (aq (gP k2) k3 k4 (af fun r0=>?_))
  refine aa (aa ?_)
  rw [k5]
  refine ab _ (bd _ _) ?_
  refine aj (fun hc=>?_) (fun hc=>?_)
  ·have hc:(tg[i] != 0)=true:=hc
   have hlen:(dL (tg.take i)).length≤1000000:=by rw [dL];exact Nat.le_trans (List.length_filter_le _ _) (by rw [List.length_take];omega)
   refine aa ?_
   refine af fun r2=>?_
   refine aG (rows:=aH (dL (tg.take i))) (news:=[[iV tg[i]]]) (O1:=O') (O2:=[]) (e:=d7) (size:=1) (bytes:=8) (by kernel_rfl) (by simp) hx (fun Hf _ hf=>Sl.block1 (hf _ List.mem_cons_self) rfl ⟨rfl,trivial⟩) (by rw [aH,List.length_map,List.length_singleton];omega) (by rw [aH,List.length_map,List.length_singleton];omega) ?_
   intro v' A' H6 l6 hA'
   refine ab _ (aD (by omega)) (aU (by simp [Eqs]) hlt ⟨Heap.le_trans hle l6,?_⟩)
   rw [List.append_nil,dL,hft,if_pos hc,aH,List.map_append];exact hA'
  ·have hc:(tg[i] != 0)=false:=hc
   refine ab _ (aD (by omega)) (aU (by simp [Eqs]) hlt ⟨hle,?_⟩)
   rw [dL,hft,if_neg (by rw [hc];simp),List.append_nil];exact hx
 ·have hge:tg.length≤i:=by simpa using hb
  rw [List.take_of_length_le hge] at hx
  exact ah hx
end Go.Proofs.YtdhobpmnkfmcfaaGreatDoor
namespace Go.Proofs.YtdhobpmnkfmcfaaGreatDoor
open Go Go.Sx
set_option maxRecDepth 100000
set_option maxHeartbeats 1000000
theorem N5 {cs:List Cd} {b:Bd} {p x:Int}:x ∈ yn cs b p ↔ x ∈ tF cs b p∨x ∈ tF cs b (1 - p):=by
 rw [yn,(vn _).mem_iff,List.mem_append]
end Go.Proofs.YtdhobpmnkfmcfaaGreatDoor
namespace Go.Proofs.YtdhobpmnkfmcfaaGreatDoor
open Go Go.Sx
set_option maxRecDepth 100000
set_option maxHeartbeats 1000000
theorem LE {ks:List Int} {b:Bd} (h:ax b=true) {q:Int} (hq:q=0∨q=1) {x:Int}:x ∈ jP ks b q ↔ ∃ o ∈ b.objs,o.id=x∧o.owner=q∧eo ks o=true∧x ∈ (au b q).field:=by
 have hw:ar q 0 1=true:=by simp only [ar,decide_eq_true_eq];omega
 rw [jP,if_pos (by rw [hw,h];rfl),List.mem_map]
 constructor
 ·rintro ⟨o,ho,rfl⟩
  obtain ⟨m,c⟩:=List.mem_filter.1 ho
  simp only [zd,Bool.and_eq_true,beq_iff_eq,List.contains_iff_mem] at c
  exact ⟨o,m,rfl,c.1,c.2.1,c.2.2⟩
 ·rintro ⟨o,m,rfl,c1,c2,c3⟩
  refine ⟨o,List.mem_filter.2 ⟨m,?_⟩,rfl⟩
  simp only [zd,Bool.and_eq_true,beq_iff_eq,List.contains_iff_mem]
  exact ⟨c1,c2,c3⟩
theorem un:∀ {l m:List Int},l.Nodup→(∀ x ∈ l,x ∈ m)→l.length≤m.length
 | [],_,_,_=>Nat.zero_le _
 | a::l,m,h,hs=>by
  rw [List.nodup_cons] at h
  have ha:=hs a List.mem_cons_self
  have ih:=un (m:=m.erase a) h.2 fun x hx=>(List.mem_erase_of_ne (fun e=>by rw [e] at hx;exact h.1 hx)).2 (hs x (List.mem_cons_of_mem _ hx))
  rw [List.length_erase_of_mem ha] at ih
  have:=List.length_pos_of_mem ha
  rw [List.length_cons];omega
section
variable {cs:List Cd} {b:Bd} (h:ax b=true) {k:Nat} {o:Ob} (hk:b.objs[k]?=some o) {z:Int} (hz:z=0∨z=1∨z=2∨z=3)
include h hk hz
end
end Go.Proofs.YtdhobpmnkfmcfaaGreatDoor
namespace Go.Proofs.YtdhobpmnkfmcfaaGreatDoor
open Go Go.Sx
set_option maxRecDepth 100000
set_option maxHeartbeats 1000000
theorem RA (H:Heap):CdRX H Hu Rz:=⟨rfl,Sl.nil H 5,⟨[],Sl.nil H 2,rfl,fun i r t h=>by simp at h⟩⟩
theorem LH {H:Heap} {v:Value} {cs:List CdX} (h:CardsX H v cs) (c:Int) (hn:¬ (c < 0∨c ≥ (cs.length:Int))) :
  ∃ a r,al (.idx 14) [v,iV c]=some (.pointer (some a))∧H.read (.pointer (some a)) 14=some r∧r.length=14∧Ones r∧CdRX H r (cdX cs c):=by
 obtain ⟨rows,h1,h2,h3⟩:=h
 have hlt:c.toNat < rows.length:=by omega
 obtain ⟨a,k1,k2,k3,k4⟩:=h1.idx (k:=.i64) (i:=c.toNat) (List.getElem?_eq_getElem hlt)
 have hk:cs[c.toNat]?=some (cdX cs c):=by
  rw [cdX,if_neg hn,List.getD_eq_getElem?_getD,List.getElem?_eq_getElem (by omega)];rfl
 refine ⟨a,_,?_,k2,k3,k4,h3 c.toNat _ _ (List.getElem?_eq_getElem hlt) hk⟩
 rw [show iV c=iV (c.toNat:Int) by rw [Int.toNat_of_nonneg (by omega)]];exact k1
def Sg (cs:List CdX) (c:Int) (v:Value) (H:Heap):Prop:=∃ cells:List Value,v=.agg cells.toArray∧cells.length=14∧Ones cells∧CdRX H cells (cdX cs c)
theorem Qh {H:Heap} {O:Own} {v:Value} {cs:List CdX} (h:CardsX H v cs) (o:Ob):Triple PP nr [v,.agg o.row.toArray] H O fun r H' O'=>Sg cs o.card r H'∧O'=O:=by
 refine nE (vs:=v::o.row) (by kernel_rfl) ⟨h.one,bA o⟩ ?_
 simp only [ky]
 refine af fun r0=>af fun r1=>?_
 refine aa ?_
 refine ab _ (aI _ _) ?_
 refine aa (ae (ae ?_))
 refine ab _ h.len ?_
 refine ae (ae (ab _ (fh _ _) (ae (ab _ (aR _ _) ?_))))
 refine aj (fun hb=>?_) (fun hb=>?_)
 ·have hb:(decide (o.card < 0) || decide (o.card ≥ (cs.length:Int)))=true:=hb
  refine aa (aa ?_)
  refine ah ⟨⟨Hu,rfl,rfl,⟨rfl,rfl,rfl,rfl,rfl,rfl,rfl,rfl,rfl,rfl,rfl,rfl,rfl,rfl,trivial⟩,?_⟩,rfl⟩
  rw [cdX,if_pos (by simpa using hb)];exact RA H
 ·have hb:(decide (o.card < 0) || decide (o.card ≥ (cs.length:Int)))=false:=hb
  obtain ⟨a,r,k1,k2,k3,k4,k5⟩:=LH h o.card (by simpa [Bool.or_eq_false_iff] using hb)
  refine aa ?_
  refine ab _ k1 (aq (gP k2) k3 k4 ?_)
  refine aa (aa ?_)
  exact ah ⟨⟨r,by rw [← Cg k3];rfl,k3,k4,k5⟩,rfl⟩
def Sp (v:Value) (trs:List (List Eff)) (O:Own):Prop:=∃ rows A Ts,O.Perm (A++List.flatten Ts)∧OSl fR 2 v rows A∧rows.length=trs.length∧Ts.length=trs.length ∧
 ∀ (i:Nat) (r:List Value) (l:List Eff) (T:Own),rows[i]?=some r→trs[i]?=some l→Ts[i]?=some T→OSl eG 5 (g r 1) (mu l) T
def Rt (c:CdX) (v:Value) (O:Own):Prop:=∃ (cells:List Value) (A B:Own),v=.agg cells.toArray∧cells.length=14∧Ones cells∧g cells 1=iV c.kind∧OSl eG 5 (g cells 11) (mu c.effs) A∧Sp (g cells 12) c.trs B∧O.Perm (A++B)
theorem Iu {H:Heap} {cells:List Value} {c:CdX} (h:CdRX H cells c) (hl:cells.length=14) (ho:Ones cells) (hli:iB c.base=true) :
  Triple PP xf [.agg cells.toArray] H [] fun r _ O'=>Rt c r O':=by
 simp only [iB,CdX.base,Bool.and_eq_true,Bool.not_eq_true',Bool.or_eq_false_iff,decide_eq_false_iff_not,List.all_eq_true,List.length_map,List.mem_map,forall_exists_index,and_imp,forall_apply_eq_imp_iff₂] at hli
 obtain ⟨⟨b1,b2⟩,b3⟩:=hli
 obtain ⟨hk,he,⟨trows,t1,t2,t3⟩⟩:=h
 refine xJ (vs:=cells) (by rw [← Cg hl];kernel_rfl) ho ?_
 simp only [rY]
 refine af fun r0=>af fun r1=>?_
 refine aa (aa ?_)
 refine aw (BD he (by rw [zj];omega)) fun x H1 O1 hx l1=>⟨[x],rfl,⟨hx.one,trivial⟩,?_⟩
 refine aw (Jv (t1.le l1) (by omega)) fun y H2 O2 hy l2=>⟨[y],rfl,⟨hy.one,trivial⟩,?_⟩
 have ylen:=hy.len
 rw [t2] at ylen
 refine aa (aa (aa ?_))
 refine ab _ ylen ?_
 refine aS c.trs.length (fun i H' O'=>Heap.le H2 H'∧∃ rows' A Ts,O'.Perm (A++(List.flatten Ts++O1))∧OSl fR 2 y rows' A∧rows'.length=c.trs.length∧Ts.length=i ∧
  (∀ (j:Nat) (r:List Value) (l:List Eff) (T:Own),rows'[j]?=some r→c.trs[j]?=some l→Ts[j]?=some T→OSl eG 5 (g r 1) (mu l) T)∧∀ j,i≤j→rows'[j]?=trows[j]?)
  ⟨Heap.le_refl _,trows,O2,[],by simp,hy,t2,rfl,fun j r l T _ _ h=>by simp at h,fun _ _=>rfl⟩ ?_
 rintro i H' O' hi - ⟨hle,rows',A,Ts,hp,hA,hrl,htl,hspec,hrest⟩
 refine ab _ (aI _ _) (aj (fun hb=>?_) (fun hb=>?_))
 ·have hlt:i < c.trs.length:=by simpa using hb
  have hri:rows'[i]?=some trows[i]:=by rw [hrest i (Nat.le_refl _)];exact List.getElem?_eq_getElem (by omega)
  have k1:=t3 i trows[i] c.trs[i] (List.getElem?_eq_getElem (by omega)) (List.getElem?_eq_getElem hlt)
  have hb3:=b3 _ (List.getElem_mem hlt)
  obtain ⟨a,i1,i2,i3,i4⟩:=hA.idx (fun p h=>hp.mem_iff.2 (List.mem_append_left _ h)) H' (k:=.i64) hri
  obtain ⟨w1,w2⟩:=hA.rows_ok hri
  refine ab _ i1 (aq i3 w1 w2 (af fun r2=>?_))
  refine aa (aa (aa ?_))
  refine aw (BD (k1.le (Heap.le_trans l1 (Heap.le_trans l2 hle))) (by rw [zj];omega)) fun z H3 T hz l3=>⟨[z],rfl,⟨hz.one,trivial⟩,?_⟩
  have hp2:(T++O').Perm (A++(T++(List.flatten Ts++O1))):=(hp.append_left T).trans (List.perm_append_comm_assoc _ _ _)
  obtain ⟨a2,j1,j2⟩:=hA.store hp2 (k:=.i64) hri
  obtain ⟨A',hst,hA'⟩:=j2 1 [z] (by simp [w1]) ⟨hz.one,trivial⟩
  have hsp:g (cq trows[i] 1 [z]) 1=z:=by
   match hm:trows[i],w1 with
   | [_,_],_=>rfl
  refine ab _ j1 ?_
  refine aB rfl (aB rfl ?_)
  refine ⟨_,hst,?_⟩
  refine ab _ (aD (by omega)) (aO (by simp [Eqs]) hlt ⟨Heap.le_trans hle l3,_,A',Ts++[T],?_,hA',by simp [hrl],by simp [htl],?_,?_⟩)
  ·refine List.Perm.append_left A' ?_
   rw [List.flatten_append,← List.append_assoc]
   refine List.Perm.append_right O1 ?_
   simpa using List.perm_append_comm
  ·intro j r x T' h1 h2 h3
   by_cases hj:j=i
   ·subst hj
    rw [List.getElem?_set_self (by omega)] at h1
    rw [List.getElem?_eq_getElem hlt] at h2
    rw [List.getElem?_append_right (by omega),htl,Nat.sub_self] at h3
    simp only [Option.some.injEq,List.getElem?_cons_zero] at h1 h2 h3
    subst h1;subst h2;subst h3
    rw [hsp];exact hz
   ·rw [List.getElem?_set_ne (by omega)] at h1
    have hjlt:j < Ts.length:=by
     have:=(List.getElem?_eq_some_iff.1 h3).1
     simp at this;omega
    rw [List.getElem?_append_left hjlt] at h3
    exact hspec j r x T' h1 h2 h3
  ·intro j hj
   rw [List.getElem?_set_ne (by omega)]
   exact hrest j (by omega)
 ·have hie:i=c.trs.length:=by
   have:¬ ((i:Int) < (c.trs.length:Int)):=by simpa using hb
   omega
  subst hie
  refine aa (aa (aa ?_))
  refine ah ⟨[g cells 0,g cells 1,g cells 2,g cells 3,g cells 4,g cells 5,g cells 6,g cells 7,g cells 8,g cells 9,g cells 10,x,y,g cells 13],O1,A++List.flatten Ts,rfl,rfl,?_,hk,hx,⟨rows',A,Ts,List.Perm.refl _,hA,hrl,htl,hspec⟩,?_⟩
  ·exact ⟨dK ho (by omega),dK ho (by omega),dK ho (by omega),dK ho (by omega),dK ho (by omega),dK ho (by omega),dK ho (by omega),dK ho (by omega),dK ho (by omega),dK ho (by omega),dK ho (by omega),hx.one,hy.one,dK ho (by omega),trivial⟩
  ·refine hp.trans ?_
   rw [← List.append_assoc]
   exact List.perm_append_comm
theorem Kq {H:Heap} {v:Value} {cs:List CdX} (h:CardsX H v cs) (hli:eC (cs.map CdX.base)=true) (o:Ob):Triple PP so [v,.agg o.row.toArray] H [] fun r _ O'=>Rt (cdX cs o.card) r O':=by
 refine uc (vs:=v::o.row) (by kernel_rfl) ⟨h.one,bA o⟩ ?_
 simp only [np]
 refine af fun r0=>af fun r1=>?_
 refine aa ?_
 refine aw (Qh (O:=[]) h o) ?_
 rintro _ H1 _ ⟨⟨cells,rfl,k1,k2,k3⟩,rfl⟩ l1
 refine ⟨cells,by simp [Shp.open,k1],k2,?_⟩
 have hrow:=Cg k1
 have hlc:iB (cdX cs o.card).base=true:=by rw [Jq];exact Bu hli _
 refine aw (Iu (cells:=[g cells 0,g cells 1,g cells 2,g cells 3,g cells 4,g cells 5,g cells 6,g cells 7,g cells 8,g cells 9,g cells 10,g cells 11,g cells 12,g cells 13]) (by rw [hrow];exact k3) rfl (by rw [hrow];exact k2) hlc) ?_
 rintro _ H2 O2 ⟨cells2,A,B,rfl,m1,m2,m3⟩ l2
 refine ⟨cells2,by simp [Shp.open,m1],m2,?_⟩
 refine aa (aa ?_)
 refine xL (O':=O2) (by simp) ⟨cells2,A,B,by rw [← Cg m1];rfl,m1,m2,m3⟩
end Go.Proofs.YtdhobpmnkfmcfaaGreatDoor
namespace Go.Proofs.YtdhobpmnkfmcfaaGreatDoor
open Go Go.Sx
set_option maxRecDepth 100000
set_option maxHeartbeats 1000000
theorem OZ {r:List Value} (h:r.length=2):(r.drop 1).take 1=[g r 1]:=by
 match r,h with
 | [_,_],_=>rfl
theorem Kr {H:Heap} {v:Value} {cs:List CdX} (h:CardsX H v cs) (hli:eC (cs.map CdX.base)=true) (player id card trig:Int) {s:Value} (hs:s.oneCell'=true) :
  Triple PP u7 [v,.agg #[iV player,iV id,iV card,iV trig,s]] H [] fun r _ O'=>OSl eG 5 r (mu (OM cs card trig)) O':=by
 refine yU (vs:=[v,iV player,iV id,iV card,iV trig,s]) (by kernel_rfl) ⟨h.one,rfl,rfl,rfl,rfl,hs,trivial⟩ ?_
 simp only [nW]
 refine af fun r0=>?_
 refine aa ?_
 refine aw (Kq h hli (RN card)) ?_
 rintro _ H1 O1 ⟨cells,A,B,rfl,k1,k2,k3,k4,k5,k6⟩ l1
 refine ⟨cells,by simp [Shp.open,k1],k2,af fun r1=>?_⟩
 have k4:OSl eG 5 (g cells 11) (mu (cdX cs card).effs) A:=k4
 obtain ⟨rows,A',Ts,q1,q2,q3,q4,q5⟩:Sp (g cells 12) (cdX cs card).trs B:=k5
 have hlen:al .len [g cells 12]=some (iV (cdX cs card).trs.length):=by have:=q2.len;rwa [q3] at this
 refine aa (aa ?_)
 refine ab _ (az _ _) (aj (fun hb=>?_) (fun hb=>?_))
 ·have hb:trig=-1:=by simpa using hb
  refine aa ?_
  refine y3 (O':=A) (Y:=B) (by simpa using k6) ?_
  rw [OM,if_pos hb];exact k4
 have hb:trig ≠ -1:=by simpa using hb
 refine aa ?_
 refine ab _ (aI _ _) ?_
 repeat (first | refine aa ?_ | refine ae ?_)
 refine ab _ hlen ?_
 refine ae (ae (ab _ (fh _ _) (ae (ab _ (aR _ _) ?_))))
 refine aj (fun hc=>?_) (fun hc=>?_)
 ·have hc:(decide (trig < 0) || decide (trig ≥ ((cdX cs card).trs.length:Int)))=true:=hc
  refine mV ?_
  rw [OM,if_neg hb,if_pos (by simpa using hc)];exact OSl.nil _ _
 ·have hc:(decide (trig < 0) || decide (trig ≥ ((cdX cs card).trs.length:Int)))=false:=hc
  have hn:¬ (trig < 0∨trig ≥ ((cdX cs card).trs.length:Int)):=by simpa [Bool.or_eq_false_iff] using hc
  have hlt:trig.toNat < (cdX cs card).trs.length:=by omega
  have ecast:((trig.toNat:Nat):Int)=trig:=by omega
  have hri:rows[trig.toNat]?=some (rows[trig.toNat]'(by omega)):=List.getElem?_eq_getElem (by omega)
  have hTi:trig.toNat < Ts.length:=by omega
  have hT:=q5 _ _ _ _ hri (List.getElem?_eq_getElem hlt) (List.getElem?_eq_getElem hTi)
  obtain ⟨w1,w2⟩:=q2.rows_ok hri
  obtain ⟨p1,_⟩:=uu hTi
  have hmem:∀ p ∈ A',p ∈ O1++[]:=fun p hp=>by
   rw [List.append_nil]
   exact k6.mem_iff.2 (List.mem_append_right _ (q1.mem_iff.2 (List.mem_append_left _ hp)))
  obtain ⟨a,i1,i2,i3,i4⟩:=q2.idx hmem H1 (k:=.i64) hri
  have i5:=i4 1 1 (by omega)
  rw [OZ w1] at i5
  rw [ecast] at i1
  refine aa (aa ?_)
  refine ab _ i1 ?_
  refine aB rfl ?_
  refine aq i5 rfl ⟨hT.one,trivial⟩ ?_
  have hperm:(O1++[]).Perm (Ts[trig.toNat]++(A++(A'++List.flatten (Ts.eraseIdx trig.toNat)))):=by
   rw [List.append_nil]
   refine k6.trans ?_
   refine ((q1.trans (p1.append_left A')).append_left A).trans ?_
   refine ((List.perm_append_comm_assoc A' _ _).append_left A).trans ?_
   exact List.perm_append_comm_assoc A _ _
  refine y3 hperm ?_
  rw [OM,if_neg hb,if_neg hn,List.getD_eq_getElem?_getD,List.getElem?_eq_getElem hlt]
  exact hT
end Go.Proofs.YtdhobpmnkfmcfaaGreatDoor
namespace Go.Proofs.YtdhobpmnkfmcfaaGreatDoor
open Go Go.Sx
set_option maxRecDepth 100000
set_option maxHeartbeats 1000000
theorem Pv {H:Heap} {v:cX} {b:Bd} (h:BdS H v b) (hv:ax b=false):RetO PP xe [.agg (ap v b).toArray] H [] (.tuple #[.agg (ap zV zBd).toArray,.agg #[iV 0,iV 0,iV 0,iV 0,.slice none 0 0],iV 2]):=by
 refine xt (vs:=ap v b) (by kernel_rfl) (ao (h.r [])) ?_
 simp only [rS]
 refine af fun r0=>af fun r1=>af fun r2=>?_
 refine aa ?_
 refine ai (dN (h.r [])) rfl ⟨rfl,trivial⟩ fun H1 l1=>?_
 rw [hv]
 refine ab _ (aM _) (aj (fun _=>?_) (fun hd=>by cases hd))
 refine aa (aa (aa (aa ?_)))
 exact ah ⟨rfl,rfl⟩
end Go.Proofs.YtdhobpmnkfmcfaaGreatDoor
namespace Go.Proofs.YtdhobpmnkfmcfaaGreatDoor
open Go Go.Sx
set_option maxRecDepth 100000
set_option maxHeartbeats 1000000
end Go.Proofs.YtdhobpmnkfmcfaaGreatDoor
namespace Go.Proofs.YtdhobpmnkfmcfaaGreatDoor
open Go Go.Sx
set_option maxRecDepth 100000
set_option maxHeartbeats 1000000
end Go.Proofs.YtdhobpmnkfmcfaaGreatDoor
namespace Go.Proofs.YtdhobpmnkfmcfaaGreatDoor
open Go Go.Sx
set_option maxRecDepth 100000
set_option maxHeartbeats 1000000
theorem yQ {b:Bd} (h:ax b=true) {x:It} (hx:x ∈ b.stack):dk x false=true:=List.all_eq_true.1 (aW h).2.2.2 x hx
theorem Br {b:Bd} (h:ax b=true):b.stack.length≤200:=by
 simp only [ax,xT,Bool.and_eq_true,Bool.not_eq_true',Bool.or_eq_false_iff,decide_eq_false_iff_not] at h
 obtain ⟨a1,a2,a3,a4,⟨⟨⟨a5,a6⟩,a7⟩,a8⟩,_⟩:=h
 omega
end Go.Proofs.YtdhobpmnkfmcfaaGreatDoor
namespace Go.Proofs.YtdhobpmnkfmcfaaGreatDoor
open Go Go.Sx
set_option maxRecDepth 100000
set_option maxHeartbeats 1000000
theorem RL {H:Heap} {va vc:Value} (life:Int) {a c:List Int} (ha:Sl H 1 va (aH a)) (hc:Sl H 1 vc (aH c)) (hla:a.length≤1000) (hlc:c.length≤1000) :
  Triple PP oQ [iV life,.agg #[va,vc]] H [] (Sf life a c):=by
 refine vC (vs:=[iV life,va,vc]) (by kernel_rfl) ⟨rfl,ha.one,hc.one,trivial⟩ ?_
 simp only [ku]
 have la:=ha.len
 have lc:=hc.len
 rw [aH,List.length_map] at la lc
 refine af fun r0=>af fun r1=>af fun r2=>?_
 repeat (first | refine aa ?_ | refine ae ?_ | refine ab _ la ?_ | refine ab _ lc ?_ | refine ab _ (gX (by omega)) ?_ | refine ab _ (bH _ _) ?_ | refine ab _ (aI _ _) ?_ | refine ab _ (aR _ _) ?_)
 refine aj (fun hb=>aa (aa (ah (HO ?_ H)))) (fun hb=>?_)
 ·unfold HP
  simp only [Bool.or_eq_true,decide_eq_true_eq] at hb
  rcases hb with hb | hb
  ·have:¬ (1≤life∧life≤9999):=by omega
   simp only [this,decide_false,Bool.false_and]
  ·have:¬ (a.length + c.length≤500):=by omega
   simp only [this,decide_false,Bool.and_false,Bool.false_and]
 simp only [Bool.or_eq_false_iff,decide_eq_true_eq,decide_eq_false_iff_not] at hb
 have hlife:1≤life∧life≤9999:=by omega
 have hsum:a.length + c.length≤500:=by omega
 refine aa ?_
 refine vv a.length (fun i xs H' O'=>∃ o l O1 O2,xs=[o,l,qH]∧O'.Perm (O1++O2)∧Heap.le H H'∧OSl aK 12 o (((gU 0 a 0).take i).map Ob.row) O1∧OSl aN 1 l (aH (((gU 0 a 0).take i).map (·.id))) O2∧∀ x ∈ a.take i,0≤x∧x≤399)
  ⟨qH,qH,[],[],rfl,List.Perm.refl _,Heap.le_refl _,OSl.nil _ _,OSl.nil _ _,by simp⟩ ?_
 rintro i xs H2 O2' hi - - - ⟨o,l,O1,O2,rfl,hO,l2,ho,hl,hall⟩
 refine aa (ab _ la (ab _ (aI _ _) (aj (fun hb=>?_) (fun hb=>?_))))
 ·have hlt:i < a.length:=by simpa using hb
  obtain ⟨p,h1,h2,h3,h4⟩:=(ha.le l2).idx (k:=.i64) (i:=i) (r:=[iV a[i]]) (by simp [aH,hlt])
  refine aa (ab _ h1 (cM h2 h3 h4 (ab _ (aI _ _) (ae (aa (ae (ae (ae (xN h1 rfl (ae (GC h2 h3 h4 (ae (ab _ (bH _ _) (ae (ab _ (aR _ _) (aj (fun hb=>aa (aa (mV (HO ?_ H2)))) (fun hb=>?_)))))))))))))))))
  ·refine Gw (i:=i) (by simp;omega) ?_
   rw [List.getElem_append_left hlt]
   rintro ⟨q1,q2⟩
   simp at hb
   omega
  ·have hin:0≤a[i]∧a[i]≤399:=by simp at hb;omega
   have lno:=ho.len
   rw [List.length_map,List.length_take,ir,Nat.min_eq_left (by omega)] at lno
   refine aa (ab _ lno (ab _ (aD (by omega)) (aa (aa (ab _ h1 (cM h2 h3 h4 (af fun r3=>?_)))))))
   refine aG (rows:=((gU 0 a 0).take i).map Ob.row) (news:=[(JY ((i + 1:Nat):Int) a[i] 0).row]) (O1:=O1) (O2:=O2) (e:=aK) (size:=12) (bytes:=80) (by kernel_rfl) hO ho
    (fun Hf _ hf=>Sl.block1 (hf _ List.mem_cons_self) rfl (by simp [JY,Ob.row,Ones,Value.oneCell'])) ?_ ?_ ?_
   ·simp [ir];omega
   ·simp [ir];omega
   intro o' O1' H5 l5 ho'
   refine aa (aa (af fun r4=>?_))
   refine aG (rows:=aH (((gU 0 a 0).take i).map (·.id))) (news:=[[iV ((i + 1:Nat):Int)]]) (O1:=O2) (O2:=O1') (e:=aN) (size:=1) (bytes:=8) (by kernel_rfl) List.perm_append_comm hl
    (fun Hf _ hf=>Sl.block1 (hf _ List.mem_cons_self) rfl ⟨rfl,trivial⟩) ?_ ?_ ?_
   ·simp [aH,ir];omega
   ·simp [aH,ir];omega
   intro l' O2'' H6 l6 hl'
   refine aa (ab _ (aD (by omega)) (nS (by simp [Eqs,E]) hlt ⟨o',l',O1',O2'',rfl,List.perm_append_comm,?_,?_,?_,Jz hlt hall hin⟩))
   ·exact Heap.le_trans l2 (Heap.le_trans l5 l6)
   ·rw [yd hlt,List.map_append,Nat.zero_add];exact ho'
   ·rw [yd hlt,List.map_append,Nat.zero_add,CH] at *
    exact hl'
 ·have hie:i=a.length:=by simp at hb;omega
  subst hie
  rw [List.take_of_length_le (by rw [ir];exact Nat.le_refl _)] at ho hl
  rw [List.take_length] at hall
  refine aa ?_
  refine vv c.length (fun i xs H' O'=>∃ o m O1 O3,xs=[o,l,m]∧O'.Perm (O1++(O2++O3))∧Heap.le H2 H'∧OSl aK 12 o ((gU 0 a 0++(gU a.length c 1).take i).map Ob.row) O1∧OSl aN 1 m (aH (((gU a.length c 1).take i).map (·.id))) O3∧∀ x ∈ c.take i,0≤x∧x≤399)
   ⟨o,qH,O1,[],rfl,by simpa using hO,Heap.le_refl _,by simpa using ho,OSl.nil _ _,by simp⟩ ?_
  rintro i xs H3 O3' hi - - - ⟨o,m,O1,O3,rfl,hO,l3,ho,hm,hallc⟩
  refine aa (ab _ lc (ab _ (aI _ _) (aj (fun hb=>?_) (fun hb=>?_))))
  ·have hlt:i < c.length:=by simpa using hb
   obtain ⟨p,h1,h2,h3,h4⟩:=((hc.le l2).le l3).idx (k:=.i64) (i:=i) (r:=[iV c[i]]) (by simp [aH,hlt])
   refine aa (ab _ h1 (cM h2 h3 h4 (ab _ (aI _ _) (ae (aa (ae (ae (ae (xN h1 rfl (ae (GC h2 h3 h4 (ae (ab _ (bH _ _) (ae (ab _ (aR _ _) (aj (fun hb=>aa (aa (mV (HO ?_ H3)))) (fun hb=>?_)))))))))))))))))
   ·refine Gw (i:=a.length + i) (by simp;omega) ?_
    rw [List.getElem_append_right (by omega)]
    rintro ⟨q1,q2⟩
    simp at hb q1 q2
    omega
   ·have hin:0≤c[i]∧c[i]≤399:=by simp at hb;omega
    have lno:=ho.len
    rw [List.length_map,List.length_append,List.length_take,ir,ir,Nat.min_eq_left (by omega)] at lno
    refine aa (ab _ lno (ab _ (aD (by omega)) (aa (aa (ab _ h1 (cM h2 h3 h4 (af fun r5=>?_)))))))
    refine aG (rows:=(gU 0 a 0++(gU a.length c 1).take i).map Ob.row) (news:=[(JY ((a.length + i + 1:Nat):Int) c[i] 1).row]) (O1:=O1) (O2:=O2++O3) (e:=aK) (size:=12) (bytes:=80) (by kernel_rfl) hO ho
     (fun Hf _ hf=>Sl.block1 (hf _ List.mem_cons_self) rfl (by simp [JY,Ob.row,Ones,Value.oneCell'])) ?_ ?_ ?_
    ·simp [ir];omega
    ·simp [ir];omega
    intro o' O1' H6 l6 ho'
    refine aa (aa (af fun r6=>?_))
    refine aG (rows:=aH (((gU a.length c 1).take i).map (·.id))) (news:=[[iV ((a.length + i + 1:Nat):Int)]]) (O1:=O3) (O2:=O1'++O2) (e:=aN) (size:=1) (bytes:=8) (by kernel_rfl)
     (by rw [← List.append_assoc];exact List.perm_append_comm) hm (fun Hf _ hf=>Sl.block1 (hf _ List.mem_cons_self) rfl ⟨rfl,trivial⟩) ?_ ?_ ?_
    ·simp [aH,ir];omega
    ·simp [aH,ir];omega
    intro m' O3'' H7 l7 hm'
    refine aa (ab _ (aD (by omega)) (nS (by simp [Eqs,E]) hlt ⟨o',m',O1',O3'',rfl,?_,?_,?_,?_,Jz hlt hallc hin⟩))
    ·rw [← List.append_assoc O1'];exact List.perm_append_comm
    ·exact Heap.le_trans l3 (Heap.le_trans l6 l7)
    ·rw [yd hlt,← List.append_assoc,List.map_append];exact ho'
    ·rw [yd hlt,List.map_append]
     rw [CH] at hm'
     exact hm'
  ·have hie:i=c.length:=by simp at hb;omega
   subst hie
   rw [List.take_of_length_le (by rw [ir];exact Nat.le_refl _)] at ho hm
   rw [List.take_length] at hallc
   refine aa (aa (aa (Ny ?_ hO ho hl hm)))
   unfold HP
   simp only [Bool.and_eq_true,decide_eq_true_eq,List.all_eq_true]
   refine ⟨⟨hlife,hsum⟩,fun x hx=>?_⟩
   rcases List.mem_append.1 hx with hx | hx
   ·exact hall x hx
   ·exact hallc x hx
end Go.Proofs.YtdhobpmnkfmcfaaGreatDoor
namespace Go.Sx
open Go
set_option maxRecDepth 100000
set_option maxHeartbeats 1000000
theorem Qa {T:Heap→Own→(Value→Heap→Own→Prop)→Prop} {frz:List BV} {shp:Shp} {K:List Value→List (List Value)→Heap→Own→Prop} {H:Heap} {O B:Own} {Φ:Heap→Prop}
  (hz:∀ H1,Heap.le H H1→Cons H1 O→∃ Hf,Ghost H1 O Hf B∧Heap.le H1 Hf∧Φ Hf)
  (h:∀ Hf,Heap.le H Hf→(∀ b ∈ frz,Hf b.r=some b.obj.2)→Φ Hf→∃ Q,T Hf [] Q∧∀ v H' O',Q v H' O'→Heap.le Hf H'→∃ vs,shp.open v=some vs∧Ones vs∧K vs [] H' (O'++B)) :
  dT T false frz [] shp K H O:=by
 intro hc
 have hf:=ip hc
 have hc2:Cons (H.insAll frz) O:=by
  obtain ⟨w,F,hm⟩:=hc
  exact ⟨w,F,(nc (by simpa [List.append_assoc] using hm)).1⟩
 obtain ⟨Hf,g,hl,hphi⟩:=hz _ (Heap.le_insAll frz H) hc2
 obtain ⟨Q,hT,hk⟩:=h Hf (Heap.le_trans (Heap.le_insAll frz H) hl) (fun b hb=>hl.1 _ _ (hf b hb)) hphi
 refine ⟨Hf,[],B,Q,by simpa using g,by simpa using hT,fun v H' O' hq hle=>?_⟩
 obtain ⟨vs,h1,h2,h3⟩:=hk v H' O' hq hle
 exact ⟨vs,[],O',h1,h2,trivial,by simp [nb],by simpa using h3⟩
theorem PX {H:Heap} {O:Own}:∀ H1,Heap.le H H1→Cons H1 O→∃ Hf,Ghost H1 O Hf O∧Heap.le H1 Hf∧(fun _:Heap=>True) Hf:=fun H1 _ _=>⟨H1,Ghost.refl _ _,Heap.le_refl _,trivial⟩
end Go.Sx
namespace Go.Proofs.YtdhobpmnkfmcfaaGreatDoor
open Go Go.Sx
set_option maxRecDepth 100000
set_option maxHeartbeats 1000000
end Go.Proofs.YtdhobpmnkfmcfaaGreatDoor
namespace Go.Proofs.YtdhobpmnkfmcfaaGreatDoor
open Go Go.Sx
set_option maxRecDepth 100000
set_option maxHeartbeats 1000000
theorem Triple.frozen2 {P:Program} {f:FuncId} {args:List Value} {H:Heap} {t:Tys} {b:Bd} {e:Int} (h:Triple P f args H [] fun r _ O'=>∃ w,r=.tuple #[.agg (ap w b).toArray,iV e]∧OwnB t w b O') :
  Triple P f args H [] fun r H' O'=>(∃ w,r=.tuple #[.agg (ap w b).toArray,iV e]∧BdS H' w b)∧O'=[]:=by
 refine Triple.ghost h ?_
 rintro v H' O' _ hc ⟨w,rfl,ho⟩
 obtain ⟨H'',g,k,_⟩:=ho.freeze (X:=[]) (by simpa using hc)
 exact ⟨H'',[],by simpa using g,⟨w,rfl,k⟩,rfl⟩
end Go.Proofs.YtdhobpmnkfmcfaaGreatDoor
namespace Go.Proofs.YtdhobpmnkfmcfaaGreatDoor
open Go Go.Sx
set_option maxRecDepth 100000
set_option maxHeartbeats 1000000
theorem QX {H:Heap} {O:Own} {v:Value} {l:List It} (h:ItsS H v l) {i:Nat} {x:It} (hx:l[i]?=some x) :
  ∃ a s,al (.idx 5) [v,iV i]=some (.pointer (some a))∧Sl H 2 s (cK x.tgs)∧Reads H O (.pointer (some a)) 5 [iV x.player,iV x.id,iV x.card,iV x.trig,s] ∧
   ∀ off m,off + m≤5→Reads H O (aT (.pointer (some a)) off) m (([iV x.player,iV x.id,iV x.card,iV x.trig,s].drop off).take m):=by
 obtain ⟨rows,h1,h2,h3⟩:=h
 have hlt:=(List.getElem?_eq_some_iff.1 hx).1
 have hr:rows[i]?=some (rows[i]'(by omega)):=List.getElem?_eq_getElem (by omega)
 obtain ⟨s,e,hs⟩:=h3 i _ x hr hx
 obtain ⟨a,k1,k2,k3,_⟩:=(h1.rsl O).idx .i64 i _ hr
 rw [e] at k2 k3
 exact ⟨a,s,k1,hs,k2,k3⟩
theorem GY {α:Type} (l:List α) (x:α):(l++[x])[l.length]?=some x:=by simp
def sy (cs:List CdX) (x:It):List Int:=dL ((OM cs x.card x.trig).map (·.target))
def Lt (cs:List CdX) (x:It):Int:=if x.trig=-1∧(x.tgs.length:Int) < min 4 ((sy cs x).length:Int) then (sy cs x).getD x.tgs.length 0 else 0
def Ls (cs:List CdX) (b:Bd):Int:=match b.stack.getLast? with
 | none=>0
 | some x=>Lt cs x
theorem Lr {cs:List CdX} {b:Bd} {l:List It} {x:It} (hl:b.stack=l++[x]):Ls cs b=Lt cs x:=by
 simp [Ls,hl]
theorem Gs {cs:List CdX} {b:Bd} (hl:b.stack=[]):Ls cs b=0:=by
 simp [Ls,hl]
theorem Oe {b:Bd} (h:b.stack ≠ []):∃ l x,b.stack=l++[x]:=⟨b.stack.dropLast,b.stack.getLast h,(List.dropLast_concat_getLast h).symm⟩
theorem Jl {cs:List CdX} (hli:eC (cs.map CdX.base)=true) (c t:Int):(OM cs c t).length≤5:=by
 have h:=Bu hli c
 rw [← Jq] at h
 simp only [iB,CdX.base,Bool.and_eq_true,Bool.not_eq_true',Bool.or_eq_false_iff,decide_eq_false_iff_not,List.all_eq_true,List.length_map] at h
 obtain ⟨⟨h1,h2⟩,h3⟩:=h
 rw [OM]
 split
 ·omega
 split
 ·simp
 ·rename_i hn
  have hlt:t.toNat < (cdX cs c).trs.length:=by omega
  rw [List.getD_eq_getElem?_getD,List.getElem?_eq_getElem hlt,Option.getD_some]
  have:=h3 _ (List.mem_map.2 ⟨_,List.getElem_mem hlt,rfl⟩)
  omega
theorem JZ {cs:List CdX} (hli:eC (cs.map CdX.base)=true) (x:It):(sy cs x).length≤5:=by
 have:=Jl hli x.card x.trig
 have h2:(sy cs x).length≤((OM cs x.card x.trig).map (·.target)).length:=List.length_filter_le _ _
 rw [List.length_map] at h2
 omega
theorem Rf {H:Heap} {cv:Value} {cs:List CdX} (hk:CardsX H cv cs) (hli:eC (cs.map CdX.base)=true) {v:cX} {b:Bd} (h:BdS H v b) (hv:ax b=true):RetO PP Ar [cv,.agg (ap v b).toArray] H [] (iV (Ls cs b)):=by
  refine DI (vs:=cv::ap v b) (by kernel_rfl) ⟨hk.one,ao (h.r [])⟩ ?_
  simp only [uK]
  have slen:al .len [v.s]=some (iV b.stack.length):=ItsR.len (h.stack.r [])
  have h200:=Br hv
  refine af fun r0=>?_
  refine aa ?_
  refine ab _ slen ?_
  refine ab _ (az _ _) (aj (fun h0=>?_) (fun h0=>?_))
  · have h0:b.stack=[]:=List.length_eq_zero_iff.1 (by have:(b.stack.length:Int)=0:=by simpa using h0
                                                            omega)
    exact ah ⟨by rw [Gs h0],rfl⟩
  have hne:b.stack ≠ []:=fun e=>by rw [e] at h0;simp at h0
  obtain ⟨l,x,hl⟩:=Oe hne
  have hlen:b.stack.length=l.length + 1:=by rw [hl];simp
  have hxf:=yQ hv (x:=x) (by rw [hl];simp)
  rw [Lr hl]
  refine aa ?_
  refine ai (dN (h.r [])) rfl ⟨rfl,trivial⟩ fun H1 l1=>?_
  rw [hv]
  have h:=h.le l1
  have hk:=hk.le l1
  obtain ⟨a,s,k1,hs,k2,k3⟩:=QX (O:=[]) h.stack (i:=l.length) (x:=x) (by rw [hl];exact GY l x)
  have esub:((b.stack.length:Int) - 1)=(l.length:Int):=by omega
  refine ab _ (aM _) ?_
  refine aa (ae (ae ?_))
  refine ab _ (FO (by omega) (by omega)) ?_
  rw [esub]
  refine ae (ae ?_)
  refine ⟨_,fun _=>k1,.inr rfl,?_⟩
  refine ⟨fun _=>rfl,?_⟩
  refine ae (ae ?_)
  refine ⟨[iV x.trig],rfl,⟨rfl,trivial⟩,fun _=>k3 3 1 (by omega),?_⟩
  refine ae ?_
  refine ab _ (bd _ _) ?_
  refine ae ?_
  refine ab _ (aR _ _) (aj (fun ht=>?_) (fun ht=>?_))
  · have ht:(!true || x.trig != -1)=true:=ht
    have ht:x.trig ≠ -1:=by simpa using ht
    exact ah ⟨by rw [Lt,if_neg (fun h=>ht h.1)],rfl⟩
  have ht:(!true || x.trig != -1)=false:=ht
  have ht:x.trig=-1:=by simpa using ht
  refine aa ?_
  refine ab _ (FO (by omega) (by omega)) ?_
  rw [esub]
  refine ab _ k1 (aq k2 rfl ⟨rfl,rfl,rfl,rfl,hs.one,trivial⟩ (af fun r1=>?_))
  refine aa (aa ?_)
  refine aw (Triple.frozenS (Kr hk hli x.player x.id x.card x.trig hs.one)) ?_
  rintro ev H2 _ ⟨hev,rfl⟩ l2
  refine ⟨[ev],rfl,⟨hev.one,trivial⟩,?_⟩
  have hn5:=JZ hli x
  refine aw (Triple.frozenS (Qn (GW hev) (by rw [List.length_map];have:=Jl hli x.card x.trig;omega))) ?_
  rintro nv H3 _ ⟨hnv,rfl⟩ l3
  have hnv:Sl H3 1 nv (aH (sy cs x)):=hnv
  refine ⟨[nv],rfl,⟨hnv.one,trivial⟩,?_⟩
  have tlen:al .len [s]=some (iV x.tgs.length):=by have:=hs.len;rwa [bF] at this
  have nlen:al .len [nv]=some (iV (sy cs x).length):=by have:=hnv.len;rwa [aH,List.length_map] at this
  have ht4:x.tgs.length≤4:=by
    simp only [dk,Bool.and_eq_true,Bool.not_eq_true',Bool.or_eq_false_iff,decide_eq_false_iff_not] at hxf
    have:=hxf.2.2.2.2.1.1.1
    omega
  refine aa ?_
  refine ab _ tlen ?_
  refine ab _ nlen ?_
  refine ab _ (aI _ _) ?_
  refine ae ?_
  refine ab _ (aI _ _) ?_
  refine ae ?_
  refine ab _ (aX _ _) (aj (fun hc=>?_) (fun hc=>?_))
  · have hc:(decide ((x.tgs.length:Int) < ((sy cs x).length:Int)) && decide ((x.tgs.length:Int) < 4))=true:=hc
    have hc:(x.tgs.length:Int) < ((sy cs x).length:Int)∧(x.tgs.length:Int) < 4:=by simpa using hc
    have hlt:x.tgs.length < (sy cs x).length:=by omega
    obtain ⟨a2,i1,i2,_,i3,i4⟩:=(hnv.rsl ([]:Own)).idx .i64 x.tgs.length [iV (sy cs x)[x.tgs.length]] (by simp [aH,hlt])
    refine ab _ i1 (aq i2 rfl ⟨rfl,trivial⟩ ?_)
    refine ah ⟨?_,rfl⟩
    rw [Lt,if_pos ⟨ht,by omega⟩,List.getD_eq_getElem?_getD,List.getElem?_eq_getElem hlt];rfl
  · have hc:(decide ((x.tgs.length:Int) < ((sy cs x).length:Int)) && decide ((x.tgs.length:Int) < 4))=false:=hc
    have hc:¬ ((x.tgs.length:Int) < ((sy cs x).length:Int)∧(x.tgs.length:Int) < 4):=by
      intro hh
      rw [decide_eq_true hh.1,decide_eq_true hh.2] at hc
      cases hc
    exact ah ⟨by rw [Lt,if_neg (fun h=>hc (by omega))],rfl⟩
end Go.Proofs.YtdhobpmnkfmcfaaGreatDoor
namespace Go.Proofs.YtdhobpmnkfmcfaaGreatDoor
open Go Go.Sx
set_option maxRecDepth 100000
set_option maxHeartbeats 1000000
theorem J6 {α:Type} {Ts:List α} {n:Nat} (h:Ts.length=n + 1):∃ T,Ts=Ts.take n++[T]∧Ts[n]?=some T:=by
 have hlt:n < Ts.length:=by omega
 refine ⟨Ts[n],?_,List.getElem?_eq_getElem hlt⟩
 have:=List.take_append_drop n Ts
 rw [List.drop_eq_getElem_cons hlt,List.drop_of_length_le (by omega)] at this
 exact this.symm
theorem Pu {w:cX} {b:Bd} {O:Own} (ho:OwnBS tys w b O) {l:List It} {x:It} (hl:b.stack=l++[x]) :
  ∃ A T s a u,O.Perm (A++T)∧al (.idx 5) [w.s,iV l.length]=some (.pointer (some a))∧OSl aC 2 s (cK x.tgs) T ∧
   (∀ (H:Heap),Reads H O (.pointer (some a)) 5 [iV x.player,iV x.id,iV x.card,iV x.trig,s]) ∧
   al (.slc 5 false true false) [w.s,iV l.length]=some u∧OwnB tys { w with s:=u } { b with stack:=l } A:=by
 obtain ⟨A,R,hp,⟨rows,A1,Ts,q1,q2,q3,q4,q5⟩,back⟩:=ho
 have hn:b.stack.length=l.length + 1:=by rw [hl];simp
 have hri:rows[l.length]?=some (rows[l.length]'(by omega)):=List.getElem?_eq_getElem (by omega)
 have hxi:b.stack[l.length]?=some x:=by rw [hl];exact GY l x
 obtain ⟨T,eT,hT⟩:=J6 (Ts:=Ts) (n:=l.length) (by omega)
 obtain ⟨s,e,hs⟩:=q5 _ _ _ _ hri hxi hT
 obtain ⟨u,u1,u2⟩:=q2.upto (i:=l.length) (by omega)
 obtain ⟨a,k1,_⟩:=q2.store (O:=A1) (O2:=[]) (by simp) (k:=.i64) hri
 refine ⟨(A1++List.flatten (Ts.take l.length))++R,T,s,a,u,?_,k1,hs,fun H=>?_,u1,back u l _ ⟨rows.take l.length,A1,Ts.take l.length,List.Perm.refl _,u2,by rw [List.length_take];omega,by rw [List.length_take];omega,fun i r y Ty h1 h2 h3=>?_⟩⟩
 ·have e2:List.flatten Ts=List.flatten (Ts.take l.length)++T:=by
   conv=>lhs;rw [eT]
   rw [List.flatten_append];simp
  rw [e2] at q1
  refine hp.trans ((q1.append_right R).trans ?_)
  rw [List.append_assoc,List.append_assoc,List.append_assoc,List.append_assoc]
  refine List.Perm.append_left A1 ?_
  refine List.Perm.append_left _ ?_
  exact List.perm_append_comm
 ·obtain ⟨a',i1,_,i2,i3⟩:=q2.idx (fun p h=>hp.mem_iff.2 (List.mem_append_left _ (q1.mem_iff.2 (List.mem_append_left _ h)))) H (k:=.i64) hri
  have:a'=a:=by
   rw [k1] at i1
   simpa using i1.symm
  subst this
  rw [e] at i2
  exact i2
 ·have hil:i < l.length:=(List.getElem?_eq_some_iff.1 h2).1
  rw [List.getElem?_take,if_pos hil] at h1 h3
  have h2':b.stack[i]?=some y:=by rw [hl,List.getElem?_append_left hil];exact h2
  obtain ⟨s',e',k⟩:=q5 i r y Ty h1 h2' h3
  exact ⟨s',e',.inl k⟩
def FY (b:Bd):It:=b.stack.getLast?.getD zIt
theorem KK {b:Bd} {l:List It} {x:It} (hl:b.stack=l++[x]):FY b=x:=by simp [FY,hl]
def JN (b:Bd):Bd × Int:=if ax b=false then (zBd,2) else if b.stack=[] then (zBd,9) else if (FY b).trig=-1 then ((fL b (FY b).id 3).1,0) else ({ b with stack:=b.stack.dropLast },0)
def JO (b:Bd):It:=if ax b=false then zIt else FY b
theorem RY {H:Heap} {v:cX} {b:Bd} (h:BdS H v b) (hB:bdB b) :
    Triple PP xe [.agg (ap v b).toArray] H [] fun r _ O'=>∃ w s A T,r=.tuple #[.agg (ap w (JN b).1).toArray,.agg #[iV (JO b).player,iV (JO b).id,iV (JO b).card,iV (JO b).trig,s],iV (JN b).2] ∧
      O'.Perm (A++T)∧OwnB tys w (JN b).1 A∧OSl aC 2 s (cK (JO b).tgs) T:=by
  by_cases hv:ax b=true
  case neg =>
    have hv:ax b=false:=by simpa using hv
    have e:JN b=(zBd,2):=by rw [JN,if_pos hv]
    have e2:JO b=zIt:=by rw [JO,if_pos hv]
    rw [e,e2]
    refine (Pv h hv).mono ?_
    rintro r H' O' _ ⟨rfl,rfl⟩
    exact ⟨zV,.slice none 0 0,[],[],rfl,List.Perm.refl _,OwnB.zero tys,OSl.nil _ _⟩
  have e2:JO b=FY b:=by rw [JO,if_neg (by rw [hv];simp)]
  refine xt (vs:=ap v b) (by kernel_rfl) (ao (h.r [])) ?_
  simp only [rS]
  have h200:=Br hv
  refine af fun r0=>af fun r1=>af fun r2=>?_
  refine aa ?_
  refine ai (dN (h.r [])) rfl ⟨rfl,trivial⟩ fun H1 l1=>?_
  rw [hv]
  have h:=h.le l1
  have slen:al .len [v.s]=some (iV b.stack.length):=ItsR.len (h.stack.r [])
  refine ab _ (aM _) (aj (fun hd=>by cases hd) (fun _=>?_))
  refine aa ?_
  refine ab _ slen ?_
  refine ab _ (az _ _) (aj (fun h0=>?_) (fun h0=>?_))
  · have h0:b.stack=[]:=List.length_eq_zero_iff.1 (by have:(b.stack.length:Int)=0:=by simpa using h0
                                                            omega)
    have e:JN b=(zBd,9):=by rw [JN,if_neg (by rw [hv];simp),if_pos h0]
    have e3:FY b=zIt:=by simp [FY,h0]
    rw [e,e2,e3]
    refine aa (aa (aa (aa ?_)))
    exact ah ⟨zV,.slice none 0 0,[],[],rfl,List.Perm.refl _,OwnB.zero tys,OSl.nil _ _⟩
  have hne:b.stack ≠ []:=fun e=>by rw [e] at h0;simp at h0
  obtain ⟨l,x,hl⟩:=Oe hne
  have hlen:b.stack.length=l.length + 1:=by rw [hl];simp
  have hxf:=yQ hv (x:=x) (by rw [hl];simp)
  have hxid:i64 x.id:=by
    simp only [dk,ar,Bool.and_eq_true,decide_eq_true_eq] at hxf
    constructor <;> omega
  have esub:((b.stack.length:Int) - 1)=(l.length:Int):=by omega
  have etop:=KK hl
  rw [e2,etop]
  refine aa ?_
  refine aw (Mz h hB) ?_
  rintro _ H4 O4 ⟨w,rfl,ho⟩ l4
  refine ⟨ap w b,rfl,bo H4 ho.weak,?_⟩
  rw [List.append_nil]
  have h:=h.le l4
  obtain ⟨A,T,s4,a4,u,p1,i1,hs4,rd,hu,hpop⟩:=Pu ho hl
  refine af fun r3=>?_
  refine aa (aa ?_)
  refine ab _ (FO (by omega) (by omega)) ?_
  rw [esub]
  refine ab _ i1 (aq (rd H4) rfl ⟨rfl,rfl,rfl,rfl,hs4.one,trivial⟩ (af fun r4=>?_))
  refine aa (aa ?_)
  refine ab _ (az _ _) (aj (fun ht=>?_) (fun ht=>?_))
  · have ht:x.trig=-1:=by simpa using ht
    have e:JN b=((fL b x.id 3).1,0):=by rw [JN,if_neg (by rw [hv];simp),if_neg hne,etop,if_pos ht]
    rw [e]
    refine aa (aa ?_)
    refine aw (Ju h hB hxid 3) ?_
    rintro _ H5 O5 ⟨w5,rfl,ho5⟩ l5
    refine ⟨ap w5 (fL b x.id 3).1++[iV (fL b x.id 3).2],rfl,ay (bo H5 ho5) ⟨rfl,trivial⟩,?_⟩
    repeat (first | refine aa ?_ | refine ae ?_ | refine aB rfl ?_)
    refine y3 (O':=O5++T) (Y:=A) ?_ ⟨w5,s4,O5,T,rfl,List.Perm.refl _,ho5,hs4⟩
    rw [List.append_assoc]
    exact (p1.trans List.perm_append_comm).append_left O5
  · have ht:x.trig ≠ -1:=by simpa using ht
    have e:JN b=({ b with stack:=l },0):=by rw [JN,if_neg (by rw [hv];simp),if_neg hne,etop,if_neg ht,hl,List.dropLast_concat]
    rw [e]
    refine aa ?_
    refine ab _ (FO (by omega) (by omega)) ?_
    rw [esub]
    refine ab _ hu ?_
    repeat (first | refine aa ?_ | refine ae ?_ | refine aB rfl ?_)
    exact ah ⟨{ w with s:=u },s4,A,T,rfl,p1,hpop,hs4⟩
def bK (b:Bd) (id:Int):Bd × Int:=if (bc b id == 2)=true then (zBd,2) else if (bc b id != 0 || (sr b id).2.1 != 4)=true then (zBd,9) else fL b id 3
theorem Hi {H:Heap} {v:cX} {b:Bd} (h:BdS H v b) (hB:bdB b) {id:Int} (hid:i64 id):Triple PP u9 [.agg (ap v b).toArray,iV id] H [] fun r _ O'=>∃ w,r=.tuple #[.agg (ap w (bK b id).1).toArray,iV (bK b id).2]∧OwnB tys w (bK b id).1 O':=by
 refine yV (vs:=ap v b++[iV id]) (by kernel_rfl) (ay (ao (h.r [])) ⟨rfl,trivial⟩) ?_
 simp only [nX]
 refine af fun r0=>af fun r1=>?_
 refine aa ?_
 refine ai (FC h hid []) rfl (vs:=E1 (sr b id)++[iV (bc b id)]) ⟨rfl,rfl,rfl,rfl,trivial⟩ fun H1 l1=>af fun r2=>?_
 have h:=h.le l1
 refine aa ?_
 refine ab _ (az _ _) (aj (fun hb=>?_) (fun hb=>?_))
 ·have hb:(bc b id == 2)=true:=hb
  have e:bK b id=(zBd,2):=by rw [bK,if_pos hb]
  have e2:bc b id=2:=by simpa using hb
  rw [e,e2]
  refine aa (aa ?_)
  exact ah ⟨zV,rfl,OwnB.zero tys⟩
 have hb:(bc b id == 2)=false:=hb
 refine ab _ (bd _ _) ?_
 refine aa (ae (ae ?_))
 refine ab _ (bd _ _) ?_
 refine ae ?_
 refine ab _ (aR _ _) (aj (fun hc=>?_) (fun hc=>?_))
 ·have e:bK b id=(zBd,9):=by rw [bK,if_neg (by rw [hb];simp),if_pos hc]
  rw [e]
  refine aa (aa ?_)
  exact ah ⟨zV,rfl,OwnB.zero tys⟩
 have hc:(bc b id != 0 || (sr b id).2.1 != 4)=false:=hc
 have e:bK b id=fL b id 3:=by rw [bK,if_neg (by rw [hb];simp),if_neg (by rw [hc];simp)]
 rw [e]
 refine aa ?_
 refine aw (Ju h hB hid 3) ?_
 rintro _ H5 O5 ⟨w5,rfl,ho5⟩ l5
 refine ⟨ap w5 (fL b id 3).1++[iV (fL b id 3).2],rfl,ay (bo H5 ho5) ⟨rfl,trivial⟩,?_⟩
 rw [List.append_nil]
 refine aa (aa ?_)
 exact ah ⟨w5,rfl,ho5⟩
end Go.Proofs.YtdhobpmnkfmcfaaGreatDoor
namespace Go.Proofs.YtdhobpmnkfmcfaaGreatDoor
open Go Go.Sx
set_option maxRecDepth 100000
set_option maxHeartbeats 1000000
def szS (n:Nat) (s:St):Prop:=s.lib.length≤n∧s.hand.length≤n∧s.field.length≤n∧s.grave.length≤n
def szI (n:Nat) (l:List It):Prop:=l.length≤n∧∀ x ∈ l,x.tgs.length≤n
def szB (n:Nat) (b:Bd):Prop:=b.objs.length≤n∧szS n b.s0∧szS n b.s1∧szI n b.stack∧szI n b.queue∧b.att.length≤n∧b.blocks.length≤n
theorem szS.le {n m:Nat} {s:St} (h:szS n s) (hm:n≤m):szS m s:=⟨Nat.le_trans h.1 hm,Nat.le_trans h.2.1 hm,Nat.le_trans h.2.2.1 hm,Nat.le_trans h.2.2.2 hm⟩
theorem szI.le {n m:Nat} {l:List It} (h:szI n l) (hm:n≤m):szI m l:=⟨Nat.le_trans h.1 hm,fun x hx=>Nat.le_trans (h.2 x hx) hm⟩
theorem szB.le {n m:Nat} {b:Bd} (h:szB n b) (hm:n≤m):szB m b :=
 ⟨Nat.le_trans h.1 hm,szS.le h.2.1 hm,szS.le h.2.2.1 hm,szI.le h.2.2.2.1 hm,szI.le h.2.2.2.2.1 hm,Nat.le_trans h.2.2.2.2.2.1 hm,Nat.le_trans h.2.2.2.2.2.2 hm⟩
theorem SC {n:Nat} {b:Bd} (h:szB n b) (hn:n≤100000):bdB b:=by
 obtain ⟨a1,a2,a3,a4,a5,a6,a7⟩:=szB.le h (show n≤1000000 by omega)
 exact ⟨a1,a2,a3,a4,a5,a6,a7⟩
theorem QH {n:Nat} {b:Bd} (h:szB n b) (hn:n≤100000):FG b:=by
 obtain ⟨_,a2,a3,a4,_⟩:=szB.le h hn
 exact ⟨a2,a3,a4.1⟩
theorem Nc {b:Bd} (h:fi b=true):szB 40 b:=by
 simp only [fi,gM,ng,Bool.and_eq_true,Bool.not_eq_true',decide_eq_false_iff_not,decide_eq_true_eq,List.all_eq_true] at h
 obtain ⟨⟨a1,a2,a3,a4⟩,⟨b1,b2,b3,b4⟩,⟨c1,c2⟩,⟨d1,d2⟩,⟨e1,e2⟩,e3⟩:=h
 refine ⟨by omega,⟨by omega,by omega,by omega,by omega⟩,⟨by omega,by omega,by omega,by omega⟩,⟨by omega,fun x hx=>?_⟩,⟨by omega,fun x hx=>?_⟩,by omega,by omega⟩
 ·have:=c2 x hx;omega
 ·have:=d2 x hx;omega
theorem szI.app {n:Nat} {l:List It} (h:szI n l) {x:It} (hx:x.tgs.length≤n + 1):szI (n + 1) (l++[x]):=by
 refine ⟨by have:=h.1;simp;omega,fun y hy=>?_⟩
 rcases List.mem_append.1 hy with hy | hy
 ·have:=h.2 y hy;omega
 ·rw [List.mem_singleton.1 hy];exact hx
end Go.Proofs.YtdhobpmnkfmcfaaGreatDoor
namespace Go.Proofs.YtdhobpmnkfmcfaaGreatDoor
open Go Go.Sx
set_option maxRecDepth 100000
set_option maxHeartbeats 1000000
section
variable {b:Bd} {k j:Nat} {o:Ob} {ts:List Tg}
variable (hk:b.objs[k]?=some o)
include hk
end
end Go.Proofs.YtdhobpmnkfmcfaaGreatDoor
namespace Go.Proofs.YtdhobpmnkfmcfaaGreatDoor
open Go Go.Sx
set_option maxRecDepth 100000
set_option maxHeartbeats 1000000
theorem KG {b:Bd} (h:ax b=true) (id:Int):bc b id=0∨bc b id=9:=by
 rw [bc,if_pos h];split
 ·exact .inr rfl
 ·exact .inl rfl
theorem OA {b:Bd} (hv:ax b=true) {k:Nat} {o:Ob} (e1:b.objs[k]?=some o) (z:Int) (hz:z=0∨z=1∨z=2∨z=3):fL b o.id z=(J0 b k (cG o z) z,0):=by
 have e3:=(d9 (aW hv).1 e1).2.2.1
 have hE0:bc b o.id=0:=by
  have:¬ eH b o.id < 0:=by omega
  simp [bc,hv,this]
 have hEne:(bc b o.id != 0)=false:=by rw [hE0];rfl
 have hfo:=rn hEne e1 e3
 have emr:J0 b k (cG o z) z=J1 b k (cG o z) z:=by
  show ss (dD (I0 b o.id) k _) o.owner z o.id=ss (dD (vQ b o.id) k _) o.owner z o.id
  rw [HM hv]
 have hzw:ar z 0 3=true:=by simp only [ar,decide_eq_true_eq];omega
 rw [fL,if_neg (by rw [hE0,hzw];decide),if_neg (by rw [hEne];simp),hfo,e3,emr];rfl
theorem y7 {H:Heap} {v:cX} {b:Bd} (h:BdS H v b) (hv:ax b=true) (hB:bdB b) {k:Nat} {o:Ob} (hk:b.objs[k]?=some o) (z:Int) (hz:z=0∨z=1∨z=2∨z=3) :
  Triple PP jG [.agg (ap v b).toArray,iV o.id,iV z] H [] fun r H' O'=>(∃ w,r=.agg (ap w (fL b o.id z).1).toArray∧BdS H' w (fL b o.id z).1)∧O'=[]:=by
 rw [OA hv hk z hz]
 obtain ⟨_,_,e3,hown⟩:=d9 (aW hv).1 hk
 exact Lm h hB hk e3 hown z
theorem Gj {H:Heap} {v:cX} {b:Bd} (h:BdS H v b) (hv:ax b=true) (hB:bdB b) {id:Int}:Triple PP kZ [.agg (ap v b).toArray,iV id] H [] fun r H' O'=>(∃ w,r=.tuple #[.agg (ap w (bK b id).1).toArray,iV (bK b id).2]∧BdS H' w (bK b id).1)∧O'=[]:=by
 refine pV (vs:=ap v b++[iV id]) (by kernel_rfl) (ay (ao (h.r [])) ⟨rfl,trivial⟩) ?_
 simp only [ga]
 refine af fun r0=>af fun r1=>?_
 obtain ⟨w1,w2⟩:=MP hv id
 refine aa ?_
 refine ai (Pk (h.r []) id) rfl (vs:=E1 (F5 (gD (onR id) b id))++[iV (D8 (gD (onR id) b id))]) ⟨rfl,rfl,rfl,rfl,trivial⟩ fun H1 l1=>af fun r2=>?_
 rw [← w1,← w2]
 have h:=h.le l1
 have hn2:¬ (bc b id == 2)=true:=by
  rcases KG hv id with e | e <;> rw [e] <;> decide
 refine aa ?_
 refine ab _ (bd _ _) ?_
 refine aa (ae (ae ?_))
 refine ab _ (bd _ _) ?_
 refine ae ?_
 refine ab _ (aR _ _) (aj (fun hc=>?_) (fun hc=>?_))
 ·have e:bK b id=(zBd,9):=by rw [bK,if_neg hn2,if_pos hc]
  rw [e]
  refine aa (aa ?_)
  exact ah ⟨⟨zV,rfl,BE _⟩,rfl⟩
 have hc:(bc b id != 0 || (sr b id).2.1 != 4)=false:=hc
 have e:bK b id=fL b id 3:=by rw [bK,if_neg hn2,if_neg (by rw [hc];simp)]
 rw [Bool.or_eq_false_iff] at hc
 obtain ⟨_,k,o,e1,e2,e3,e4⟩:=nN hc.1
 have hmv:=y7 h hv hB e1 3 (by omega)
 have ez:(fL b o.id 3).2=0:=by rw [OA hv e1 3 (by omega)]
 rw [e2] at hmv ez
 rw [e]
 refine aa ?_
 refine aw hmv ?_
 rintro _ H5 _ ⟨⟨w5,rfl,h5⟩,rfl⟩ l5
 refine ⟨ap w5 (fL b id 3).1,rfl,ao (h5.r []),?_⟩
 refine aa (aa ?_)
 exact ah ⟨⟨w5,by rw [ez];rfl,h5⟩,rfl⟩
end Go.Proofs.YtdhobpmnkfmcfaaGreatDoor
namespace Go.Proofs.YtdhobpmnkfmcfaaGreatDoor
open Go Go.Sx
set_option maxRecDepth 100000
set_option maxHeartbeats 1000000
structure Ac where
 (what id:Int)
 x:It
 t:Tg
def Sd (a:Ac) (s:Value):List Value:=[iV a.what,iV a.id,iV a.x.player,iV a.x.id,iV a.x.card,iV a.x.trig,s,iV a.t.id,iV a.t.player]
def ActsS (H:Heap) (v:Value) (l:List Ac):Prop:=∃ rows,Sl H 9 v rows∧rows.length=l.length∧∀ (i:Nat) (r:List Value) (a:Ac),rows[i]?=some r→l[i]?=some a→i64 a.id∧∃ s,r=Sd a s∧Sl H 2 s (cK a.x.tgs)
theorem ActsS.le {H H':Heap} {v:Value} {l:List Ac} (h:ActsS H v l) (hl:Heap.le H H'):ActsS H' v l :=
 let ⟨rows,h1,h2,h3⟩:=h;⟨rows,h1.le hl,h2,fun i r x a b=>let ⟨k0,s,e,k⟩:=h3 i r x a b;⟨k0,s,e,k.le hl⟩⟩
theorem ActsS.len {H:Heap} {v:Value} {l:List Ac} (h:ActsS H v l):al .len [v]=some (iV l.length):=by
 obtain ⟨rows,h1,h2,_⟩:=h
 rw [← h2];exact h1.len
theorem ActsS.one {H:Heap} {v:Value} {l:List Ac} (h:ActsS H v l):v.oneCell'=true:=by
 obtain ⟨rows,h1,_⟩:=h
 exact h1.one
section
variable {H:Heap} {cv:Value} {cs:List CdX} (hk:CardsX H cv cs) (hli:eC (cs.map CdX.base)=true) {v u:cX} {b:Bd} (h:BdS H v b) (hu:BdS H u b) (hv:ax b=true) (hB:bdB b) (hfit:FG b)
 {r1 r2 r3 r4 r5 r6 r7 r8:Nat} {l0 l1 l2:List Value} {n m:Nat} (q0:g l0 0=cv) (q1:ag (G38 l0 1)=.agg (ap v b).toArray) (q2:ag (G38 l1 0)=.agg (ap u b).toArray)
include hk hli h hu hv hB hfit q0 q1 q2
end
section
variable {H:Heap} {v u:cX} {b:Bd} (h:BdS H v b) (hu:BdS H u b) (hv:ax b=true) (hB:bdB b)
 {r1 r2 r3 r4 r5 r6 r7 r8:Nat} {l0 l1:List Value} {n:Nat} (q1:ag (G38 l0 1)=.agg (ap v b).toArray) (q2:ag (G38 l1 0)=.agg (ap u b).toArray)
include h hu hv hB q1 q2
end
end Go.Proofs.YtdhobpmnkfmcfaaGreatDoor
namespace Go.Proofs.YtdhobpmnkfmcfaaGreatDoor
open Go Go.Sx
set_option maxRecDepth 100000
set_option maxHeartbeats 1000000
end Go.Proofs.YtdhobpmnkfmcfaaGreatDoor
namespace Go.Proofs.YtdhobpmnkfmcfaaGreatDoor
open Go Go.Sx
set_option maxRecDepth 100000
set_option maxHeartbeats 1000000
section
variable {b:Bd} (hv:ax b=true) {n:Nat} (hsz:szB n b)
include hv hsz
end
end Go.Proofs.YtdhobpmnkfmcfaaGreatDoor
namespace Go.Proofs.YtdhobpmnkfmcfaaGreatDoor
open Go Go.Sx
set_option maxRecDepth 100000
set_option maxHeartbeats 1000000
theorem gR (x y:Int):al .min2 [iV x,iV y]=some (iV (min x y)):=by
 simp only [al];congr 2;omega
theorem ln (x y:Int):al .max2 [iV x,iV y]=some (iV (max x y)):=by
 simp only [al];congr 2;omega
theorem rv {x y:Int} (h1:-9223372036854775808≤x + y) (h2:x + y < 9223372036854775808):al (.bin .add .int) [iV x,iV y]=some (iV (x + y)):=by
 simp only [al,fu,eL,if_true]
 rw [gJ (by omega) (by omega)]
def Pa (p:Int):Int:=max 0 (min p 99)
theorem QQ {H:Heap} {O:Own} (p:Int):RetO PP kK [iV 0,iV p] H O (iV (Pa p)):=by
 refine mt (vs:=[iV 0,iV p]) (by kernel_rfl) ⟨rfl,rfl,trivial⟩ ?_
 simp only [gv]
 refine ab _ (gR _ _) (ab _ (ln _ _) (ab _ (gR _ _) (ab _ (ln _ _) (ab _ (rv ?_ ?_) (ab _ (gR _ _) (ah ⟨?_,rfl⟩))))))
 ·omega
 ·omega
 ·rw [Pa];congr 1;omega
theorem Kp {H:Heap} {O:Own} {p:Int} (h0:0≤p) (hp:p < 9223372036854775808):RetO PP zK [iV 0,iV p] H O (iV p):=by
 refine zS (vs:=[iV 0,iV p]) (by kernel_rfl) ⟨rfl,rfl,trivial⟩ ?_
 simp only [vx]
 refine ab _ (rv (by omega) (by omega)) (ab _ (bH _ _) ?_)
 refine ae ?_
 refine ab _ (bH _ _) ?_
 refine ae ?_
 refine ab _ (aX _ _) ?_
 refine ae ?_
 refine ab _ (fh _ _) ?_
 refine ae ?_
 refine ab _ (aX _ _) (aj (fun hb=>by simp at hb) (fun _=>?_))
 refine ab _ (aI _ _) ?_
 refine ae ?_
 refine ab _ (aI _ _) ?_
 refine ae ?_
 refine ab _ (aX _ _) ?_
 refine ae ?_
 refine ab _ (cZ _ _) ?_
 refine ae ?_
 refine ab _ (aX _ _) (aj (fun hb=>by simp at hb) (fun _=>?_))
 exact ah ⟨by rw [Int.zero_add],rfl⟩
theorem Is {H:Heap} {O:Own} (p m:Int):RetO PP Dz [iV p,iV m] H O (iV (max 0 (min p m))):=by
 refine E4 (vs:=[iV p,iV m]) (by kernel_rfl) ⟨rfl,rfl,trivial⟩ ?_
 simp only [wU]
 exact ab _ (gR _ _) (ab _ (ln _ _) (ah ⟨rfl,rfl⟩))
theorem Mn {H:Heap} {O:Own} {p:Int} (h0:0≤p) (hp:p < 9223372036854775808):RetO PP DA [iV 0,iV p,iV 99] H O (iV (Pa p)):=by
 refine BP (vs:=[iV 0,iV p,iV 99]) (by kernel_rfl) ⟨rfl,rfl,rfl,trivial⟩ ?_
 simp only [yu]
 exact ai (Kp h0 hp) rfl ⟨rfl,trivial⟩ fun _ _=>ai (Is p 99) rfl ⟨rfl,trivial⟩ fun _ _=>ah ⟨rfl,rfl⟩
theorem OQ {H:Heap} {O:Own} {p:Int} (hp:p < 9223372036854775808):RetO PP sn [iV 0,iV p] H O (iV (Pa p)):=by
 refine t8 (vs:=[iV 0,iV p]) (by kernel_rfl) ⟨rfl,rfl,trivial⟩ ?_
 simp only [nn]
 refine ab _ (ln _ _) (ab _ (ln _ _) ?_)
 rw [show max (0:Int) 0=0 by omega]
 refine ai (Mn (p:=max 0 p) (by omega) (by omega)) rfl ⟨rfl,trivial⟩ fun _ _=>ah ⟨?_,rfl⟩
 show iV _=iV _
 congr 1;simp only [Pa];omega
def KL (id p pw tn:Int) (sick:Bool):Ob:={ zO with id:=id,card:=-1,owner:=p,power:=Pa pw,tough:=Pa tn,sick:=sick }
theorem DV {H:Heap} {O:Own} {id p pw tn:Int} (h1:pw < 9223372036854775808) (h2:tn < 9223372036854775808):RetO PP we [iV id,iV p,iV pw,iV tn] H O (.agg (KL id p pw tn false).row.toArray):=by
 refine AG (vs:=[iV id,iV p,iV pw,iV tn]) (by kernel_rfl) ⟨rfl,rfl,rfl,rfl,trivial⟩ ?_
 simp only [pm]
 refine af fun r0=>ai (OQ h1) rfl ⟨rfl,trivial⟩ fun _ _=>ai (OQ h2) rfl ⟨rfl,trivial⟩ fun _ _=>?_
 refine aa (aa ?_)
 exact ah ⟨rfl,rfl⟩
end Go.Proofs.YtdhobpmnkfmcfaaGreatDoor
namespace Go.Proofs.YtdhobpmnkfmcfaaGreatDoor
open Go Go.Sx
set_option maxRecDepth 100000
set_option maxHeartbeats 1000000
theorem QD:∀ k:Nat,k < 64→(bruijn.drop (2 ^ k * 285870213051353865 % 2 ^ 64 / 2 ^ 58)).take 1=[(k:Int)]:=by decide +kernel
theorem RP (a b:Nat):al (.bin .mul .int) [uV a,uV b]=some (uV (a * b % 2 ^ 64)):=by
 show some (Value.int .u64 (IntKind.u64.wrap ((a:Int) * b)))=_
 congr 2
theorem RH (a:Nat):al (.bin .shr .int) [uV a,uV 58]=some (uV (a / 2 ^ 58)):=by
 show some (Value.int .u64 ((a:Int).fdiv (2 ^ 58)))=_
 congr 2
 rw [Int.fdiv_eq_ediv_of_nonneg _ (by omega)]
 omega
theorem SJ {H:Heap} (hgl:GlobOk CL H) (O:Own) {x k m:Nat} (hx:x < 2 ^ 64) (hk:k < 64) (e:x=2 ^ k * (2 * m + 1)):RetO PP ei [uV x] H O (iV k):=by
 have hp:=Nat.two_pow_pos k
 have h0:0 < x:=by rw [e];exact Nat.mul_pos hp (by omega)
 have hpk:2 ^ k < 2 ^ 64:=Nat.pow_lt_pow_right (by omega) hk
 have t2:=QD k hk
 have t1:=RP (2 ^ k) 285870213051353865
 refine fK (vs:=[uV x]) (by kernel_rfl) ⟨rfl,trivial⟩ ?_
 simp only [cR]
 refine ab _ (Q2 x 0) (aj (fun hb=>?_) (fun _=>?_))
 ·have:x=0:=by simpa using hb
  omega
 ·refine ab _ (RO hx h0) (ab _ (Ri hx (by omega)) ?_)
  rw [PN hx e]
  generalize hM:2 ^ k * 285870213051353865 % 2 ^ 64=M at t1 t2
  have hM64:M < 2 ^ 64:=by rw [← hM];exact Nat.mod_lt _ (by omega)
  have hi:M / 2 ^ 58 < 64:=by omega
  refine ab _ t1 (ab _ (RH M) ?_)
  have hpi:al (.pidx 64 1) [.pointer (some ⟨0,0,none⟩),uV (M / 2 ^ 58)]=some (.pointer (some ⟨0,M / 2 ^ 58,none⟩)):=by
   show (if (0:Int)≤((M / 2 ^ 58:Nat):Int)∧((M / 2 ^ 58:Nat):Int) < (64:Nat) then some (Value.pointer (some (Addr.add ⟨0,0,none⟩ (((M / 2 ^ 58:Nat):Int).toNat * 1)))) else none)=_
   rw [if_pos ⟨by omega,by omega⟩,Int.toNat_natCast,Nat.mul_one,Addr.add]
   by_cases h:M / 2 ^ 58=0
   ·rw [if_pos h,h]
   ·rw [if_neg h];simp
  have hrd:H.read (.pointer (some ⟨0,M / 2 ^ 58,none⟩)) 1=some [Value.int .u8 k]:=by
   have:=(hgl 0 (bruijn.map fun n=>Value.int .u8 n) rfl).2 (M / 2 ^ 58) 1 (by rw [List.length_map];show _≤64;omega)
   rw [this,← List.map_drop,← List.map_take,t2];rfl
  refine ab _ hpi (cM hrd rfl ⟨rfl,trivial⟩ (ab (iV k) ?_ (ah ⟨rfl,rfl⟩)))
  show some (Value.int .i64 (IntKind.i64.wrap (k:Int)))=_
  rw [gJ (by omega) (by omega)]
theorem RS {H:Heap} (O:Own):RetO PP ei [uV 0] H O (iV 64):=by
 refine fK (vs:=[uV 0]) (by kernel_rfl) ⟨rfl,trivial⟩ ?_
 simp only [cR]
 exact ab _ (Q2 0 0) (aj (fun _=>ah ⟨rfl,rfl⟩) (fun hb=>by simp at hb))
def DG (ws:List Nat):List (List Value):=ws.map fun w=>[uV w]
def Rm (p:Value) (ws:List Nat) (O:Own):Prop :=
 ∃ r s A,p=.pointer (some ⟨r,0,none⟩)∧O=(r,.cells #[iV 500,s] bg (0,0))::A∧OSl yp 1 s (DG ws) A
theorem ym {r:Nat} {s:Value} {A:Own} {H:Heap}:Reads H ((r,.cells #[iV 500,s] bg (0,0))::A) (.pointer (some ⟨r,0,none⟩)) 1 [iV 500] :=
 .inr ⟨⟨r,0,none⟩,_,_,rfl,rfl,List.mem_cons_self,rfl,rfl⟩
theorem Di {r:Nat} {s:Value} {A:Own} {H:Heap}:Reads H ((r,.cells #[iV 500,s] bg (0,0))::A) (aT (.pointer (some ⟨r,0,none⟩)) 1) 1 [s] :=
 .inr ⟨⟨r,1,none⟩,_,_,rfl,rfl,List.mem_cons_self,rfl,rfl⟩
theorem NV {H:Heap}:Triple PP DB [iV 500] H [] fun v H' O'=>∃ p,v=.tuple #[p,iV 0]∧Rm p (List.replicate 8 0) O':=by
 refine E5 (vs:=[iV 500]) (by kernel_rfl) ⟨rfl,trivial⟩ ?_
 simp only [wY]
 refine ab _ (aI _ _) (ae (ab _ (aI _ _) (ae (ab _ (aI _ _) ?_))))
 refine aj (fun hb=>by simp at hb) (fun _=>?_)
 refine ab (iV 564) (by kernel_rfl) ?_
 refine ab (iV 563) (by kernel_rfl) ?_
 refine ab (iV (8:Nat)) (by kernel_rfl) ?_
 refine NB (n:=8) (elem:=yp) (z:=uV 0) (by kernel_rfl) (by kernel_rfl) (by kernel_rfl) (by kernel_rfl) rfl (by omega) fun s A hs=>?_
 refine af fun r0=>?_
 exact fun _=>⟨H,_,Ghost.refl _ _,_,rfl,r0,s,A,rfl,by simp [BV.obj,g],hs⟩
theorem OP {H:Heap} {r:Nat} {s:Value} {A:Own} (hs:s.oneCell'=true):RetO PP sG [.pointer (some ⟨r,0,none⟩)] H ((r,.cells #[iV 500,s] bg (0,0))::A) (.bool false):=by
 refine xx (vs:=[.pointer (some ⟨r,0,none⟩)]) (by kernel_rfl) ⟨rfl,trivial⟩ ?_
 simp only [ml]
 refine ab (.bool false) rfl ?_
 refine aB rfl (ae (aB rfl (ae (ae ?_))))
 refine ⟨[iV 500],rfl,⟨rfl,trivial⟩,fun _=>ym,?_⟩
 refine ae (ab _ (az _ _) (ae (ab _ (az _ _) ?_)))
 exact ah ⟨rfl,rfl⟩
end Go.Proofs.YtdhobpmnkfmcfaaGreatDoor
namespace Go.Proofs.YtdhobpmnkfmcfaaGreatDoor
open Go Go.Sx
set_option maxRecDepth 100000
set_option maxHeartbeats 1000000
theorem EX {x y:Int} (h1:-9223372036854775808≤x - y) (h2:x - y < 9223372036854775808):al (.bin .sub .int) [iV x,iV y]=some (iV (x - y)):=by
 simp only [al,fu,eL,if_true]
 rw [gJ (by omega) (by omega)]
abbrev idV (q r:Nat):Value:=iV (((64 * q + r:Nat):Int) + 1)
theorem OH {q r:Nat} (hq:q < 8) (hr:r < 64):al (.bin .sub .int) [idV q r,iV 1]=some (iV ((64 * q + r:Nat):Int)):=by
 rw [EX (by omega) (by omega)]
 congr 2;omega
theorem QZ {q r:Nat} (hq:q < 8) (hr:r < 64):al (.bin .quo .int) [iV ((64 * q + r:Nat):Int),iV 64]=some (iV (q:Int)):=by
 show some (Value.int .i64 (IntKind.i64.wrap (((64 * q + r) / 64:Nat):Int)))=_
 rw [gJ (by omega) (by omega),show (64 * q + r) / 64=q by omega]
theorem QY {q r:Nat} (hr:r < 64):al (.bin .rem .int) [iV ((64 * q + r:Nat):Int),iV 64]=some (iV (r:Int)):=by
 show some (Value.int .i64 (((64 * q + r) % 64:Nat):Int))=_
 rw [show (64 * q + r) % 64=r by omega]
theorem xh {ws:List Nat} {q:Nat} (h:q < ws.length):(DG ws)[q]?=some [uV ws[q]]:=by simp [DG,h]
theorem KD (ws:List Nat) (q w:Nat):(DG ws).set q [uV w]=DG (ws.set q w):=by simp [DG,List.map_set]
theorem RU {H:Heap} {r0:Nat} {s:Value} {A:Own} {ws:List Nat} (hs:OSl yp 1 s (DG ws) A) (hl:ws.length=8) {q r:Nat} (hq:q < 8) (hr:r < 64) {a:Addr} (ha:al (.idx 1) [s,iV (q:Int)]=some (.pointer (some a))) :
  RetO PP vd [.pointer (some ⟨r0,0,none⟩),idV q r] H ((r0,.cells #[iV 500,s] bg (0,0))::A) (.tuple #[.pointer (some a),uV (2 ^ r)]):=by
 refine yW (vs:=[.pointer (some ⟨r0,0,none⟩),idV q r]) (by kernel_rfl) ⟨rfl,rfl,trivial⟩ ?_
 simp only [nY]
 refine aB rfl (aB rfl ?_)
 refine ⟨[s],rfl,⟨hs.one,trivial⟩,fun _=>Di,?_⟩
 refine ab _ (OH hq hr) ?_
 refine ab _ (QZ hq hr) ?_
 refine ab _ ha ?_
 refine ab _ (OH hq hr) ?_
 refine ab _ (QY hr) ?_
 refine ab _ (RI hr) ?_
 exact ah ⟨rfl,rfl⟩
theorem Qk {H:Heap} {r0:Nat} {s:Value} {A:Own} {ws:List Nat} (hs:OSl yp 1 s (DG ws) A) (hl:ws.length=8) {q r:Nat} (hq:q < 8) (hr:r < 64) (h5:64 * q + r < 500) {a:Addr} (ha:al (.idx 1) [s,iV (q:Int)]=some (.pointer (some a))) :
  RetO PP qE [.pointer (some ⟨r0,0,none⟩),idV q r] H ((r0,.cells #[iV 500,s] bg (0,0))::A) (.tuple #[.pointer (some a),uV (2 ^ r),iV 0]):=by
 refine wo (vs:=[.pointer (some ⟨r0,0,none⟩),idV q r]) (by kernel_rfl) ⟨rfl,rfl,trivial⟩ ?_
 simp only [lD]
 refine ai (OP hs.one) rfl ⟨rfl,trivial⟩ fun H1 l1=>?_
 refine aj (fun hb=>by cases hb) (fun _=>?_)
 refine ab _ (aI _ _) ?_
 refine aB rfl (ae (aB rfl (ae (ae ?_))))
 refine ⟨[iV 500],rfl,⟨rfl,trivial⟩,fun _=>ym,?_⟩
 refine ae (ae ?_)
 refine ab _ (bH _ _) ?_
 refine ae ?_
 refine ab _ (aR _ _) ?_
 refine aj (fun hb=>?_) (fun _=>?_)
 ·simp at hb;omega
 ·refine ai (RU hs hl hq hr ha) rfl ⟨rfl,rfl,trivial⟩ fun H2 l2=>?_
  exact ah ⟨rfl,rfl⟩
theorem Px {w r:Nat} (h:w.testBit r=true):w ||| 2 ^ r=w:=by
 refine Nat.eq_of_testBit_eq fun j=>?_
 rw [Nat.testBit_or,Nat.testBit_two_pow]
 by_cases e:r=j
 ·subst e;rw [h];rfl
 ·rw [decide_eq_false e,Bool.or_false]
theorem Qs {w r:Nat}:(w &&& 2 ^ r != 0)=w.testBit r:=by
 have e:w &&& 2 ^ r=if w.testBit r then 2 ^ r else 0:=by
  refine Nat.eq_of_testBit_eq fun j=>?_
  rw [Nat.testBit_and,Nat.testBit_two_pow]
  by_cases e:r=j
  ·subst e;cases w.testBit r <;> simp
  ·rw [decide_eq_false e,Bool.and_false];split
   ·rw [Nat.testBit_two_pow,decide_eq_false e]
   ·simp
 rw [e]
 have:=Nat.two_pow_pos r
 cases w.testBit r <;> simp
def Dc (ws:List Nat) (q r:Nat):List Nat:=ws.set q (ws.getD q 0 ||| 2 ^ r)
theorem Qp {H:Heap} {p:Value} {O:Own} {ws:List Nat} (h:Rm p ws O) (hl:ws.length=8) (hw:∀ w ∈ ws,w < 2 ^ 64) {q r:Nat} (hr:r < 64) (h5:64 * q + r < 500) :
  Triple PP qF [p,idV q r] H O fun v H' O'=>(∃ e,v=iV e)∧Rm p (Dc ws q r) O':=by
 obtain ⟨r0,s,A,rfl,rfl,hs⟩:=h
 have hq:q < 8:=by omega
 have hql:q < ws.length:=by omega
 have hwq:=hw _ (List.getElem_mem hql)
 have hgd:ws.getD q 0=ws[q]:=by rw [List.getD_eq_getElem?_getD,List.getElem?_eq_getElem hql];rfl
 obtain ⟨a,ha,hst⟩:=hs.store (O:=(r0,.cells #[iV 500,s] bg (0,0))::A) (O2:=[(r0,.cells #[iV 500,s] bg (0,0))]) (by simpa using List.perm_append_comm (l₁:=[(r0,Obj.cells #[iV 500,s] bg (0,0))]) (l₂:=A)) (k:=.i64) (xh hql)
 obtain ⟨a',ha',_,hrd,_⟩:=hs.idx (O:=(r0,.cells #[iV 500,s] bg (0,0))::A) (fun p hp=>List.mem_cons_of_mem _ hp) H (k:=.i64) (xh hql)
 obtain rfl:a'=a:=by rw [ha] at ha';simpa using ha'.symm
 have hrd:∀ H',Reads H' ((r0,.cells #[iV 500,s] bg (0,0))::A) (.pointer (some a')) 1 [uV ws[q]]:=fun H'=>by
  obtain ⟨a2,h2,_,h3,_⟩:=hs.idx (O:=(r0,.cells #[iV 500,s] bg (0,0))::A) (fun p hp=>List.mem_cons_of_mem _ hp) H' (k:=.i64) (xh hql)
  obtain rfl:a2=a':=by rw [h2] at ha;simpa using ha
  exact h3
 refine wq (vs:=[.pointer (some ⟨r0,0,none⟩),idV q r]) (by kernel_rfl) ⟨rfl,rfl,trivial⟩ ?_
 simp only [lE]
 refine ai (Qk hs hl hq hr h5 ha) rfl ⟨rfl,rfl,rfl,trivial⟩ fun H1 l1=>?_
 refine ab _ (bd _ _) ?_
 refine aj (fun hb=>by cases hb) (fun _=>?_)
 refine aB rfl ?_
 refine ⟨[uV ws[q]],rfl,⟨rfl,trivial⟩,fun _=>hrd H1,?_⟩
 have hp2:2 ^ r < 2 ^ 64:=Nat.pow_lt_pow_right (by omega) hr
 refine ab _ (Ri hwq hp2) ?_
 refine ab _ (PE _ 0) ?_
 refine aj (fun hb=>?_) (fun _=>?_)
 ·rw [Qs] at hb
  refine ah ⟨⟨11,rfl⟩,r0,s,A,rfl,rfl,?_⟩
  rw [Dc,hgd,Px hb,List.set_getElem_self]
  exact hs
 ·refine aB rfl ?_
  refine ⟨[uV ws[q]],rfl,⟨rfl,trivial⟩,fun _=>hrd H1,?_⟩
  refine ab _ (Sm hwq hp2) ?_
  refine aB rfl (aB rfl ?_)
  obtain ⟨O1,hs1,hs2⟩:=hst 0 [uV (ws[q] ||| 2 ^ r)] (Nat.le_refl _) ⟨rfl,trivial⟩
  refine ⟨_,hs1,?_⟩
  refine fun _=>⟨_,_,Ghost.perm (List.perm_append_comm (l₁:=O1) (l₂:=[(r0,Obj.cells #[iV 500,s] bg (0,0))])),⟨0,rfl⟩,r0,s,O1,rfl,rfl,?_⟩
  rw [Dc,hgd,← KD]
  exact hs2
theorem Mi {ws:List Nat} {q r:Nat} (hr:r < 64) (hw:∀ w ∈ ws,w < 2 ^ 64):∀ w ∈ Dc ws q r,w < 2 ^ 64:=by
 intro w h
 rcases List.mem_or_eq_of_mem_set h with h | rfl
 ·exact hw w h
 ·refine Nat.or_lt_two_pow ?_ (Nat.pow_lt_pow_right (by omega) hr)
  rw [List.getD_eq_getElem?_getD]
  cases e:ws[q]? with
  | none=>simp
  | some x=>exact hw x (List.mem_of_getElem? e)
end Go.Proofs.YtdhobpmnkfmcfaaGreatDoor
namespace Go.Proofs.YtdhobpmnkfmcfaaGreatDoor
open Go Go.Sx
set_option maxRecDepth 100000
set_option maxHeartbeats 1000000
structure BitsOk (ws:List Nat) (inS:Nat→Bool):Prop where
 len:ws.length=8
 lt:∀ w ∈ ws,w < 2 ^ 64
 bit:∀ q r,q < 8→r < 64→(ws.getD q 0).testBit r=inS (64 * q + r)
theorem N6:BitsOk (List.replicate 8 0) fun _=>false where
 len:=rfl
 lt:=fun w h=>by rw [List.eq_of_mem_replicate h];omega
 bit:=fun q r hq _=>by
  rw [List.getD_eq_getElem?_getD,List.getElem?_replicate,if_pos hq];simp
theorem BitsOk.claim {ws:List Nat} {inS:Nat→Bool} (h:BitsOk ws inS) {q r:Nat} (hq:q < 8) (hr:r < 64):BitsOk (Dc ws q r) fun m=>inS m || m == 64 * q + r where
 len:=by rw [Dc,List.length_set];exact h.len
 lt:=Mi hr h.lt
 bit:=fun q' r' hq' hr'=>by
  have hl:=h.len
  rw [Dc,List.getD_eq_getElem?_getD,List.getElem?_set]
  by_cases e:q=q'
  ·subst e
   rw [if_pos rfl,if_pos (by omega),Option.getD_some,Nat.testBit_or,Nat.testBit_two_pow,h.bit q r' hq hr']
   congr 1
   rw [Bool.eq_iff_iff];simp;omega
  ·rw [if_neg e,← List.getD_eq_getElem?_getD,h.bit q' r' hq' hr']
   have:(64 * q' + r' == 64 * q + r)=false:=by simp;omega
   rw [this,Bool.or_false]
def Se (inS:Nat→Bool) (v:Value):Prop :=
 (∃ m:Nat,m < 500∧inS m=false∧(∀ j,j < m→inS j=true)∧v=.tuple #[iV ((m:Int) + 1),iV 0])∨((∀ m,m < 500→inS m=true)∧v=.tuple #[iV 0,iV 7])
theorem PG {x y:Int} (h1:-9223372036854775808≤x * y) (h2:x * y < 9223372036854775808):al (.bin .mul .int) [iV x,iV y]=some (iV (x * y)):=by
 simp only [al,fu,eL,if_true]
 rw [gJ (by omega) (by omega)]
theorem Mh {w j:Nat} (hj:j < 64):(2 ^ 64 - 1 ^^^ w).testBit j=!w.testBit j:=by
 rw [Nat.testBit_xor,Nat.testBit_two_pow_sub_one,decide_eq_true hj];cases w.testBit j <;> rfl
theorem Rb {H:Heap} (hgl:GlobOk CL H) {p:Value} {O:Own} {ws:List Nat} {inS:Nat→Bool} (h:Rm p ws O) (hb:BitsOk ws inS) :
  Triple PP sH [p] H O fun v _ _=>Se inS v:=by
 obtain ⟨r0,s,A,rfl,rfl,hs⟩:=h
 have hl:=hb.len
 have hlen:al .len [s]=some (iV (8:Nat)):=by have:=hs.len;rwa [DG,List.length_map,hl] at this
 refine xy (vs:=[.pointer (some ⟨r0,0,none⟩)]) (by kernel_rfl) ⟨rfl,trivial⟩ ?_
 simp only [mn]
 refine ai (OP hs.one) rfl ⟨rfl,trivial⟩ fun H1 l1=>?_
 refine aj (fun hb=>by cases hb) (fun _=>?_)
 refine aB rfl (aB rfl ?_)
 refine ⟨[s],rfl,⟨hs.one,trivial⟩,fun _=>Di,?_⟩
 refine ab _ hlen ?_
 refine aS 8 (fun i H' O'=>Heap.le H H'∧O'=(r0,.cells #[iV 500,s] bg (0,0))::A∧∀ m,m < 64 * i→m < 500→inS m=true) ⟨l1,rfl,fun m h=>absurd h (by omega)⟩ ?_
 rintro i H' O' hi - ⟨hle,rfl,hall⟩
 refine ab _ (aI _ _) ?_
 refine aj (fun hlt=>?_) (fun hlt=>?_)
 ·have hi8:i < 8:=by simp at hlt;omega
  have hil:i < ws.length:=by omega
  have hwi:=hb.lt _ (List.getElem_mem hil)
  have hgd:ws.getD i 0=ws[i]:=by rw [List.getD_eq_getElem?_getD,List.getElem?_eq_getElem hil];rfl
  have hbit:=hb.bit i
  rw [hgd] at hbit
  generalize hwd:ws[i]=w at hwi hbit hgd
  have hget:(DG ws)[i]?=some [uV w]:=by rw [xh hil,hwd]
  obtain ⟨a,ha,_⟩:=hs.idx (O:=(r0,.cells #[iV 500,s] bg (0,0))::A) (fun p hp=>List.mem_cons_of_mem _ hp) H' (k:=.i64) hget
  have hrd:∀ H',Reads H' ((r0,.cells #[iV 500,s] bg (0,0))::A) (.pointer (some a)) 1 [uV w]:=fun H'=>by
   obtain ⟨a2,h2,_,h3,_⟩:=hs.idx (O:=(r0,.cells #[iV 500,s] bg (0,0))::A) (fun p hp=>List.mem_cons_of_mem _ hp) H' (k:=.i64) hget
   obtain rfl:a2=a:=by rw [h2] at ha;simpa using ha
   exact h3
  refine ab _ ha ?_
  refine aq (hrd H') rfl ⟨rfl,trivial⟩ ?_
  refine ab _ (PG (by omega) (by omega)) ?_
  refine ab _ (Ij hwi) ?_
  have hcl:2 ^ 64 - 1 ^^^ w < 2 ^ 64:=Nat.xor_lt_two_pow (by omega) hwi
  have hcb:=fun j (hj:j < 64)=>Mh (w:=w) hj
  generalize hcd:2 ^ 64 - 1 ^^^ w=c at hcl hcb
  rcases Nat.eq_zero_or_pos c with h0 | h0
  ·subst h0
   have hfull:∀ m,m < 64 * (i + 1)→m < 500→inS m=true:=fun m hm h5=>by
    rcases Nat.lt_or_ge m (64 * i) with h | h
    ·exact hall m h h5
    ·have:=hcb (m - 64 * i) (by omega)
     rw [Nat.zero_testBit] at this
     have h2:=hbit (m - 64 * i) hi8 (by omega)
     rw [show 64 * i + (m - 64 * i)=m by omega] at h2
     rw [← h2];simpa using this.symm
   refine ai (RS _) rfl ⟨rfl,trivial⟩ fun H2 l2=>?_
   refine ab _ (rv (by omega) (by omega)) ?_
   refine ab _ (rv (by omega) (by omega)) ?_
   refine ab _ (Ij hwi) ?_
   rw [hcd]
   refine ab _ (PE 0 0) ?_
   refine aB rfl (ae (aB rfl (ae (ae ?_))))
   refine ⟨[iV 500],rfl,⟨rfl,trivial⟩,fun _=>ym,?_⟩
   refine ae (ae ?_)
   refine ab _ (fh _ _) ?_
   refine ae ?_
   refine ab _ (aX _ _) ?_
   refine aj (fun hb=>by simp at hb) (fun _=>?_)
   exact ab _ (aD (by omega)) (aO (by simp [Eqs]) hi8 ⟨Heap.le_trans hle l2,rfl,hfull⟩)
  ·obtain ⟨k,m',hk,e⟩:=LG h0 hcl
   have hlow:∀ m,m < 64 * i + k→m < 500→inS m=true:=fun m hm h5=>by
    rcases Nat.lt_or_ge m (64 * i) with h | h
    ·exact hall m h h5
    ·have:=hcb (m - 64 * i) (by omega)
     rw [PM e (by omega)] at this
     have h2:=hbit (m - 64 * i) hi8 (by omega)
     rw [show 64 * i + (m - 64 * i)=m by omega] at h2
     rw [← h2];simpa using this.symm
   have hkf:inS (64 * i + k)=false:=by
    have:=hcb k hk
    rw [QV e] at this
    rw [← hbit k hi8 hk];simpa using this.symm
   refine ai (SJ (hgl.le hle) _ hcl hk e) rfl ⟨rfl,trivial⟩ fun H2 l2=>?_
   refine ab _ (rv (by omega) (by omega)) ?_
   refine ab _ (rv (by omega) (by omega)) ?_
   refine ab _ (Ij hwi) ?_
   rw [hcd]
   refine ab _ (PE c 0) ?_
   refine aB rfl (ae (aB rfl (ae (ae ?_))))
   refine ⟨[iV 500],rfl,⟨rfl,trivial⟩,fun _=>ym,?_⟩
   refine ae (ae ?_)
   refine ab _ (fh _ _) ?_
   refine ae ?_
   refine ab _ (aX _ _) ?_
   refine aj (fun hy=>?_) (fun hn=>?_)
   ·have h5:64 * i + k < 500:=by simp at hy;omega
    refine aB rfl (aB rfl ?_)
    refine ⟨[s],rfl,⟨hs.one,trivial⟩,fun _=>Di,?_⟩
    refine ab _ ha ?_
    refine aq (hrd H2) rfl ⟨rfl,trivial⟩ ?_
    have hw1:w + 1 < 2 ^ 64:=by
     refine Nat.lt_of_le_of_ne (by omega) fun ew=>?_
     have hwm:w=2 ^ 64 - 1:=by omega
     rw [hwm,Nat.xor_self] at hcd
     omega
    refine ab _ (Sc (b:=1) hw1) ?_
    refine ab _ (Sm hwi hw1) ?_
    refine ab _ ha ?_
    refine aB rfl ?_
    obtain ⟨a3,ha3,hst⟩:=hs.store (O:=(r0,.cells #[iV 500,s] bg (0,0))::A) (O2:=[(r0,.cells #[iV 500,s] bg (0,0))]) (by simpa using List.perm_append_comm (l₁:=[(r0,Obj.cells #[iV 500,s] bg (0,0))]) (l₂:=A)) (k:=.i64) hget
    obtain rfl:a3=a:=by rw [ha3] at ha;simpa using ha
    obtain ⟨O1,hs1,_⟩:=hst 0 [uV (w ||| (w + 1))] (Nat.le_refl _) ⟨rfl,trivial⟩
    refine ⟨_,hs1,?_⟩
    refine ah (.inl ⟨64 * i + k,h5,hkf,fun j hj=>hlow j hj (by omega),?_⟩)
    show Value.tuple #[iV _,iV 0]=_
    congr 3
   ·have hne:(c != 0)=true:=by simp;omega
    rw [hne,Bool.true_and] at hn
    have h5:500≤64 * i + k:=by simp at hn;omega
    refine ab _ (aD (by omega)) (aO (by simp [Eqs]) hi8 ⟨Heap.le_trans hle l2,rfl,fun m _ hm5=>hlow m (by omega) hm5⟩)
 ·have hi8:i=8:=by simp at hlt;omega
  subst hi8
  exact ah (.inr ⟨fun m hm=>hall m (by omega) hm,rfl⟩)
end Go.Proofs.YtdhobpmnkfmcfaaGreatDoor
namespace Go.Sx
open Go
set_option maxRecDepth 100000
set_option maxHeartbeats 1000000
theorem Mj {P:Program} {op:PrimOp} {args:List Value} {H:Heap} {O O2 Y:Own} {r:Nat} {cs cs':List Value} {e:TypeId} {v:Value} {shp:Shp} {K:List Value→List (List Value)→Heap→Own→Prop} {vs:List Value}
  (hO:O.Perm ([(r,.cells cs.toArray e (0,0))]++(Y++O2))) (hrun:∀ w F,Models w H ([(r,.cells cs.toArray e (0,0))]++(Y++F))→(op.sem args).run P w=.ok (.value v) (w.setRow r cs'.toArray)) (ho:shp.open v=some vs) (h1:Ones vs)
  (hk:K vs [] H ([(r,.cells cs'.toArray e (0,0))]++(Y++O2))):dT (fun H1 O1 R=>bZ P (op.sem args) H1 O1 R) false [] [] shp K H O:=by
 intro _
 refine ⟨H,[(r,.cells cs.toArray e (0,0))]++Y,O2,fun v' H' O'=>v'=v∧H'=H∧O'=[(r,.cells cs'.toArray e (0,0))]++Y,Ghost.perm (by simpa using hO),fun w F hm=>⟨v,w.setRow r cs'.toArray,H,_,hrun w F (by simpa using hm),⟨rfl,rfl,rfl⟩,Heap.le_refl H,?_⟩,?_⟩
 ·have:=za (vs:=cs) (vs':=cs') (O:=Y++F) (by simpa using hm)
  simpa using this
 ·rintro v' H' O' ⟨rfl,rfl,rfl⟩ _
  exact ⟨vs,[],_,ho,h1,trivial,rfl,by simpa using hk⟩
theorem Kn {P:Program} {t t2 ty e:TypeId} {i:TypeInfo} (ht:P.underlying t=some (.slice e)) (hi:P.info? e=some i) {H:Heap} {O O2 Y:Own} {r off dLen dCap m k:Nat} {cs src:List Value} {x:Value} {K:List Value→List (List Value)→Heap→Own→Prop}
  (hO:O.Perm ([(r,.cells cs.toArray e (0,0))]++(Y++O2))) (hl:∀ w':World,(Builtin.lenOf x).run P w'=.ok m w') (hk:k=min m dLen)
  (hcells:∀ w F,Models w H ([(r,.cells cs.toArray e (0,0))]++(Y++F))→(Builtin.firstCells i.size k x).run P w=.ok src.toArray w) (hfit:off + src.length≤cs.length) (h1:∀ v ∈ src,v.oneCell'=true)
  (hK:K [iV (k:Int)] [] H ([(r,.cells (cs.take off++src++cs.drop (off + src.length)).toArray e (0,0))]++(Y++O2))) :
  dT (fun H1 O1 R=>bZ P ((PrimOp.bi .copy #[t,t2] ty).sem [.slice (some ⟨r,off,none⟩) dLen dCap,x]) H1 O1 R) false [] [] .one K H O:=by
 refine Mj (r:=r) (cs:=cs) (e:=e) (O2:=O2) (Y:=Y) (cs':=cs.take off++src++cs.drop (off + src.length)) hO (v:=iV (k:Int)) (fun w F hm=>?_) rfl ⟨rfl,trivial⟩ hK
 have hrow:=(hm.own (r,.cells cs.toArray e (0,0)) (by simp)).1
 have:=BW (P:=P) (t:=t) (t2:=t2) (ty:=ty) ht hi (w:=w) (off:=off) (dLen:=dLen) (dCap:=dCap) hrow hl hk (hcells w F hm) hfit h1
 simp only [PrimOp.sem,builtin]
 rw [Sem.run_bind,this]
 rfl
theorem Ml {P:Program} {t tn ty e:TypeId} {i:TypeInfo} {z:Value} {kn:IntKind} (ht:P.underlying t=some (.slice e)) (htn:P.underlying tn=some (.int kn)) (hi:P.info? e=some i) (hz:i.zero=some z) (hzs:z.cells.size=i.size) (hz1:∀ u ∈ z.cells.toList,u.oneCell'=true) (hs0:0 < i.size) (hby:i.bytes≤1000)
  {H:Heap} {O O2:Own} {r n cap m:Nat} {cs:List Value} {K:List Value→List (List Value)→Heap→Own→Prop} (hO:O.Perm ([(r,.cells cs.toArray e (0,0))]++O2)) (hfit:n * i.size≤cs.length) (h0:0 < m) (hg:cap < n + m) (hb:n + m≤2000000)
  (hK:∀ r2 c2 zs,zs.length=(c2 - n) * i.size→n + m≤c2→c2 < 2 ^ 63→(∀ u ∈ zs,Value.oneCell' u=true)→K [.slice (some ⟨r2,0,none⟩) (n + m) c2] [] H ([(r2,.cells (cs.take (n * i.size)++zs).toArray e (0,0))]++([(r,.cells cs.toArray e (0,0))]++O2))) :
  dT (fun H1 O1 R=>bZ P ((PrimOp.bi .append #[t,tn] ty).sem [.slice (some ⟨r,0,none⟩) n cap,iV (m:Int)]) H1 O1 R) false [] [] .one K H O:=by
 intro _
 refine ⟨H,[(r,.cells cs.toArray e (0,0))],O2,fun v' H' O'=>H'=H∧∃ r2 c2 zs,v'=.slice (some ⟨r2,0,none⟩) (n + m) c2∧zs.length=(c2 - n) * i.size∧n + m≤c2∧c2 < 2 ^ 63∧(∀ u ∈ zs,Value.oneCell' u=true)∧O'=[(r2,.cells (cs.take (n * i.size)++zs).toArray e (0,0))]++[(r,.cells cs.toArray e (0,0))],Ghost.perm hO,fun w F hm=>?_,?_⟩
 ·have hm':Models w.drew H ([(r,.cells cs.toArray e (0,0))]++F):=Models.same (w:=w) (by simpa using hm) rfl rfl
  have hold:(Builtin.firstCells i.size n (.slice (some ⟨r,0,none⟩) n cap)).run P w.drew=.ok (cs.take (n * i.size)).toArray w.drew:=by
   have:=CO (P:=P) hm' (size:=i.size) (k:=n) (off:=0) (n:=n) (cap:=cap) (by omega)
   rwa [List.drop_zero] at this
  have hns:Builtin.nextslicecap (n + m) cap * i.bytes≤281474976710656:=by
   have h1:=nextslicecap_le hg
   have h2:Builtin.nextslicecap (n + m) cap * i.bytes≤(2 * (n + m)) * 1000:=Nat.mul_le_mul h1 hby
   omega
  have hkb:m * i.bytes≤281474976710656:=by
   have h2:m * i.bytes≤2000000 * 1000:=Nat.mul_le_mul (by omega) hby
   omega
  have hrun:=Go.Lib.run_append_grow_zeros (P:=P) w t tn ty e i z .i64 kn ht htn hi hz (some ⟨r,0,none⟩) n cap (cs.take (n * i.size)) hold m h0 hs0 hg (by omega) hkb hns
  generalize hc2:grownCap w (n + m) cap e=c2 at hrun
  have hge:n + m≤c2:=by rw [← hc2];exact grownCap_ge _ _ _ _
  have hle:c2≤maxLen:=by rw [← hc2];exact grownCap_le_maxLen _ _ _ _ (by simp only [maxLen];omega)
  have hp:=hm'.push (.cells ((cs.take (n * i.size)).toArray++Builtin.zeroCells z.cells m++Builtin.zeroCells z.cells (c2 - (n + m))) e (0,0))
  have hzl:((Builtin.zeroCells z.cells m).toList++(Builtin.zeroCells z.cells (c2 - (n + m))).toList).length=(c2 - n) * i.size:=by
   rw [List.length_append,Array.length_toList,Array.length_toList,size_zeroCells,size_zeroCells,hzs,← Nat.add_mul]
   congr 1;omega
  have hcells:(cs.take (n * i.size)).toArray++Builtin.zeroCells z.cells m++Builtin.zeroCells z.cells (c2 - (n + m))=(cs.take (n * i.size)++((Builtin.zeroCells z.cells m).toList++(Builtin.zeroCells z.cells (c2 - (n + m))).toList)).toArray:=by
   apply Array.ext'
   simp
  rw [hcells] at hrun hp
  refine ⟨_,w.drew.alloc (.cells (cs.take (n * i.size)++((Builtin.zeroCells z.cells m).toList++(Builtin.zeroCells z.cells (c2 - (n + m))).toList)).toArray e (0,0)),H,_,?_,⟨rfl,w.heap.size,c2,_,rfl,hzl,hge,by simp only [maxLen] at hle;omega,?_,rfl⟩,Heap.le_refl H,?_⟩
  ·simp only [PrimOp.sem,builtin]
   rw [Sem.run_bind,hrun]
   rfl
  ·intro u hu
   rcases List.mem_append.1 hu with hu | hu
   ·exact BF hz1 u hu
   ·exact BF hz1 u hu
  ·exact hp
 ·rintro v' H' O' ⟨rfl,r2,c2,zs,rfl,hl,h1,h2,h3,rfl⟩ _
  exact ⟨[.slice (some ⟨r2,0,none⟩) (n + m) c2],[],_,rfl,⟨rfl,trivial⟩,trivial,rfl,by simpa using hK r2 c2 zs hl h1 h2 h3⟩
end Go.Sx
namespace Go.Proofs.YtdhobpmnkfmcfaaGreatDoor
open Go Go.Sx
set_option maxRecDepth 100000
set_option maxHeartbeats 1000000
theorem HC {size n k cap:Nat} {cs row src:List Value} {rows:List (List Value)} (hn:rows.length=n) (hk:k≤n) (hl:∀ row ∈ rows,row.length=size) (ht:cs.take (n * size)=rows.flatten) (hr:row.length=size) (hcl:cs.length=cap * size) (hcap:n + 1≤cap)
  (hsrc:src=(cs.drop (k * size)).take ((n - k) * size)) :
  let cs1:=cs.take ((k + 1) * size)++src++cs.drop ((k + 1) * size + src.length)
  let cs2:=cs1.take (k * size)++row++cs1.drop (k * size + row.length)
  cs1.length=cap * size∧cs2.length=cap * size∧cs2.take ((n + 1) * size)=(rows.take k++[row]++rows.drop k).flatten:=by
 subst hn
 obtain ⟨a1,a2⟩:=ue hl ht hk
 rw [← hsrc] at a2
 have e1:(k + 1) * size=k * size + size:=by rw [Nat.add_mul,Nat.one_mul]
 have e2:(rows.length + 1) * size=rows.length * size + size:=by rw [Nat.add_mul,Nat.one_mul]
 have e3:(rows.length - k) * size=rows.length * size - k * size:=Nat.sub_mul _ _ _
 have e4:k * size≤rows.length * size:=Nat.mul_le_mul_right _ hk
 have e5:(rows.length + 1) * size≤cap * size:=Nat.mul_le_mul_right _ hcap
 have hsl:src.length=rows.length * size - k * size:=by rw [hsrc,List.length_take,List.length_drop];omega
 intro cs1 cs2
 have h1:cs1.length=cap * size:=by
  show (cs.take ((k + 1) * size)++src++cs.drop ((k + 1) * size + src.length)).length=_
  rw [List.length_append,List.length_append,List.length_take,List.length_drop];omega
 have hd:cs1.drop (k * size + row.length)=src++cs.drop ((k + 1) * size + src.length):=by
  show (cs.take ((k + 1) * size)++src++cs.drop ((k + 1) * size + src.length)).drop _=_
  rw [List.append_assoc,List.drop_append_of_le_length (by rw [List.length_take];omega),List.drop_eq_nil_of_le (by rw [List.length_take];omega),List.nil_append]
 have htk:cs1.take (k * size)=(rows.take k).flatten:=by
  show (cs.take ((k + 1) * size)++src++cs.drop ((k + 1) * size + src.length)).take _=_
  rw [List.append_assoc,List.take_append_of_le_length (by rw [List.length_take];omega),List.take_take,Nat.min_eq_left (by omega),a1]
 have hkl:(rows.take k).flatten.length=k * size:=by rw [a1,List.length_take];omega
 have h2:cs2=(rows.take k++[row]++rows.drop k).flatten++cs.drop ((k + 1) * size + src.length):=by
  show cs1.take (k * size)++row++cs1.drop (k * size + row.length)=_
  rw [hd,htk,List.flatten_append,List.flatten_append,← a2,List.flatten_cons,List.flatten_nil,List.append_nil,List.append_assoc,List.append_assoc,List.append_assoc]
 have h3:(rows.take k++[row]++rows.drop k).flatten.length=(rows.length + 1) * size:=by
  rw [List.flatten_append,List.flatten_append,List.length_append,List.length_append,hkl,List.flatten_cons,List.flatten_nil,List.append_nil,a2,hr,hsl];omega
 refine ⟨h1,?_,?_⟩
 ·rw [h2,List.length_append,h3,List.length_drop];omega
 ·rw [h2,List.take_append_of_le_length (by omega),← h3,List.take_length]
theorem BL {r n cap k:Nat} (hk:k≤n) (hnc:n≤cap) (hck:k < cap):al (.slc 12 true false false) [.slice (some ⟨r,0,none⟩) n cap,iV (k:Int)]=some (.slice (some ⟨r,k * 12,none⟩) (n - k) (cap - k)):=by
 have b3:bJ n cap (some (iV (k:Int))) none none=some (k,n,cap):=by
  simp [bJ,cP,eu,oN,asI,hk]
 simp only [al,eU,jr,b3,Option.map_some]
 rw [if_neg (by omega)]
 show some (Value.slice (some ((⟨r,0,none⟩:Addr).add (k * 12))) (n - k) (cap - k))=_
 rw [cQ,Nat.zero_add]
theorem Oh {r n cap k:Nat} (hk:k≤cap):al (.slc 12 false true false) [.slice (some ⟨r,0,none⟩) n cap,iV (k:Int)]=some (.slice (some ⟨r,0,none⟩) k cap):=by
 have b2:bJ n cap none (some (iV (k:Int))) none=some (0,k,cap):=by
  simp [bJ,cP,eu,oN,asI,hk]
 simp only [al,eU,jr,b2,Option.map_some]
 simp [Addr.add]
theorem N1 {H:Heap} {A:Own} {v:Value} {rows:List (List Value)} (h:OSl aK 12 v rows A) {k:Nat} (hk:k≤rows.length) (hlen:rows.length≤1000000) {rb:Nat} {row:List Value} (hrl:row.length=12) (hro:Ones row) (hrb:H rb=some (.cells row.toArray aK (0,0))) :
  Triple PP dH [v,iV (k:Int),.slice (some ⟨rb,0,none⟩) 1 1] H A fun v' _ O'=>∃ A' X,O'=A'++X∧OSl aK 12 v' (rows.take k++[row]++rows.drop k) A':=by
 refine gN (vs:=[v,iV (k:Int),.slice (some ⟨rb,0,none⟩) 1 1]) (by kernel_rfl) ⟨h.one,rfl,rfl,trivial⟩ ?_
 simp only [cm]
 obtain ⟨hu,inf,hinf,hsz⟩:=Kx (P:=PP) (t:=23) (e:=aK) (size:=12) (bytes:=80) (by kernel_rfl)
 have hvl:=h.len
 by_cases hkn:k=rows.length
 ·-- at the end
  have hsl:∃ u,al (.slc 12 true false false) [v,iV (k:Int)]=some u∧u.oneCell'=true:=by
   rcases h with ⟨⟨a,rfl⟩,rfl,rfl⟩ | ⟨r,cs,cap,rfl,rfl,hcl,hlc,hcap,hl,ho,ht⟩
   ·subst hkn;exact ⟨_,rfl,by cases a <;> rfl⟩
   ·have b3:bJ rows.length cap (some (iV (k:Int))) none none=some (k,rows.length,cap):=by
     simp [bJ,cP,eu,oN,asI,hk]
    simp only [al,eU,jr,b3,Option.map_some]
    exact ⟨_,rfl,by split <;> rfl⟩
  obtain ⟨u,hu1,hu2⟩:=hsl
  refine ab _ hu1 ?_
  refine ab (iV 1) rfl ?_
  refine ab _ (az _ _) (aj (fun hb=>by simp at hb) (fun _=>?_))
  refine ab _ hvl ?_
  refine ab _ (az _ _) (aj (fun _=>?_) (fun hb=>by simp [hkn] at hb))
  refine aG (rows:=rows) (news:=[row]) (O1:=A) (O2:=[]) (e:=aK) (size:=12) (bytes:=80) (by kernel_rfl) (by simp) h (fun Hf lf _=>Sl.block1 (lf.1 _ _ hrb) hrl hro) (by simp;omega) (by simp;omega) ?_
  intro v' A' H6 l6 hA'
  refine ah ⟨A',[],rfl,?_⟩
  rw [hkn,List.take_length,List.drop_length,List.append_nil]
  exact hA'
 ·have hkl:k < rows.length:=by omega
  rcases h with ⟨⟨a,rfl⟩,rfl,rfl⟩ | ⟨r,cs,cap,rfl,rfl,hcl,hlc,hcap,hl,ho,ht⟩
  ·simp at hkl
  have hsl:=BL (r:=r) hk hlc (by omega)
  refine ab _ hsl ?_
  refine ab (iV 1) rfl ?_
  refine ab _ (az _ _) (aj (fun hb=>by simp at hb) (fun _=>?_))
  refine ab _ hvl ?_
  refine ab _ (az _ _) (aj (fun hb=>by simp at hb;omega) (fun _=>?_))
  refine ab _ (aD (by omega)) ?_
  refine ab (iV (cap:Int)) rfl ?_
  refine ab _ (bH _ _) (aj (fun hb=>?_) (fun hb=>?_))
  ·-- no room
   have hroom:cap < rows.length + 1:=by simp at hb;omega
   have hce:cap=rows.length:=by omega
   obtain ⟨z,hz⟩:∃ z,inf.zero=some z:=by
    have:((PP.info? aK).bind (·.zero)).isSome=true:=by kernel_rfl
    rw [hinf] at this
    exact Option.isSome_iff_exists.1 this
   have hz':z=.agg #[iV 0,iV 0,iV 0,iV 0,iV 0,iV 0,iV 0,iV 0,iV 0,.bool false,.bool false,.bool false]:=by
    have:(PP.info? aK).bind (·.zero)=some (.agg #[iV 0,iV 0,iV 0,iV 0,iV 0,iV 0,iV 0,iV 0,iV 0,.bool false,.bool false,.bool false]):=by kernel_rfl
    rw [hinf] at this
    exact Option.some.inj (hz.symm.trans this)
   have hby:inf.bytes≤1000:=by
    have:((PP.info? aK).map fun i=>decide (i.bytes≤1000))=some true:=by kernel_rfl
    rw [hinf] at this
    simpa using this
   refine ab _ (Oh (k:=k) (by omega)) ?_
   refine ab _ (aD (by omega)) ?_
   refine ab (iV ((rows.length + 1 - k:Nat):Int)) (by
    have:=EX (x:=((rows.length + 1:Nat):Int)) (y:=(k:Int)) (by omega) (by omega)
    rw [show ((rows.length + 1:Nat):Int) - k=((rows.length + 1 - k:Nat):Int) by omega] at this
    exact this) ?_
   refine Ml (n:=k) (m:=rows.length + 1 - k) (cs:=cs) (e:=aK) (O2:=[]) (kn:=.i64) hu (by kernel_rfl) hinf hz (by rw [hsz,hz'];rfl) (by rw [hz'];simp [Value.cells,Value.oneCell']) (by omega) hby (List.Perm.refl _) (by rw [hsz];omega) (by omega) (by omega) (by omega) fun r2 c2 zs hzl hc1 hc2 hzo=>?_
   rw [hsz] at hzl ⊢
   rw [show k + (rows.length + 1 - k)=rows.length + 1 by omega] at hc1 ⊢
   have hctl:(cs.take (k * 12)).length=k * 12:=by rw [List.length_take];omega
   have hnl:(cs.take (k * 12)++zs).length=c2 * 12:=by rw [List.length_append,hctl,hzl];omega
   refine ab _ (BL (k:=k) (by omega) hc1 (by omega)) ?_
   refine Dg (r:=r2) (off:=k * 12) (e:=aK) (O2:=[(r,.cells cs.toArray aK (0,0))]) (m:=1) (k:=1) (src:=row) hu hinf (List.Perm.refl _) (fun _=>rfl) (by omega) (fun w F hm=>by
    rw [hsz]
    have:=GQ hm (P:=PP) (size:=12) (k:=1) (n:=1) (cap:=1) hrb (by omega)
    rwa [show 1 * 12=row.length by omega,List.take_length] at this) (by rw [hnl,hrl];omega) (jg hro) ?_
   refine ab _ (aD (by omega)) ?_
   refine ab _ (BL (k:=k + 1) (by omega) hc1 (by omega)) ?_
   refine ab _ hsl ?_
   have hsrcl:((cs.drop (k * 12)).take ((rows.length - k) * 12)).length=(rows.length - k) * 12:=by rw [List.length_take,List.length_drop];omega
   have hsone:∀ u ∈ (cs.drop (k * 12)).take ((rows.length - k) * 12),u.oneCell'=true:=by
    rw [← (ue hl ht hk).2]
    intro u hu'
    obtain ⟨rw',hr,hu2⟩:=List.mem_flatten.1 hu'
    exact jg (ho rw' (List.mem_of_mem_drop hr)) u hu2
   have e1:(cs.take (k * 12)++zs).take (k * 12)=cs.take (k * 12):=by rw [List.take_append_of_le_length (by omega),List.take_take,Nat.min_self]
   have hn1:((cs.take (k * 12)++zs).take (k * 12)++row++(cs.take (k * 12)++zs).drop (k * 12 + row.length)).length=c2 * 12:=by
    rw [List.length_append,List.length_append,e1,hctl,List.length_drop,hnl,hrl];omega
   refine Kn (r:=r2) (off:=(k + 1) * 12) (e:=aK) (Y:=[(r,.cells cs.toArray aK (0,0))]) (O2:=[]) (m:=rows.length - k) (k:=rows.length - k) (src:=(cs.drop (k * 12)).take ((rows.length - k) * 12)) hu hinf (List.Perm.refl _) (fun _=>rfl) (by omega) (fun w F hm=>by
    rw [hsz]
    exact CO (hm.perm (List.perm_append_comm_assoc _ _ _)) (by omega)) (by rw [hn1,hsrcl];omega) hsone ?_
   refine ah ⟨_,[(r,.cells cs.toArray aK (0,0))],by rw [List.append_nil],.inr ⟨r2,_,c2,?_,rfl,?_,?_,hc2,?_,?_,?_⟩⟩
   ·show Value.slice _ _ _=Value.slice _ _ _
    rw [show (rows.take k++[row]++rows.drop k).length=rows.length + 1 by rw [List.length_append,List.length_append,List.length_take,List.length_drop,List.length_singleton];omega]
   ·rw [List.length_append,List.length_append,List.length_take,List.length_drop,hn1,hsrcl];omega
   ·rw [List.length_append,List.length_append,List.length_take,List.length_drop,List.length_singleton];omega
   ·intro x hx
    simp only [List.mem_append,List.mem_singleton] at hx
    rcases hx with (hx | rfl) | hx
    ·exact hl x (List.mem_of_mem_take hx)
    ·exact hrl
    ·exact hl x (List.mem_of_mem_drop hx)
   ·intro x hx
    simp only [List.mem_append,List.mem_singleton] at hx
    rcases hx with (hx | rfl) | hx
    ·exact ho x (List.mem_of_mem_take hx)
    ·exact hro
    ·exact ho x (List.mem_of_mem_drop hx)
   ·have f1:(rows.take k++[row]++rows.drop k).flatten=cs.take (k * 12)++row++(cs.drop (k * 12)).take ((rows.length - k) * 12):=by
     rw [List.flatten_append,List.flatten_append,(ue hl ht hk).1,(ue hl ht hk).2,List.flatten_cons,List.flatten_nil,List.append_nil]
    have f2:(rows.take k++[row]++rows.drop k).length * 12=(rows.length + 1) * 12:=by simp;omega
    rw [f1,f2,e1]
    have g1:(cs.take (k * 12)++row).length=(k + 1) * 12:=by rw [List.length_append,hctl,hrl];omega
    have g2:(cs.take (k * 12)++row++(cs.take (k * 12)++zs).drop (k * 12 + row.length)).take ((k + 1) * 12)=cs.take (k * 12)++row:=by
     rw [List.take_append_of_le_length (by omega),← g1,List.take_length]
    rw [g2]
    have g3:(cs.take (k * 12)++row++(cs.drop (k * 12)).take ((rows.length - k) * 12)).length=(rows.length + 1) * 12:=by rw [List.length_append,g1,hsrcl];omega
    rw [List.take_append_of_le_length (by omega),← g3,List.take_length]
  ·have hroom:rows.length + 1≤cap:=by simp at hb;omega
   refine ab _ (aD (by omega)) ?_
   refine ab _ (Oh hroom) ?_
   refine ab _ (aD (by omega)) ?_
   refine ab _ (BL (k:=k + 1) (by omega) hroom (by omega)) ?_
   refine Ko (r:=r) (rb:=rb) (cs:=cs) (bs:=row) (e:=aK) (size:=12) (tS:=23) (tR:=FJ) (O2:=[]) Tryz.func154 (by kernel_rfl) (by kernel_rfl) (by kernel_rfl) (by kernel_rfl) (by kernel_rfl) (by kernel_rfl) (List.Perm.refl _) hrb (by omega) ?_
   refine ab (.bool true) rfl (aj (fun _=>?_) (fun hb=>by cases hb))
   refine ab _ (aD (by omega)) ?_
   refine ab _ (BL (k:=k + 1) (by omega) hroom (by omega)) ?_
   refine ab _ (BL (k:=k) (by omega) hroom (by omega)) ?_
   obtain ⟨h1,h2,h3⟩:=HC (size:=12) (n:=rows.length) (row:=row) rfl hk hl ht hrl hcl hroom (src:=(cs.drop (k * 12)).take ((rows.length - k) * 12)) rfl
   have hsrcl:((cs.drop (k * 12)).take ((rows.length - k) * 12)).length=(rows.length - k) * 12:=by rw [List.length_take,List.length_drop];omega
   have hsone:∀ u ∈ (cs.drop (k * 12)).take ((rows.length - k) * 12),u.oneCell'=true:=by
    rw [← (ue hl ht hk).2]
    intro u hu'
    obtain ⟨rw',hr,hu2⟩:=List.mem_flatten.1 hu'
    exact jg (ho rw' (List.mem_of_mem_drop hr)) u hu2
   refine Dg (r:=r) (off:=(k + 1) * 12) (cs:=cs) (e:=aK) (O2:=[]) (m:=rows.length + 1 - k) (k:=rows.length - k) (src:=(cs.drop (k * 12)).take ((rows.length - k) * 12)) hu hinf (List.Perm.refl _) (fun _=>rfl) (by omega) (fun w F hm=>by rw [hsz];exact CO hm (by omega)) (by rw [hsrcl];omega) hsone ?_
   refine ab _ (BL (k:=k) (by omega) hroom (by omega)) ?_
   refine Dg (r:=r) (off:=k * 12) (e:=aK) (O2:=[]) (m:=1) (k:=1) (src:=row) hu hinf (List.Perm.refl _) (fun _=>rfl) (by omega) (fun w F hm=>by
    rw [hsz]
    have:=GQ hm (P:=PP) (size:=12) (k:=1) (n:=1) (cap:=1) hrb (by omega)
    rwa [show 1 * 12=row.length by omega,List.take_length] at this) (by rw [h1,hrl];omega) (jg hro) ?_
   refine ah ⟨_,[],(List.append_nil _).symm,.inr ⟨r,_,cap,?_,rfl,h2,?_,hcap,?_,?_,?_⟩⟩
   ·simp;omega
   ·simp;omega
   ·intro x hx
    simp only [List.mem_append,List.mem_singleton] at hx
    rcases hx with (hx | rfl) | hx
    ·exact hl x (List.mem_of_mem_take hx)
    ·exact hrl
    ·exact hl x (List.mem_of_mem_drop hx)
   ·intro x hx
    simp only [List.mem_append,List.mem_singleton] at hx
    rcases hx with (hx | rfl) | hx
    ·exact ho x (List.mem_of_mem_take hx)
    ·exact hro
    ·exact ho x (List.mem_of_mem_drop hx)
   ·rw [← h3];congr 2;simp;omega
end Go.Proofs.YtdhobpmnkfmcfaaGreatDoor
