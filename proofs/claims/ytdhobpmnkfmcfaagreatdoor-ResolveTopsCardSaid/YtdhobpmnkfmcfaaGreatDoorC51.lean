/- Legal targets; light cards; lists that are equal. -/
import Derived.Test.YtdhobpmnkfmcfaaGreatDoorC48
import Derived.Test.YtdhobpmnkfmcfaaGreatDoorKT
import Derived.Test.YtdhobpmnkfmcfaaGreatDoorC32
import Derived.Test.YtdhobpmnkfmcfaaGreatDoorM17
import Derived.Test.YtdhobpmnkfmcfaaGreatDoorRW
import Derived.Test.YtdhobpmnkfmcfaaGreatDoorC1
import Derived.Test.YtdhobpmnkfmcfaaGreatDoorC21
import Derived.Test.YtdhobpmnkfmcfaaGreatDoorKN
namespace Go.Proofs.YtdhobpmnkfmcfaaGreatDoor
open Go Go.Sx
set_option maxRecDepth 100000
set_option maxHeartbeats 1000000
theorem Vz (o p:Tg):MJ PP (.eqv .eql aA false) [.agg o.row.toArray,.agg p.row.toArray]=some (.bool (o == p)):=by
 have e:MJ PP (.eqv .eql aA false) [.agg o.row.toArray,.agg p.row.toArray]=(GW [o.id == p.id,o.player == p.player]).map fun b=>.bool b:=by kernel_rfl
 rw[e,qD]
 simp only[Option.map_some,Option.some.injEq,Value.bool.injEq]
 cases o;cases p
 rw[Bool.eq_iff_iff]
 simp
theorem HA {l:List Tg} {i:Nat} (h:i < l.length):(bO l)[i]?=some l[i].row:=by simp[bO,h]
theorem sZ (t:Tg):Ones t.row:=⟨rfl,rfl,trivial⟩
theorem SU {H:Heap} {O:Own} {v:Value} {l:List Tg} (h:Sl H 2 v (bO l)) (t:Tg):RetO PP ei [v,.agg t.row.toArray] H O (iV (gm (fun y=>t == y) l 0)):=by
 refine ic (vs:=v::t.row) (by kernel_rfl) ⟨h.one,sZ t⟩ ?_
 simp only[d5]
 have hlen:ak .len [v]=some (iV l.length):=by have:=h.len;rwa [bf] at this
 have hlB:=h.lenB
 rw[bf] at hlB
 refine af fun r0=>?_
 refine ab _ hlen ?_
 refine aQ l.length (fun i H' O'=>O'=O∧Heap.le H H'∧gm (fun y=>t == y) l 0=gm (fun y=>t == y) (l.drop i) i) ⟨rfl,Heap.le_refl H,by simp⟩ ?_
 rintro i H' O' hi - ⟨rfl,hle,hor⟩
 refine ab _ (aB _ _) (ai (fun hb=>?_) (fun hb=>?_))
 ·have hlt:i < l.length:=by simpa using hb
  obtain⟨a,h1,h2,h3,h4⟩:=(h.le hle).idx (k:=.i64) (HA hlt)
  refine aa ?_
  refine ab _ h1 (cG h2 h3 h4 ?_)
  refine rh (Vz t l[i]) (ai (fun hc=>?_) (fun hc=>?_))
  ·refine ah ⟨?_,rfl⟩
   rw[hor,List.drop_eq_getElem_cons hlt,gm,if_pos hc];rfl
  ·refine ab _ (az (by omega)) (aI (by simp[Eqs,E]) hlt ⟨rfl,hle,?_⟩)
   rw[hor,List.drop_eq_getElem_cons hlt,gm,if_neg (by rw[hc];simp)];rfl
 ·have hge:l.length≤i:=by simpa using hb
  refine ah ⟨?_,rfl⟩
  rw[hor,List.drop_of_length_le hge];rfl
theorem J9 {H:Heap} {O:Own} {v:Value} {l:List Tg} (h:Sl H 2 v (bO l)) (t:Tg):RetO PP dA [v,.agg t.row.toArray] H O (.bool (l.any fun y=>t == y)):=by
 refine gh (vs:=v::t.row) (by kernel_rfl) ⟨h.one,sZ t⟩ ?_
 simp only[dw]
 refine af fun r0=>?_
 refine aa ?_
 refine aj (SU h t) rfl ⟨rfl,trivial⟩ fun H1 _=>?_
 refine ab _ (cI _ _) (ah ⟨?_,rfl⟩)
 rw[← zz _ l 0 (by omega)]
def ug (cs:List Cd) (b:Bd) (p k:Int) (t:Tg):Bool:=(zQ cs b p k).any fun y=>t == y
theorem Vg {H:Heap} {cv:Value} {cs:List Cd} (hk:CardsS H cv cs) (hli:dh cs=true) {v:cn} {b:Bd} (h:BdS H v b) (hst:b.stack.length≤1000000) (p k:Int) (t:Tg) :
  RetO PP we [cv,.agg (al v b).toArray,iV p,iV k,.agg t.row.toArray] H [] (.bool (ug cs b p k t)):=by
 refine AY (vs:=cv::(al v b++(iV p::iV k::t.row))) (by kernel_rfl) ⟨hk.one,ax (am (h.r [])) ⟨rfl,rfl,sZ t⟩⟩ ?_
 simp only[vP]
 refine af fun r0=>af fun r1=>?_
 refine aa (aa ?_)
 refine ar (Ve hk hli h hst p k) ?_
 rintro x H1 _ ⟨hx,rfl⟩ l1
 refine⟨[x],rfl,⟨hx.one,trivial⟩,?_⟩
 refine aj (J9 hx t) rfl ⟨rfl,trivial⟩ fun H2 _=>?_
 exact ah ⟨rfl,rfl⟩
theorem Up {H:Heap} {cv:Value} {cs:List Cd} (hk:CardsS H cv cs) (hli:dh cs=true) {v:cn} {b:Bd} (h:BdS H v b) (hB:bdB b) (hfit:Jh b) (hst:b.stack.length≤1000000) (p k:Int) (t:Tg) :
  RetO PP mD [cv,.agg (al v b).toArray,iV p,iV k,.agg t.row.toArray] H [] (.bool (ug cs b p k t)):=by
 refine sn (vs:=cv::(al v b++(iV p::iV k::t.row))) (by kernel_rfl) ⟨hk.one,ax (am (h.r [])) ⟨rfl,rfl,sZ t⟩⟩ ?_
 simp only[lW]
 refine af fun r0=>af fun r1=>?_
 refine aa ?_
 refine ar (Um hk hli h hB hfit hst p k) ?_
 rintro x H1 _ ⟨hx,rfl⟩ l1
 refine⟨[x],rfl,⟨hx.one,trivial⟩,?_⟩
 rw[ug]
 generalize zQ cs b p k=l at hx
 have hlen:ak .len [x]=some (iV l.length):=by have:=hx.len;rwa [bf] at this
 have hlB:=hx.lenB
 rw[bf] at hlB
 refine aQ l.length (fun i H' O'=>O'=[]∧Heap.le H1 H'∧(l.any fun y=>t == y)=((l.drop i).any fun y=>t == y)) ⟨rfl,Heap.le_refl _,by simp⟩ ?_
 rintro i H' O' hi - ⟨rfl,hle,hor⟩
 refine ab _ hlen ?_
 refine ab _ (aB _ _) (ai (fun hb=>?_) (fun hb=>?_))
 ·have hlt:i < l.length:=by simpa using hb
  obtain⟨a,h1,h2,h3,h4⟩:=(hx.le hle).idx (k:=.i64) (HA hlt)
  refine ab _ h1 (cG h2 h3 h4 ?_)
  refine aa ?_
  have hcm:(t == l[i])=(l[i] == t):=Bool.eq_iff_iff.2 (by rw[beq_iff_eq,beq_iff_eq];exact eq_comm)
  refine rh (Vz l[i] t) (ai (fun hc=>?_) (fun hc=>?_))
  ·refine ah ⟨?_,rfl⟩
   rw[hor,List.drop_eq_getElem_cons hlt,List.any_cons,hcm,hc];rfl
  ·refine ab _ (az (by omega)) (aI (by simp[Eqs,E]) hlt ⟨rfl,hle,?_⟩)
   rw[hor,List.drop_eq_getElem_cons hlt,List.any_cons,hcm,hc];rfl
 ·have hge:l.length≤i:=by simpa using hb
  refine ah ⟨?_,rfl⟩
  rw[hor,List.drop_of_length_le hge];rfl
theorem SJ {H:Heap} (O:Own) {v:Value} {cs:List Cd} (h:CardsS H v cs) {i:Nat} (hi:i < cs.length) :
  ∃ a r,ak (.idx 14) [v,iV i]=some (.pointer (some a))∧CdR H r cs[i]∧Reads H O (aO (.pointer (some a)) 11) 1 [g r 11]∧Reads H O (aO (.pointer (some a)) 12) 1 [g r 12]:=by
 obtain⟨rows,h1,h2,h3⟩:=h
 have hlt:i < rows.length:=by omega
 obtain⟨a,k1,k2,k3,k4,k5⟩:=(h1.rsl O).idx .i64 i rows[i] (by simp[hlt])
 refine⟨a,rows[i],k1,h3 i _ _ (List.getElem?_eq_getElem hlt) (List.getElem?_eq_getElem hi),?_,?_⟩
 ·have e:((rows[i]).drop 11).take 1=[g rows[i] 11]:=by
   rw[g,List.getD_eq_getElem?_getD,List.getElem?_eq_getElem (by omega),List.drop_eq_getElem_cons (by omega)];rfl
  rw[← e];exact k3 11 1 (by omega)
 ·have e:((rows[i]).drop 12).take 1=[g rows[i] 12]:=by
   rw[g,List.getD_eq_getElem?_getD,List.getElem?_eq_getElem (by omega),List.drop_eq_getElem_cons (by omega)];rfl
  rw[← e];exact k3 12 1 (by omega)
theorem Q7 {H:Heap} (O:Own) {v:Value} {tr:List Nat} (h:TrigsS H v tr) {i:Nat} (hi:i < tr.length) :
  ∃ a r,ak (.idx 2) [v,iV i]=some (.pointer (some a))∧TrigR H r tr[i]∧Reads H O (aO (.pointer (some a)) 1) 1 [g r 1]:=by
 obtain⟨rows,h1,h2,h3⟩:=h
 have hlt:i < rows.length:=by omega
 obtain⟨a,k1,k2,k3,k4,k5⟩:=(h1.rsl O).idx .i64 i rows[i] (by simp[hlt])
 refine⟨a,rows[i],k1,h3 i _ _ (List.getElem?_eq_getElem hlt) (List.getElem?_eq_getElem hi),?_⟩
 have e:((rows[i]).drop 1).take 1=[g rows[i] 1]:=by
  rw[g,List.getD_eq_getElem?_getD,List.getElem?_eq_getElem (by omega),List.drop_eq_getElem_cons (by omega)];rfl
 rw[← e];exact k3 1 1 (by omega)
theorem Va {H:Heap} {v:Value} {cs:List Cd} (h:CardsS H v cs):RetO PP mR [v] H [] (.bool (dh cs)):=by
 refine sL (vs:=[v]) (by kernel_rfl) ⟨h.one,trivial⟩ ?_
 simp only[mn]
 have hB:cs.length < 2 ^ 63:=by
  obtain⟨rows,h1,h2,_⟩:=h
  have:=h1.lenB;omega
 refine aQ cs.length (fun i H' O'=>O'=[]∧Heap.le H H'∧i≤13∧((cs.take i).all iC)=true) ⟨rfl,Heap.le_refl H,by omega,rfl⟩ ?_
 rintro i H' O' hi - ⟨rfl,hle,hi13,hor⟩
 replace h:=h.le hle
 refine ab _ h.len ?_
 refine ab _ (aB _ _) ?_
 refine ae ?_
 refine ab _ (aB _ _) ?_
 refine ae ?_
 refine ab _ (aT _ _) (ai (fun hb=>?_) (fun hb=>?_))
 ·have hb:(decide ((i:Int) < (cs.length:Int)) && decide ((i:Int) < 13))=true:=hb
  rw[Bool.and_eq_true,decide_eq_true_eq,decide_eq_true_eq] at hb
  have hlt:i < cs.length:=by omega
  have hl13:i < 13:=by omega
  obtain⟨a,r,k1,k2,k3,k4⟩:=SJ [] h hlt
  have hst:dh cs=false∨iC cs[i]=true:=by
   cases hc:iC cs[i]
   ·refine .inl ?_
    rw[dh,Bool.and_eq_false_iff]
    refine .inl ?_
    rw[List.all_eq_false]
    exact⟨cs[i],List.mem_take_iff_getElem.2 ⟨i,by omega,rfl⟩,by rw[hc];simp⟩
   ·exact .inr rfl
  have hbad:∀ {x:Bool},iC cs[i]=false→x=false→(x=dh cs):=fun h1 h2=>by
   rcases hst with e | e
   ·rw[h2,e]
   ·rw[h1] at e;cases e
  refine ab _ k1 ?_
  refine aw rfl ?_
  refine ap k3 rfl ⟨k2.eff.one,trivial⟩ ?_
  refine ab _ k2.eff.len ?_
  refine ab _ (bK _ _) ?_
  refine ae (ae ?_)
  refine⟨.pointer (some a),fun _=>k1,.inr rfl,?_⟩
  refine aw rfl (ae (ae ?_))
  refine⟨[g r 12],rfl,⟨k2.trig.one,trivial⟩,fun _=>k4,?_⟩
  refine ae ?_
  refine ab _ k2.trig.len ?_
  refine ae ?_
  refine ab _ (bK _ _) ?_
  refine ae ?_
  refine ab _ (aR _ _) (ai (fun hc=>?_) (fun hc=>?_))
  ·have hc:(decide ((cs[i].tg.length:Int) > 5) || decide ((cs[i].tr.length:Int) > 3))=true:=hc
   refine ah ⟨?_,rfl⟩
   congr 1
   exact hbad (by rw[iC,hc];rfl) rfl
  ·have hc:(decide ((cs[i].tg.length:Int) > 5) || decide ((cs[i].tr.length:Int) > 3))=false:=hc
   have hc3:cs[i].tr.length≤3:=by
    rw[Bool.or_eq_false_iff,decide_eq_false_iff_not,decide_eq_false_iff_not] at hc;omega
   refine aQ cs[i].tr.length (fun j H2 O2=>O2=[]∧Heap.le H' H2∧(cs[i].tr.all fun n=>!decide ((n:Int) > 5))=((cs[i].tr.drop j).all fun n=>!decide ((n:Int) > 5))) ⟨rfl,Heap.le_refl _,rfl⟩ ?_
   rintro j H2 O2 hj - ⟨rfl,hle2,hor2⟩
   refine ab _ k1 ?_
   refine aw rfl ?_
   refine ap (iN k4 hle2) rfl ⟨k2.trig.one,trivial⟩ ?_
   refine ab _ k2.trig.len ?_
   refine ab _ (aB _ _) (ai (fun hd=>?_) (fun hd=>?_))
   ·have hjlt:j < cs[i].tr.length:=by simpa using hd
    obtain⟨a2,r2,m1,m2,m3⟩:=Q7 [] (k2.trig.le hle2) hjlt
    obtain⟨er,m4,m5⟩:=m2
    have el:ak .len [g r2 1]=some (iV cs[i].tr[j]):=by have:=m4.len;rwa [m5] at this
    refine ab _ k1 ?_
    refine aw rfl ?_
    refine ap (iN k4 hle2) rfl ⟨k2.trig.one,trivial⟩ ?_
    refine ab _ m1 ?_
    refine aw rfl ?_
    refine ap m3 rfl ⟨m4.one,trivial⟩ ?_
    refine ab _ el ?_
    refine ab _ (bK _ _) (ai (fun he=>?_) (fun he=>?_))
    ·have he:decide ((cs[i].tr[j]:Int) > 5)=true:=he
     refine ah ⟨?_,rfl⟩
     congr 1
     exact hbad (by rw[iC,hor2,List.drop_eq_getElem_cons hjlt,List.all_cons,he];simp) rfl
    ·have he:decide ((cs[i].tr[j]:Int) > 5)=false:=he
     refine ab _ (az (by omega)) (aI (by simp[Eqs,E]) hjlt ⟨rfl,hle2,?_⟩)
     rw[hor2,List.drop_eq_getElem_cons hjlt,List.all_cons,he];rfl
   ·have hjge:cs[i].tr.length≤j:=by simpa using hd
    rw[List.drop_of_length_le hjge] at hor2
    refine ab _ (az (by omega)) (aI (by simp[Eqs,E]) hlt ⟨rfl,Heap.le_trans hle hle2,by omega,?_⟩)
    rw[List.take_add_one,List.getElem?_eq_getElem hlt,List.all_append,hor]
    simp only[Option.toList_some,List.all_cons,List.all_nil,Bool.and_true,Bool.true_and]
    rw[iC,hc,hor2];rfl
 ·have hb:(decide ((i:Int) < (cs.length:Int)) && decide ((i:Int) < 13))=false:=hb
  rw[Bool.and_eq_false_iff,decide_eq_false_iff_not,decide_eq_false_iff_not] at hb
  refine ab _ h.len ?_
  refine ab _ (eR _ _) (ah ⟨?_,rfl⟩)
  congr 1
  rw[dh]
  rcases hb with hb | hb
  ·have e1:cs.take i=cs:=List.take_of_length_le (by omega)
   have e2:cs.take 13=cs:=List.take_of_length_le (by omega)
   rw[e1] at hor
   rw[e2,hor,Bool.true_and]
  ·obtain rfl:i=13:=by omega
   rw[hor,Bool.true_and]
theorem Vf {H:Heap} {v:Value} {tg:List Int} (h:EffsS H v tg) (hb:tg.length≤1000000):Triple PP wd [v] H [] fun r _ O'=>OSl eA 1 r (aE (dU tg)) O':=by
 refine AX (vs:=[v]) (by kernel_rfl) ⟨h.one,trivial⟩ ?_
 simp only[vO]
 refine ab _ h.len ?_
 refine de tg.length (fun i x H' O'=>Heap.le H H'∧OSl eA 1 x (aE (dU (tg.take i))) O') ⟨Heap.le_refl _,OSl.nil _ _⟩ ?_
 rintro i x H' O' hi - ⟨hle,hx⟩
 refine ab _ (aB _ _) (ai (fun hb=>?_) (fun hb=>?_))
 ·have hlt:i < tg.length:=by simpa using hb
  obtain⟨a,r,k1,k2,k3,k4,k5,_⟩:=J1 (O:=O') (h.le hle) hlt
  have hft:=fK (p:=fun t:Int=>t != 0) hlt
  refine ab _ k1 (ap (fD k2) k3 k4 (af fun r0=>?_))
  refine aa (aa ?_)
  rw[k5]
  refine ab _ (aY _ _) ?_
  refine ai (fun hc=>?_) (fun hc=>?_)
  ·have hc:(tg[i] != 0)=true:=hc
   have hlen:(dU (tg.take i)).length≤1000000:=by rw[dU];exact Nat.le_trans (List.length_filter_le _ _) (by rw[List.length_take];omega)
   refine aa ?_
   refine af fun r2=>?_
   refine aC (rows:=aE (dU (tg.take i))) (news:=[[iV tg[i]]]) (O1:=O') (O2:=[]) (e:=eA) (size:=1) (bytes:=8) (by kernel_rfl) (by simp) hx (fun Hf _ hf=>Sl.block1 (hf _ List.mem_cons_self) rfl ⟨rfl,trivial⟩) (by rw[aE,List.length_map,List.length_singleton];omega) (by rw[aE,List.length_map,List.length_singleton];omega) ?_
   intro v' A' H6 l6 hA'
   refine ab _ (az (by omega)) (aS (by simp[Eqs]) hlt ⟨Heap.le_trans hle l6,?_⟩)
   rw[List.append_nil,dU,hft,if_pos hc,aE,List.map_append];exact hA'
  ·have hc:(tg[i] != 0)=false:=hc
   refine ab _ (az (by omega)) (aS (by simp[Eqs]) hlt ⟨hle,?_⟩)
   rw[dU,hft,if_neg (by rw[hc];simp),List.append_nil];exact hx
 ·have hge:tg.length≤i:=by simpa using hb
  rw[List.take_of_length_le hge] at hx
  exact ah hx
theorem S3 {cs:List Cd} {b:Bd} {p x:Int}:x ∈ yu cs b p ↔ x ∈ sV cs b p∨x ∈ sV cs b (1 - p):=by
 rw[yu,(uY _).mem_iff,List.mem_append]
theorem Ig:∀ {l:List (Int × Int)} {a p:Int},(l.map (·.1)).Nodup→(a,p) ∈ l→l.Perm ((a,p)::l.filter fun q=>q.1 != a)
 | [],_,_,_,h=>by simp at h
 | q::l,a,p,hn,h=>by
  rw[List.map_cons,List.nodup_cons] at hn
  rcases List.mem_cons.1 h with rfl | h
  ·have e:l.filter (fun q=>q.1 != a)=l:=by
    rw[List.filter_eq_self]
    intro x hx
    simp only[bne_iff_ne,ne_eq]
    rintro rfl
    exact hn.1 (List.mem_map.2 ⟨x,hx,rfl⟩)
   rw[List.filter_cons,if_neg (by simp),e]
  ·have hne:q.1 ≠ a:=fun e=>hn.1 (List.mem_map.2 ⟨(a,p),h,e.symm⟩)
   rw[List.filter_cons,if_pos (by simpa using hne)]
   exact ((Ig hn.2 h).cons q).trans (List.Perm.swap _ _ _)
theorem Ii (s:St) (id p:Int):cB (RF s id) p=(cB s p).filter fun q=>q.1 != id:=by
 simp only[cB,RF,ce,List.filter_map,List.filter_append,List.map_append,Function.comp_def]
theorem I4 (l:List It) (id:Int):bH (l.filter fun x=>!ke id x)=(bH l).filter fun x=>x.id != id:=by
 rw[bH,bH,List.filter_filter,List.filter_filter]
 refine List.filter_congr fun x _=>?_
 simp only[ke]
 cases decide (x.trig < 0)
 ·simp
 ·simp[bne]
theorem OW (l:List It) (id:Int):eK (l.filter fun x=>!ke id x)=(eK l).filter fun q=>q.1 != id:=by
 rw[eK,eK,I4,List.filter_map];rfl
theorem Nz (l:List It) (id:Int):bg (l.filter fun x=>!ke id x)=(bg l).filter fun q=>q.1 != id:=by
 rw[bg,bg,I4,List.filter_map];rfl
theorem MP (b:Bd) (id:Int):aL (na b id)=(aL b).filter fun q=>q.1 != id:=by
 have e0:(na b id).s0=RF b.s0 id:=rfl
 have e1:(na b id).s1=RF b.s1 id:=rfl
 have e2:(na b id).stack=b.stack.filter fun x=>!ke id x:=rfl
 rw[aL,aL,e0,e1,e2,Ii,Ii,OW,List.filter_append,List.filter_append]
theorem Ih (s:St) {z:Int} (hz:z=0∨z=1∨z=2∨z=3) (id p:Int):(cB (HY s z id) p).Perm ((id,p)::cB s p):=by
 have key:∀ {a b c d:List Int},(a++([id]++(b++(c++d)))).Perm (id::(a++(b++(c++d)))):=fun {a b c d}=>List.perm_middle
 rcases hz with rfl | rfl | rfl | rfl
 ·have e:(HY s 0 id)={ s with lib:=s.lib++[id] }:=rfl
  rw[e,cB,cB,← List.map_cons (f:=fun i=>(i,p))]
  refine List.Perm.map _ ?_
  show (s.lib++[id]++(s.hand++(s.field++s.grave))).Perm _
  rw[List.append_assoc];exact List.perm_middle
 ·have e:(HY s 1 id)={ s with hand:=s.hand++[id] }:=rfl
  rw[e,cB,cB,← List.map_cons (f:=fun i=>(i,p))]
  refine List.Perm.map _ ?_
  show (s.lib++(s.hand++[id]++(s.field++s.grave))).Perm _
  rw[List.append_assoc,← List.append_assoc s.lib]
  refine List.perm_middle.trans ?_
  rw[List.append_assoc]
  exact List.Perm.refl _
 ·have e:(HY s 2 id)={ s with field:=s.field++[id] }:=rfl
  rw[e,cB,cB,← List.map_cons (f:=fun i=>(i,p))]
  refine List.Perm.map _ ?_
  show (s.lib++(s.hand++(s.field++[id]++s.grave))).Perm _
  rw[List.append_assoc,← List.append_assoc s.hand,← List.append_assoc s.lib]
  refine List.perm_middle.trans ?_
  rw[List.append_assoc,List.append_assoc]
  exact List.Perm.refl _
 ·have e:(HY s 3 id)={ s with grave:=s.grave++[id] }:=rfl
  rw[e,cB,cB,← List.map_cons (f:=fun i=>(i,p))]
  refine List.Perm.map _ ?_
  show (s.lib++(s.hand++(s.field++(s.grave++[id])))).Perm _
  rw[← List.append_assoc,← List.append_assoc,← List.append_assoc]
  refine List.perm_append_comm.trans ?_
  show (id::_).Perm _
  rw[List.append_assoc,List.append_assoc]
  exact List.Perm.refl _
theorem E0 (b:Bd) {p:Int} (hp:p=0∨p=1) {z:Int} (hz:z=0∨z=1∨z=2∨z=3) (id:Int):(aL (ll b p z id)).Perm ((id,p)::aL b):=by
 rcases hp with rfl | rfl
 ·exact (Ih b.s0 hz id 0).append_right _
 ·refine List.Perm.trans ((((Ih b.s1 hz id 1).append_right _).append_left _)) ?_
  exact List.perm_middle
theorem JO {l:List (Int × Int)} {id x v:Int} (h:cz (l.filter fun q=>q.1 != id) x=some v):cz l x=some v:=by
 induction l with
 | nil=>exact h
 | cons q l ih =>
  by_cases hq:q.1=id
  ·rw[List.filter_cons,if_neg (by simp[hq])] at h
   have h2:=ih h
   have hx:x ≠ id:=by
    rintro rfl
    have:cz (l.filter fun q=>q.1 != x) x=none:=by
     rw[fB]
     intro hm
     obtain⟨y,hy,e⟩:=List.mem_map.1 hm
     have:=(List.mem_filter.1 hy).2
     simp[e] at this
    rw[this] at h;cases h
   have hne:(x == q.1)=false:=by rw[hq];simpa using hx
   simp only[cz,List.find?_cons,hne] at h2 ⊢
   exact h2
  ·rw[List.filter_cons,if_pos (by simpa using hq)] at h
   simp only[cz,List.find?_cons] at h ih ⊢
   cases hxq:(x == q.1)
   ·rw[hxq] at h
    exact ih h
   ·rw[hxq] at h
    exact h
theorem Ie {b c:Bd} (h:bD aW b=true) (hp:(aL b).Perm (aL c)) (ho:c.objs=b.objs) (hc:∀ x v,cz (bg c.stack) x=some v→cz (bg b.stack) x=some v):bD aW c=true:=by
 obtain⟨p1,p2,p3⟩:=fc h
 have hn:=cR h
 rw[← iJ] at hn
 simp only[bD,Bool.and_eq_true,decide_eq_true_eq,nQ,ho]
 refine⟨(hp.map _).nodup_iff.1 hn,⟨p1,?_⟩,by rw[← hp.length_eq];exact p3⟩
 rw[List.all_eq_true] at p2 ⊢
 intro o hm
 have h1:=p2 o hm
 simp only[ok1,Bool.and_eq_true] at h1 ⊢
 rw[← zt hn hp]
 refine⟨h1.1,h1.2.1,h1.2.2.1,?_⟩
 have h2:=h1.2.2.2
 cases e:cz (bg c.stack) o.id with
 | none=>rfl
 | some v=>rw[hc _ _ e] at h2;exact h2
theorem Ku {att other att' other':List Int} {id:Int} (ha:∀ y ∈ att,y ≠ id→y ∈ att') (ho:∀ y ∈ other,y ≠ id→y ∈ other') :
  ∀ {bl:List Bl} {ua ub ua' ub':List Int},(∀ y ∈ ua',y ∈ ua)→(∀ y ∈ ub',y ∈ ub)→wW att other ua ub bl=true→wW att' other' ua' ub' (bl.filter fun x=>!eO id x)=true
 | [],_,_,_,_,_,_,_=>rfl
 | x::bl,ua,ub,ua',ub',h1,h2,h=>by
  simp only[wW,Bool.and_eq_true,Bool.not_eq_true',List.contains_iff_mem,← Bool.not_eq_true] at h
  obtain⟨⟨⟨q1,q2⟩,q3,q4⟩,q5⟩:=h
  by_cases hx:eO id x=true
  ·rw[List.filter_cons,if_neg (by simp[hx])]
   exact Ku ha ho (fun y hy=>List.mem_cons_of_mem _ (h1 y hy)) (fun y hy=>List.mem_cons_of_mem _ (h2 y hy)) q5
  ·rw[List.filter_cons,if_pos (by simpa using hx)]
   simp only[eO,Bool.or_eq_true,beq_iff_eq,not_or] at hx
   simp only[wW,Bool.and_eq_true,Bool.not_eq_true',List.contains_iff_mem,← Bool.not_eq_true]
   refine⟨⟨⟨fun hy=>q1 (h1 _ hy),ha _ q2 hx.2⟩,fun hy=>q3 (h2 _ hy),ho _ q4 hx.1⟩,?_⟩
   refine Ku ha ho (fun y hy=>?_) (fun y hy=>?_) q5
   ·rcases List.mem_cons.1 hy with rfl | hy
    ·exact List.mem_cons_self
    ·exact List.mem_cons_of_mem _ (h1 y hy)
   ·rcases List.mem_cons.1 hy with rfl | hy
    ·exact List.mem_cons_self
    ·exact List.mem_cons_of_mem _ (h2 y hy)
theorem wK {l:List Int} {id y:Int}:y ∈ ce l id ↔ y ∈ l∧y ≠ id:=by rw[ce,List.mem_filter,bne_iff_ne]
theorem rD {own other own' other' att:List Int} {bl:List Bl} {id:Int} (ha:∀ y ∈ own,y ≠ id→y ∈ own') (ho:∀ y ∈ other,y ≠ id→y ∈ other') (h:jD own other att bl=true) :
  jD own' other' (ce att id) (bl.filter fun x=>!eO id x)=true:=by
 simp only[jD,Bool.and_eq_true,decide_eq_true_eq,List.all_eq_true,List.contains_iff_mem] at h ⊢
 refine⟨h.1.filter _,fun x hx=>?_,Ku (fun y hy hne=>wK.2 ⟨hy,hne⟩) ho (fun _ h=>h) (fun _ h=>h) h.2.2⟩
 obtain⟨h1,h2⟩:=wK.1 hx
 exact ha x (h.2.1 x h1) h2
theorem Fe {b:Bd} {k:Nat} {o:Ob} {z:Int} (ho:o.owner=0∨o.owner=1) (hz:z=0∨z=1∨z=2∨z=3) {q:Int} (hq:q=0∨q=1) (y:Int) :
  y ∈ (ao (fA b k o z) q).field ↔ (y ∈ (ao b q).field∧y ≠ o.id)∨(y=o.id∧z=2∧q=o.owner):=by
 rw[fA]
 generalize o.id=id
 rcases ho with h | h <;> rw[h] <;> rcases hq with rfl | rfl <;> rcases hz with rfl | rfl | rfl | rfl <;> simp[ll,aV,ao,HY,bT,na,RF,wK]
theorem xX {b:Bd} {k:Nat} {o:Ob} {z:Int}:(fA b k o z).objs=b.objs.set k o:=by
 rw[fA,ll,aV];split <;> rfl
theorem u7 {b:Bd} {k:Nat} {o:Ob} {z:Int}:(fA b k o z).stack=b.stack.filter fun x=>!ke o.id x:=by
 rw[fA,ll,aV];split <;> rfl
theorem MZ {b:Bd} {k:Nat} {o:Ob} {z:Int}:bb (fA b k o z).s0=bb b.s0∧bb (fA b k o z).s1=bb b.s1:=by
 have hz:∀ (s:St) (id:Int),bb (HY s z id)=bb s:=fun s id=>by
  rw[HY]
  split
  ·rfl
  split
  ·rfl
  split
  ·rfl
  split
  ·rfl
  ·rfl
 rw[fA,ll,aV]
 split
 ·rename_i h
  refine⟨?_,rfl⟩
  show bb (HY (ao (bT (na b o.id) k o) o.owner) z o.id)=_
  rw[hz,ao,if_pos h];rfl
 ·rename_i h
  refine⟨rfl,?_⟩
  show bb (HY (ao (bT (na b o.id) k o) o.owner) z o.id)=_
  rw[hz,ao,if_neg h];rfl
theorem Po {b:Bd} {k:Nat} {o:Ob} {z:Int}:(fA b k o z).att=ce b.att o.id∧(fA b k o z).blocks=b.blocks.filter (fun x=>!eO o.id x)∧(fA b k o z).active=b.active∧(fA b k o z).turn=b.turn∧(fA b k o z).phase=b.phase∧(fA b k o z).holder=b.holder∧(fA b k o z).passes=b.passes∧(fA b k o z).queue=b.queue:=by
 rw[fA,ll,aV];split <;> exact⟨rfl,rfl,rfl,rfl,rfl,rfl,rfl,rfl⟩
theorem Fa {b:Bd} (h:an b=true) {k:Nat} {o:Ob} (hk:b.objs[k]?=some o) {z:Int} (hz:z=0∨z=1∨z=2∨z=3):an (fA b k (bu o z) z)=true:=by
 have hpl:=(aM h).1
 obtain⟨hvo,hmem,_,hown⟩:=cV hpl hk
 generalize hob:bu o z=o'
 have i1:o'.id=o.id:=by rw[← hob];rfl
 have i2:o'.owner=o.owner:=by rw[← hob];rfl
 have i3:o'.card=o.card:=by rw[← hob];rfl
 have hvo':aW o'=true:=by rw[← hob];exact zV z hvo
 have hown':o'.owner=0∨o'.owner=1:=by rw[i2];exact hown
 have hset:=EX hpl hk i1 i2 i3 hvo'
 obtain⟨r1,r2,r3,r4,r5,r6,r7,r8⟩:=Po (b:=b) (k:=k) (o:=o') (z:=z)
 obtain⟨s0,s1⟩:=MZ (b:=b) (k:=k) (o:=o') (z:=z)
 have hplm:bD aW (fA b k o' z)=true:=by
  refine Ie hset ?_ xX fun x v hx=>?_
  ·have hn:=cR hpl
   rw[← iJ] at hn
   have e:aL (bT (na b o'.id) k o')=(aL b).filter fun q=>q.1 != o'.id:=by rw[show aL (bT (na b o'.id) k o')=aL (na b o'.id) from rfl,MP]
   have p1:=Ig hn hmem
   have p2:=E0 (bT (na b o'.id) k o') hown' hz o'.id
   rw[e,i1,i2] at p2
   rw[fA,i1,i2]
   exact p1.trans p2.symm
  ·rw[u7,Nz] at hx
   exact JO hx
 have hf:dm (fA b k o' z)=true:=by
  have h0:=(aM h).2.1
  have f0:∀ y ∈ b.s0.field,y ≠ o'.id→y ∈ (fA b k o' z).s0.field:=fun y hy hne=>(Fe (b:=b) (k:=k) hown' hz (q:=0) (.inl rfl) y).2 (.inl ⟨hy,hne⟩)
  have f1:∀ y ∈ b.s1.field,y ≠ o'.id→y ∈ (fA b k o' z).s1.field:=fun y hy hne=>(Fe (b:=b) (k:=k) hown' hz (q:=1) (.inr rfl) y).2 (.inl ⟨hy,hne⟩)
  rw[dm] at h0 ⊢
  rw[r1,r2,r3]
  split
  ·rename_i ha
   rw[if_pos ha] at h0
   exact rD f0 f1 h0
  ·rename_i ha
   rw[if_neg ha] at h0
   exact rD f1 f0 h0
 have hlen:(fA b k o' z).objs.length=b.objs.length:=by rw[xX,List.length_set]
 have hsl:(fA b k o' z).stack.length≤b.stack.length:=by rw[u7];exact List.length_filter_le _ _
 have hany:((fA b k o' z).stack.any fun x=>!cQ x false)=false:=by
  rw[List.any_eq_false]
  intro x hx
  rw[u7] at hx
  have h4:=(aM h).2.2.2
  rw[List.all_eq_true] at h4
  rw[h4 x (List.mem_filter.1 hx).1];simp
 simp only[an,oW,Bool.and_eq_true,Bool.not_eq_true',Bool.or_eq_false_iff,decide_eq_false_iff_not] at h ⊢
 obtain⟨a1,a2,a3,a4,⟨⟨⟨a5,a6⟩,a7⟩,a8⟩,a9,a10,a11,a12,a13⟩:=h
 rw[r3,r4,r5,r6,r7,r8,hlen,s0,s1]
 exact⟨a1,a2,a3,a4,⟨⟨⟨a5,a6⟩,by omega⟩,a8⟩,a9,a10,hany,a12,hplm,hf⟩
theorem Py {ks:List Int} {b:Bd} (h:an b=true) {q:Int} (hq:q=0∨q=1) {x:Int}:x ∈ jl ks b q ↔ ∃ o ∈ b.objs,o.id=x∧o.owner=q∧eL ks o=true∧x ∈ (ao b q).field:=by
 have hw:au q 0 1=true:=by simp only[au,decide_eq_true_eq];omega
 rw[jl,if_pos (by rw[hw,h];rfl),List.mem_map]
 constructor
 ·rintro ⟨o,ho,rfl⟩
  obtain⟨m,c⟩:=List.mem_filter.1 ho
  simp only[zw,Bool.and_eq_true,beq_iff_eq,List.contains_iff_mem] at c
  exact⟨o,m,rfl,c.1,c.2.1,c.2.2⟩
 ·rintro ⟨o,m,rfl,c1,c2,c3⟩
  refine⟨o,List.mem_filter.2 ⟨m,?_⟩,rfl⟩
  simp only[zw,Bool.and_eq_true,beq_iff_eq,List.contains_iff_mem]
  exact⟨c1,c2,c3⟩
theorem tZ:∀ {l m:List Int},l.Nodup→(∀ x ∈ l,x ∈ m)→l.length≤m.length
 | [],_,_,_=>Nat.zero_le _
 | a::l,m,h,hs=>by
  rw[List.nodup_cons] at h
  have ha:=hs a List.mem_cons_self
  have ih:=tZ (m:=m.erase a) h.2 fun x hx=>(List.mem_erase_of_ne (fun e=>by rw[e] at hx;exact h.1 hx)).2 (hs x (List.mem_cons_of_mem _ hx))
  rw[List.length_erase_of_mem ha] at ih
  have:=List.length_pos_of_mem ha
  rw[List.length_cons];omega
section
variable {cs:List Cd} {b:Bd} (h:an b=true) {k:Nat} {o:Ob} (hk:b.objs[k]?=some o) {z:Int} (hz:z=0∨z=1∨z=2∨z=3)
include h hk hz
end
theorem Vw (H:Heap):CdRX H Ho Wx:=⟨rfl,Sl.nil H 5,⟨[],Sl.nil H 2,rfl,fun i r t h=>by simp at h⟩⟩
theorem IB {H:Heap} {v:Value} {cs:List CdX} (h:CardsX H v cs) (c:Int) (hn:¬ (c < 0∨c ≥ (cs.length:Int))) :
  ∃ a r,ak (.idx 14) [v,iV c]=some (.pointer (some a))∧H.read (.pointer (some a)) 14=some r∧r.length=14∧Ones r∧CdRX H r (cdX cs c):=by
 obtain⟨rows,h1,h2,h3⟩:=h
 have hlt:c.toNat < rows.length:=by omega
 obtain⟨a,k1,k2,k3,k4⟩:=h1.idx (k:=.i64) (i:=c.toNat) (List.getElem?_eq_getElem hlt)
 have hk:cs[c.toNat]?=some (cdX cs c):=by
  rw[cdX,if_neg hn,List.getD_eq_getElem?_getD,List.getElem?_eq_getElem (by omega)];rfl
 refine⟨a,_,?_,k2,k3,k4,h3 c.toNat _ _ (List.getElem?_eq_getElem hlt) hk⟩
 rw[show iV c=iV (c.toNat:Int) by rw[Int.toNat_of_nonneg (by omega)]];exact k1
def Wl (cs:List CdX) (c:Int) (v:Value) (H:Heap):Prop:=∃ cells:List Value,v=.agg cells.toArray∧cells.length=14∧Ones cells∧CdRX H cells (cdX cs c)
theorem U8 {H:Heap} {O:Own} {v:Value} {cs:List CdX} (h:CardsX H v cs) (o:Ob):Triple PP np [v,.agg o.row.toArray] H O fun r H' O'=>Wl cs o.card r H'∧O'=O:=by
 refine nI (vs:=v::o.row) (by kernel_rfl) ⟨h.one,bE o⟩ ?_
 simp only[nm]
 refine af fun r0=>af fun r1=>?_
 refine aa ?_
 refine ab _ (aB _ _) ?_
 refine aa (ae (ae ?_))
 refine ab _ h.len ?_
 refine ae (ae (ab _ (eR _ _) (ae (ab _ (aR _ _) ?_))))
 refine ai (fun hb=>?_) (fun hb=>?_)
 ·have hb:(decide (o.card < 0) || decide (o.card ≥ (cs.length:Int)))=true:=hb
  refine aa (aa ?_)
  refine ah ⟨⟨Ho,rfl,rfl,⟨rfl,rfl,rfl,rfl,rfl,rfl,rfl,rfl,rfl,rfl,rfl,rfl,rfl,rfl,trivial⟩,?_⟩,rfl⟩
  rw[cdX,if_pos (by simpa using hb)];exact Vw H
 ·have hb:(decide (o.card < 0) || decide (o.card ≥ (cs.length:Int)))=false:=hb
  obtain⟨a,r,k1,k2,k3,k4,k5⟩:=IB h o.card (by simpa [Bool.or_eq_false_iff] using hb)
  refine aa ?_
  refine ab _ k1 (ap (fD k2) k3 k4 ?_)
  refine aa (aa ?_)
  exact ah ⟨⟨r,by rw[← Bm k3];rfl,k3,k4,k5⟩,rfl⟩
theorem OQ {H:Heap} {O:Own} {v:Value} {cs:List CdX} (h:CardsX H v cs) (o:Ob):Triple PP fU [v,.agg o.row.toArray] H O fun r H' O'=>Wl cs o.card r H'∧O'=O:=by
 refine gR (vs:=v::o.row) (by kernel_rfl) ⟨h.one,bE o⟩ ?_
 simp only[fP]
 refine af fun r0=>af fun r1=>?_
 refine aa ?_
 refine ab _ (aB _ _) ?_
 refine aa (ae (ae ?_))
 refine ab _ h.len ?_
 refine ae (ae (ab _ (eR _ _) (ae (ab _ (aR _ _) ?_))))
 refine ai (fun hb=>?_) (fun hb=>?_)
 ·have hb:(decide (o.card < 0) || decide (o.card ≥ (cs.length:Int)))=true:=hb
  refine aa (aa ?_)
  refine ah ⟨⟨Ho,rfl,rfl,⟨rfl,rfl,rfl,rfl,rfl,rfl,rfl,rfl,rfl,rfl,rfl,rfl,rfl,rfl,trivial⟩,?_⟩,rfl⟩
  rw[cdX,if_pos (by simpa using hb)];exact Vw H
 ·have hb:(decide (o.card < 0) || decide (o.card ≥ (cs.length:Int)))=false:=hb
  obtain⟨a,r,k1,k2,k3,k4,k5⟩:=IB h o.card (by simpa [Bool.or_eq_false_iff] using hb)
  refine aa ?_
  refine ab _ k1 (ap (fD k2) k3 k4 ?_)
  refine aa (aa ?_)
  exact ah ⟨⟨r,by rw[← Bm k3];rfl,k3,k4,k5⟩,rfl⟩
def Xc (v:Value) (trs:List (List Eff)) (O:Own):Prop:=∃ rows A Ts,O.Perm (A++List.flatten Ts)∧OSl fZ 2 v rows A∧rows.length=trs.length∧Ts.length=trs.length ∧
 ∀ (i:Nat) (r:List Value) (l:List Eff) (T:Own),rows[i]?=some r→trs[i]?=some l→Ts[i]?=some T→OSl eU 5 (g r 1) (iL l) T
def Ws (c:CdX) (v:Value) (O:Own):Prop:=∃ (cells:List Value) (A B:Own),v=.agg cells.toArray∧cells.length=14∧Ones cells∧g cells 1=iV c.kind∧OSl eU 5 (g cells 11) (iL c.effs) A∧Xc (g cells 12) c.trs B∧O.Perm (A++B)
theorem Ks {H:Heap} {cells:List Value} {c:CdX} (h:CdRX H cells c) (hl:cells.length=14) (ho:Ones cells) (hli:iC c.base=true) :
  Triple PP xc [.agg cells.toArray] H [] fun r _ O'=>Ws c r O':=by
 simp only[iC,CdX.base,Bool.and_eq_true,Bool.not_eq_true',Bool.or_eq_false_iff,decide_eq_false_iff_not,List.all_eq_true,List.length_map,List.mem_map,forall_exists_index,and_imp,forall_apply_eq_imp_iff₂] at hli
 obtain⟨⟨b1,b2⟩,b3⟩:=hli
 obtain⟨hk,he,⟨trows,t1,t2,t3⟩⟩:=h
 refine xz (vs:=cells) (by rw[← Bm hl];kernel_rfl) ho ?_
 simp only[w8]
 refine af fun r0=>af fun r1=>?_
 refine aa (aa ?_)
 refine ar (BM he (by rw[qC];omega)) fun x H1 O1 hx l1=>⟨[x],rfl,⟨hx.one,trivial⟩,?_⟩
 refine ar (LU (t1.le l1) (by omega)) fun y H2 O2 hy l2=>⟨[y],rfl,⟨hy.one,trivial⟩,?_⟩
 have ylen:=hy.len
 rw[t2] at ylen
 refine aa (aa (aa ?_))
 refine ab _ ylen ?_
 refine aQ c.trs.length (fun i H' O'=>Heap.le H2 H'∧∃ rows' A Ts,O'.Perm (A++(List.flatten Ts++O1))∧OSl fZ 2 y rows' A∧rows'.length=c.trs.length∧Ts.length=i ∧
  (∀ (j:Nat) (r:List Value) (l:List Eff) (T:Own),rows'[j]?=some r→c.trs[j]?=some l→Ts[j]?=some T→OSl eU 5 (g r 1) (iL l) T)∧∀ j,i≤j→rows'[j]?=trows[j]?)
  ⟨Heap.le_refl _,trows,O2,[],by simp,hy,t2,rfl,fun j r l T _ _ h=>by simp at h,fun _ _=>rfl⟩ ?_
 rintro i H' O' hi - ⟨hle,rows',A,Ts,hp,hA,hrl,htl,hspec,hrest⟩
 refine ab _ (aB _ _) (ai (fun hb=>?_) (fun hb=>?_))
 ·have hlt:i < c.trs.length:=by simpa using hb
  have hri:rows'[i]?=some trows[i]:=by rw[hrest i (Nat.le_refl _)];exact List.getElem?_eq_getElem (by omega)
  have k1:=t3 i trows[i] c.trs[i] (List.getElem?_eq_getElem (by omega)) (List.getElem?_eq_getElem hlt)
  have hb3:=b3 _ (List.getElem_mem hlt)
  obtain⟨a,i1,i2,i3,i4⟩:=hA.idx (fun p h=>hp.mem_iff.2 (List.mem_append_left _ h)) H' (k:=.i64) hri
  obtain⟨w1,w2⟩:=hA.rows_ok hri
  refine ab _ i1 (ap i3 w1 w2 (af fun r2=>?_))
  refine aa (aa (aa ?_))
  refine ar (BM (k1.le (Heap.le_trans l1 (Heap.le_trans l2 hle))) (by rw[qC];omega)) fun z H3 T hz l3=>⟨[z],rfl,⟨hz.one,trivial⟩,?_⟩
  have hp2:(T++O').Perm (A++(T++(List.flatten Ts++O1))):=(hp.append_left T).trans (List.perm_append_comm_assoc _ _ _)
  obtain⟨a2,j1,j2⟩:=hA.store hp2 (k:=.i64) hri
  obtain⟨A',hst,hA'⟩:=j2 1 [z] (by simp[w1]) ⟨hz.one,trivial⟩
  have hsp:g (cj trows[i] 1 [z]) 1=z:=by
   match hm:trows[i],w1 with
   | [_,_],_=>rfl
  refine ab _ j1 ?_
  refine aw rfl (aw rfl ?_)
  refine⟨_,hst,?_⟩
  refine ab _ (az (by omega)) (aI (by simp[Eqs]) hlt ⟨Heap.le_trans hle l3,_,A',Ts++[T],?_,hA',by simp[hrl],by simp[htl],?_,?_⟩)
  ·refine List.Perm.append_left A' ?_
   rw[List.flatten_append,← List.append_assoc]
   refine List.Perm.append_right O1 ?_
   simpa using List.perm_append_comm
  ·intro j r x T' h1 h2 h3
   by_cases hj:j=i
   ·subst hj
    rw[List.getElem?_set_self (by omega)] at h1
    rw[List.getElem?_eq_getElem hlt] at h2
    rw[List.getElem?_append_right (by omega),htl,Nat.sub_self] at h3
    simp only[Option.some.injEq,List.getElem?_cons_zero] at h1 h2 h3
    subst h1;subst h2;subst h3
    rw[hsp];exact hz
   ·rw[List.getElem?_set_ne (by omega)] at h1
    have hjlt:j < Ts.length:=by
     have:=(List.getElem?_eq_some_iff.1 h3).1
     simp at this;omega
    rw[List.getElem?_append_left hjlt] at h3
    exact hspec j r x T' h1 h2 h3
  ·intro j hj
   rw[List.getElem?_set_ne (by omega)]
   exact hrest j (by omega)
 ·have hie:i=c.trs.length:=by
   have:¬ ((i:Int) < (c.trs.length:Int)):=by simpa using hb
   omega
  subst hie
  refine aa (aa (aa ?_))
  refine ah ⟨[g cells 0,g cells 1,g cells 2,g cells 3,g cells 4,g cells 5,g cells 6,g cells 7,g cells 8,g cells 9,g cells 10,x,y,g cells 13],O1,A++List.flatten Ts,rfl,rfl,?_,hk,hx,⟨rows',A,Ts,List.Perm.refl _,hA,hrl,htl,hspec⟩,?_⟩
  ·exact⟨dT ho (by omega),dT ho (by omega),dT ho (by omega),dT ho (by omega),dT ho (by omega),dT ho (by omega),dT ho (by omega),dT ho (by omega),dT ho (by omega),dT ho (by omega),dT ho (by omega),hx.one,hy.one,dT ho (by omega),trivial⟩
  ·refine hp.trans ?_
   rw[← List.append_assoc]
   exact List.perm_append_comm
theorem FR {H:Heap} {v:Value} {cs:List CdX} (h:CardsX H v cs) (hli:dh (cs.map CdX.base)=true) (o:Ob):Triple PP nq [v,.agg o.row.toArray] H [] fun r _ O'=>Ws (cdX cs o.card) r O':=by
 refine tL (vs:=v::o.row) (by kernel_rfl) ⟨h.one,bE o⟩ ?_
 simp only[rM]
 refine af fun r0=>af fun r1=>?_
 refine aa ?_
 refine ar (U8 (O:=[]) h o) ?_
 rintro _ H1 _ ⟨⟨cells,rfl,k1,k2,k3⟩,rfl⟩ l1
 refine⟨cells,by simp[Shp.open,k1],k2,?_⟩
 have hrow:=Bm k1
 have hlc:iC (cdX cs o.card).base=true:=by rw[LO];exact BC hli _
 refine ar (Ks (cells:=[g cells 0,g cells 1,g cells 2,g cells 3,g cells 4,g cells 5,g cells 6,g cells 7,g cells 8,g cells 9,g cells 10,g cells 11,g cells 12,g cells 13]) (by rw[hrow];exact k3) rfl (by rw[hrow];exact k2) hlc) ?_
 rintro _ H2 O2 ⟨cells2,A,B,rfl,m1,m2,m3⟩ l2
 refine⟨cells2,by simp[Shp.open,m1],m2,?_⟩
 refine aa (aa ?_)
 refine xK (O':=O2) (by simp) ⟨cells2,A,B,by rw[← Bm m1];rfl,m1,m2,m3⟩
theorem N1 {r:List Value} (h:r.length=2):(r.drop 1).take 1=[g r 1]:=by
 match r,h with
 | [_,_],_=>rfl
theorem fs0 {H:Heap} {v:Value} {cs:List CdX} (h:CardsX H v cs) (hli:dh (cs.map CdX.base)=true) (player id card trig:Int) {s:Value} (hs:s.oneCell'=true) :
  Triple PP uN [v,.agg #[iV player,iV id,iV card,iV trig,s]] H [] fun r _ O'=>OSl eU 5 r (iL (BJ cs card trig)) O':=by
 refine za (vs:=[v,iV player,iV id,iV card,iV trig,s]) (by kernel_rfl) ⟨h.one,rfl,rfl,rfl,rfl,hs,trivial⟩ ?_
 simp only[uz]
 refine af fun r0=>?_
 refine aa ?_
 refine ar (FR h hli (UA card)) ?_
 rintro _ H1 O1 ⟨cells,A,B,rfl,k1,k2,k3,k4,k5,k6⟩ l1
 refine⟨cells,by simp[Shp.open,k1],k2,af fun r1=>?_⟩
 have k4:OSl eU 5 (g cells 11) (iL (cdX cs card).effs) A:=k4
 obtain⟨rows,A',Ts,q1,q2,q3,q4,q5⟩:Xc (g cells 12) (cdX cs card).trs B:=k5
 have hlen:ak .len [g cells 12]=some (iV (cdX cs card).trs.length):=by have:=q2.len;rwa [q3] at this
 refine aa (aa ?_)
 refine ab _ (ay _ _) (ai (fun hb=>?_) (fun hb=>?_))
 ·have hb:trig=-1:=by simpa using hb
  refine aa ?_
  refine zj (O':=A) (Y:=B) (by simpa using k6) ?_
  rw[BJ,if_pos hb];exact k4
 have hb:trig ≠ -1:=by simpa using hb
 refine aa ?_
 refine ab _ (aB _ _) ?_
 repeat (first | refine aa ?_ | refine ae ?_)
 refine ab _ hlen ?_
 refine ae (ae (ab _ (eR _ _) (ae (ab _ (aR _ _) ?_))))
 refine ai (fun hc=>?_) (fun hc=>?_)
 ·have hc:(decide (trig < 0) || decide (trig ≥ ((cdX cs card).trs.length:Int)))=true:=hc
  refine kZ ?_
  rw[BJ,if_neg hb,if_pos (by simpa using hc)];exact OSl.nil _ _
 ·have hc:(decide (trig < 0) || decide (trig ≥ ((cdX cs card).trs.length:Int)))=false:=hc
  have hn:¬ (trig < 0∨trig ≥ ((cdX cs card).trs.length:Int)):=by simpa [Bool.or_eq_false_iff] using hc
  have hlt:trig.toNat < (cdX cs card).trs.length:=by omega
  have ecast:((trig.toNat:Nat):Int)=trig:=by omega
  have hri:rows[trig.toNat]?=some (rows[trig.toNat]'(by omega)):=List.getElem?_eq_getElem (by omega)
  have hTi:trig.toNat < Ts.length:=by omega
  have hT:=q5 _ _ _ _ hri (List.getElem?_eq_getElem hlt) (List.getElem?_eq_getElem hTi)
  obtain⟨w1,w2⟩:=q2.rows_ok hri
  obtain⟨p1,_⟩:=ui hTi
  have hmem:∀ p ∈ A',p ∈ O1++[]:=fun p hp=>by
   rw[List.append_nil]
   exact k6.mem_iff.2 (List.mem_append_right _ (q1.mem_iff.2 (List.mem_append_left _ hp)))
  obtain⟨a,i1,i2,i3,i4⟩:=q2.idx hmem H1 (k:=.i64) hri
  have i5:=i4 1 1 (by omega)
  rw[N1 w1] at i5
  rw[ecast] at i1
  refine aa (aa ?_)
  refine ab _ i1 ?_
  refine aw rfl ?_
  refine ap i5 rfl ⟨hT.one,trivial⟩ ?_
  have hperm:(O1++[]).Perm (Ts[trig.toNat]++(A++(A'++List.flatten (Ts.eraseIdx trig.toNat)))):=by
   rw[List.append_nil]
   refine k6.trans ?_
   refine ((q1.trans (p1.append_left A')).append_left A).trans ?_
   refine ((List.perm_append_comm_assoc A' _ _).append_left A).trans ?_
   exact List.perm_append_comm_assoc A _ _
  refine zj hperm ?_
  rw[BJ,if_neg hb,if_neg hn,List.getD_eq_getElem?_getD,List.getElem?_eq_getElem hlt]
  exact hT
theorem zo {H:Heap} {v:Value} {cs:List CdX} (h:CardsX H v cs) (player id card trig:Int) {s:Value} (hs:s.oneCell'=true) :
  Triple PP kE [v,.agg #[iV player,iV id,iV card,iV trig,s]] H [] fun r H' O'=>Sl H' 5 r (iL (BJ cs card trig))∧O'=[]:=by
 refine qd (vs:=[v,iV player,iV id,iV card,iV trig,s]) (by kernel_rfl) ⟨h.one,rfl,rfl,rfl,rfl,hs,trivial⟩ ?_
 simp only[kj]
 refine af fun r0=>?_
 refine aa ?_
 refine ar (OQ (O:=[]) h (UA card)) ?_
 rintro _ H1 _ ⟨⟨cells,rfl,k1,k2,k3⟩,rfl⟩ l1
 refine⟨cells,by simp[Shp.open,k1],k2,af fun r1=>?_⟩
 have k4:Sl H1 5 (g cells 11) (iL (cdX cs card).effs):=k3.eff
 obtain⟨rows,q2,q3,q5⟩:TrsX H1 (g cells 12) (cdX cs card).trs:=k3.trig
 have hlen:ak .len [g cells 12]=some (iV (cdX cs card).trs.length):=by have:=q2.len;rwa [q3] at this
 refine aa (aa ?_)
 refine ab _ (ay _ _) (ai (fun hb=>?_) (fun hb=>?_))
 ·have hb:trig=-1:=by simpa using hb
  refine aa ?_
  refine ah ⟨?_,rfl⟩
  rw[BJ,if_pos hb];exact k4
 have hb:trig ≠ -1:=by simpa using hb
 refine aa ?_
 refine ab _ (aB _ _) ?_
 repeat (first | refine aa ?_ | refine ae ?_)
 refine ab _ hlen ?_
 refine ae (ae (ab _ (eR _ _) (ae (ab _ (aR _ _) ?_))))
 refine ai (fun hc=>?_) (fun hc=>?_)
 ·have hc:(decide (trig < 0) || decide (trig ≥ ((cdX cs card).trs.length:Int)))=true:=hc
  refine ah ⟨?_,rfl⟩
  rw[BJ,if_neg hb,if_pos (by simpa using hc)];exact Sl.nil _ _
 ·have hc:(decide (trig < 0) || decide (trig ≥ ((cdX cs card).trs.length:Int)))=false:=hc
  have hn:¬ (trig < 0∨trig ≥ ((cdX cs card).trs.length:Int)):=by simpa [Bool.or_eq_false_iff] using hc
  have hlt:trig.toNat < (cdX cs card).trs.length:=by omega
  have ecast:((trig.toNat:Nat):Int)=trig:=by omega
  have hri:rows[trig.toNat]?=some (rows[trig.toNat]'(by omega)):=List.getElem?_eq_getElem (by omega)
  have hT:=q5 _ _ _ hri (List.getElem?_eq_getElem hlt)
  obtain⟨a,i1,i2,i3,w1,w2⟩:=(q2.rsl []).idx .i64 trig.toNat (rows[trig.toNat]'(by omega)) hri
  have i5:=i3 1 1 (by omega)
  rw[N1 w1] at i5
  rw[ecast] at i1
  refine aa (aa ?_)
  refine ab _ i1 ?_
  refine aw rfl ?_
  refine ap i5 rfl ⟨hT.one,trivial⟩ ?_
  refine ah ⟨?_,rfl⟩
  rw[BJ,if_neg hb,if_neg hn,List.getD_eq_getElem?_getD,List.getElem?_eq_getElem hlt]
  exact hT
theorem Uu {H:Heap} {v:cn} {b:Bd} (h:BdS H v b) (hv:an b=false):RetO PP rN [.agg (al v b).toArray] H [] (.tuple #[.agg (al vH zBd).toArray,.agg #[iV 0,iV 0,iV 0,iV 0,.slice none 0 0],iV 2]):=by
 refine xp (vs:=al v b) (by kernel_rfl) (am (h.r [])) ?_
 simp only[wZ]
 refine af fun r0=>af fun r1=>af fun r2=>?_
 refine aa ?_
 refine aj (dq (h.r [])) rfl ⟨rfl,trivial⟩ fun H1 l1=>?_
 rw[hv]
 refine ab _ (aJ _) (ai (fun _=>?_) (fun hd=>by cases hd))
 refine aa (aa (aa (aa ?_)))
 exact ah ⟨rfl,rfl⟩
theorem RG {H:Heap} {cv:Value} (hc:cv.oneCell'=true) {v:cn} {b:Bd} (h:BdS H v b) (hv:an b=false):RetO PP uM [cv,.agg (al v b).toArray] H [] (iV 0):=by
 refine vD (vs:=cv::al v b) (by kernel_rfl) ⟨hc,am (h.r [])⟩ ?_
 simp only[uy]
 have slen:ak .len [v.s]=some (iV b.stack.length):=ItsR.len (h.stack.r [])
 have hsB:b.stack.length < 2 ^ 63:=by
  obtain⟨rows,h1,h2,_⟩:=h.stack
  have:=h1.lenB;omega
 refine af fun r0=>?_
 refine aa ?_
 refine ab _ slen ?_
 refine ab _ (ay _ _) (ai (fun _=>?_) (fun _=>?_))
 ·exact ah ⟨rfl,rfl⟩
 refine aa ?_
 refine aj (dq (h.r [])) rfl ⟨rfl,trivial⟩ fun H1 l1=>?_
 rw[hv]
 have hoff:∀ {P:Prop} {gd:List (Value × Bool)},On ((Value.bool (!false),false)::gd)→P:=fun ho=>by have:=ho.1;cases this
 refine ab _ (aJ _) ?_
 refine aa (ae (ae ?_))
 refine ab _ (Eu (by omega) (by omega)) ?_
 refine ae (ae ?_)
 refine⟨.pointer (some ⟨0,0,none⟩),fun ho=>hoff ho,.inr rfl,?_⟩
 refine aw rfl (ae (ae ?_))
 refine⟨[iV 0],rfl,⟨rfl,trivial⟩,fun ho=>hoff ho,?_⟩
 refine ae ?_
 refine ab _ (aY _ _) ?_
 refine ae ?_
 refine ab _ (aR _ _) (ai (fun _=>?_) (fun hd=>by cases hd))
 exact ah ⟨rfl,rfl⟩
theorem PZ:∀ {l:List Int} {x i:Int},0≤i→0≤lh l x i→∃ j:Nat,lh l x i=i + j∧l[j]?=some x
 | [],x,i,_,h=>by simp[lh] at h
 | a::l,x,i,h0,h=>by
  simp only[lh] at h ⊢
  by_cases hx:x=a
  ·subst hx;exact⟨0,by simp,rfl⟩
  ·have hb:(x == a)=false:=by simpa using hx
   rw[hb] at h ⊢
   simp only[Bool.false_eq_true,if_false] at h ⊢
   obtain⟨j,h1,h2⟩:=PZ (by omega) h
   exact⟨j + 1,by rw[h1];omega,h2⟩
theorem KE {id:Int}:∀ {l:List (Int × Int × List Int)} {s:Int × Int × Int},jq id l=some s→∃ x ∈ l,s.1=x.1∧s.2.1=x.2.1∧∃ j:Nat,s.2.2=j∧x.2.2[j]?=some id
 | [],_,h=>by simp[jq] at h
 | a::l,s,h=>by
  simp only[jq] at h
  split at h
  ·rename_i hi
   obtain⟨j,h1,h2⟩:=PZ (by omega) hi
   rw[← Option.some.inj h]
   exact⟨a,by simp,rfl,rfl,j,by show lh a.2.2 id 0=_;rw[h1];omega,h2⟩
  ·obtain⟨x,hx,hm⟩:=KE h
   exact⟨x,by simp[hx],hm⟩
theorem Q4 {b c:Bd} (h:an b=true) (hpl:bD aW c=true) (hf:dm c=true) (h0:bb c.s0=bb b.s0) (h1:bb c.s1=bb b.s1)
  (e1:c.active=b.active) (e2:c.turn=b.turn) (e3:c.phase=b.phase) (e4:c.holder=b.holder) (e5:c.passes=b.passes) (e7:c.queue=b.queue) (e8:c.objs.length=b.objs.length)
  (hs:c.stack.length≤200) (hfine:∀ x ∈ c.stack,cQ x false=true):an c=true:=by
 have hany:(c.stack.any fun x=>!cQ x false)=false:=by
  rw[List.any_eq_false]
  intro x hx
  rw[hfine x hx];simp
 simp only[an,oW,Bool.and_eq_true,Bool.not_eq_true',Bool.or_eq_false_iff,decide_eq_false_iff_not] at h ⊢
 obtain⟨a1,a2,a3,a4,⟨⟨⟨a5,a6⟩,a7⟩,a8⟩,a9,a10,a11,a12,a13⟩:=h
 rw[e1,e2,e3,e4,e5,e7,e8,h0,h1]
 exact⟨a1,a2,a3,a4,⟨⟨⟨a5,a6⟩,by omega⟩,a8⟩,a9,a10,hany,a12,hpl,hf⟩
theorem nu {b:Bd} (h:an b=true) {x:It} (hx:x ∈ b.stack):cQ x false=true:=List.all_eq_true.1 (aM h).2.2.2 x hx
theorem oO {b:Bd} (h:an b=true):b.stack.length≤200:=by
 simp only[an,oW,Bool.and_eq_true,Bool.not_eq_true',Bool.or_eq_false_iff,decide_eq_false_iff_not] at h
 obtain⟨a1,a2,a3,a4,⟨⟨⟨a5,a6⟩,a7⟩,a8⟩,_⟩:=h
 omega
theorem OU {b:Bd} (h:an b=true) {l:List It} {x:It} (hl:b.stack=l++[x]) (hx:¬ x.trig < 0):an { b with stack:=l }=true:=by
 have hc:bH l=bH b.stack:=by
  rw[hl,bH,bH,List.filter_append,List.filter_cons,if_neg (by simpa using hx)]
  simp
 have e1:eK l=eK b.stack:=by rw[eK,hc,eK]
 have e2:bg l=bg b.stack:=by rw[bg,hc,bg]
 have hlen:=oO h
 refine Q4 h (CV (aM h).1 (by simp only[aL];rw[e1]) rfl e2) (aM h).2.1 rfl rfl rfl rfl rfl rfl rfl rfl rfl (by rw[hl] at hlen;simp at hlen;show l.length≤200;omega) fun y hy=>nu h (by rw[hl];exact List.mem_append_left _ hy)
theorem WM {H:Heap} {va vc:Value} (life:Int) {a c:List Int} (ha:Sl H 1 va (aE a)) (hc:Sl H 1 vc (aE c)) (hla:a.length≤1000) (hlc:c.length≤1000) :
  Triple PP pz [iV life,.agg #[va,vc]] H [] (W4 life a c):=by
 refine vt (vs:=[iV life,va,vc]) (by kernel_rfl) ⟨rfl,ha.one,hc.one,trivial⟩ ?_
 simp only[pe]
 have la:=ha.len
 have lc:=hc.len
 rw[aE,List.length_map] at la lc
 refine af fun r0=>af fun r1=>af fun r2=>?_
 repeat (first | refine aa ?_ | refine ae ?_ | refine ab _ la ?_ | refine ab _ lc ?_ | refine ab _ (hY (by omega)) ?_ | refine ab _ (bK _ _) ?_ | refine ab _ (aB _ _) ?_ | refine ab _ (aR _ _) ?_)
 refine ai (fun hb=>aa (aa (ah (JI ?_ H)))) (fun hb=>?_)
 ·unfold JJ
  simp only[Bool.or_eq_true,decide_eq_true_eq] at hb
  rcases hb with hb | hb
  ·have:¬ (1≤life∧life≤9999):=by omega
   simp only[this,decide_false,Bool.false_and]
  ·have:¬ (a.length + c.length≤500):=by omega
   simp only[this,decide_false,Bool.and_false,Bool.false_and]
 simp only[Bool.or_eq_false_iff,decide_eq_true_eq,decide_eq_false_iff_not] at hb
 have hlife:1≤life∧life≤9999:=by omega
 have hsum:a.length + c.length≤500:=by omega
 refine aa ?_
 refine vj a.length (fun i xs H' O'=>∃ o l O1 O2,xs=[o,l,qQ]∧O'.Perm (O1++O2)∧Heap.le H H'∧OSl aH 12 o (((gZ 0 a 0).take i).map Ob.row) O1∧OSl aK 1 l (aE (((gZ 0 a 0).take i).map (·.id))) O2∧∀ x ∈ a.take i,0≤x∧x≤399)
  ⟨qQ,qQ,[],[],rfl,List.Perm.refl _,Heap.le_refl _,OSl.nil _ _,OSl.nil _ _,by simp⟩ ?_
 rintro i xs H2 O2' hi - - - ⟨o,l,O1,O2,rfl,hO,l2,ho,hl,hall⟩
 refine aa (ab _ la (ab _ (aB _ _) (ai (fun hb=>?_) (fun hb=>?_))))
 ·have hlt:i < a.length:=by simpa using hb
  obtain⟨p,h1,h2,h3,h4⟩:=(ha.le l2).idx (k:=.i64) (i:=i) (r:=[iV a[i]]) (by simp[aE,hlt])
  refine aa (ab _ h1 (cG h2 h3 h4 (ab _ (aB _ _) (ae (aa (ae (ae (ae (xN h1 rfl (ae (IC h2 h3 h4 (ae (ab _ (bK _ _) (ae (ab _ (aR _ _) (ai (fun hb=>aa (aa (kZ (JI ?_ H2)))) (fun hb=>?_)))))))))))))))))
  ·refine Ir (i:=i) (by simp;omega) ?_
   rw[List.getElem_append_left hlt]
   rintro ⟨q1,q2⟩
   simp at hb
   omega
  ·have hin:0≤a[i]∧a[i]≤399:=by simp at hb;omega
   have lno:=ho.len
   rw[List.length_map,List.length_take,il,Nat.min_eq_left (by omega)] at lno
   refine aa (ab _ lno (ab _ (az (by omega)) (aa (aa (ab _ h1 (cG h2 h3 h4 (af fun r3=>?_)))))))
   refine aC (rows:=((gZ 0 a 0).take i).map Ob.row) (news:=[(MW ((i + 1:Nat):Int) a[i] 0).row]) (O1:=O1) (O2:=O2) (e:=aH) (size:=12) (bytes:=80) (by kernel_rfl) hO ho
    (fun Hf _ hf=>Sl.block1 (hf _ List.mem_cons_self) rfl (by simp[MW,Ob.row,Ones,Value.oneCell'])) ?_ ?_ ?_
   ·simp[il];omega
   ·simp[il];omega
   intro o' O1' H5 l5 ho'
   refine aa (aa (af fun r4=>?_))
   refine aC (rows:=aE (((gZ 0 a 0).take i).map (·.id))) (news:=[[iV ((i + 1:Nat):Int)]]) (O1:=O2) (O2:=O1') (e:=aK) (size:=1) (bytes:=8) (by kernel_rfl) List.perm_append_comm hl
    (fun Hf _ hf=>Sl.block1 (hf _ List.mem_cons_self) rfl ⟨rfl,trivial⟩) ?_ ?_ ?_
   ·simp[aE,il];omega
   ·simp[aE,il];omega
   intro l' O2'' H6 l6 hl'
   refine aa (ab _ (az (by omega)) (nW (by simp[Eqs,E]) hlt ⟨o',l',O1',O2'',rfl,List.perm_append_comm,?_,?_,?_,LY hlt hall hin⟩))
   ·exact Heap.le_trans l2 (Heap.le_trans l5 l6)
   ·rw[yh hlt,List.map_append,Nat.zero_add];exact ho'
   ·rw[yh hlt,List.map_append,Nat.zero_add,Dv] at *
    exact hl'
 ·have hie:i=a.length:=by simp at hb;omega
  subst hie
  rw[List.take_of_length_le (by rw[il];exact Nat.le_refl _)] at ho hl
  rw[List.take_length] at hall
  refine aa ?_
  refine vj c.length (fun i xs H' O'=>∃ o m O1 O3,xs=[o,l,m]∧O'.Perm (O1++(O2++O3))∧Heap.le H2 H'∧OSl aH 12 o ((gZ 0 a 0++(gZ a.length c 1).take i).map Ob.row) O1∧OSl aK 1 m (aE (((gZ a.length c 1).take i).map (·.id))) O3∧∀ x ∈ c.take i,0≤x∧x≤399)
   ⟨o,qQ,O1,[],rfl,by simpa using hO,Heap.le_refl _,by simpa using ho,OSl.nil _ _,by simp⟩ ?_
  rintro i xs H3 O3' hi - - - ⟨o,m,O1,O3,rfl,hO,l3,ho,hm,hallc⟩
  refine aa (ab _ lc (ab _ (aB _ _) (ai (fun hb=>?_) (fun hb=>?_))))
  ·have hlt:i < c.length:=by simpa using hb
   obtain⟨p,h1,h2,h3,h4⟩:=((hc.le l2).le l3).idx (k:=.i64) (i:=i) (r:=[iV c[i]]) (by simp[aE,hlt])
   refine aa (ab _ h1 (cG h2 h3 h4 (ab _ (aB _ _) (ae (aa (ae (ae (ae (xN h1 rfl (ae (IC h2 h3 h4 (ae (ab _ (bK _ _) (ae (ab _ (aR _ _) (ai (fun hb=>aa (aa (kZ (JI ?_ H3)))) (fun hb=>?_)))))))))))))))))
   ·refine Ir (i:=a.length + i) (by simp;omega) ?_
    rw[List.getElem_append_right (by omega)]
    rintro ⟨q1,q2⟩
    simp at hb q1 q2
    omega
   ·have hin:0≤c[i]∧c[i]≤399:=by simp at hb;omega
    have lno:=ho.len
    rw[List.length_map,List.length_append,List.length_take,il,il,Nat.min_eq_left (by omega)] at lno
    refine aa (ab _ lno (ab _ (az (by omega)) (aa (aa (ab _ h1 (cG h2 h3 h4 (af fun r5=>?_)))))))
    refine aC (rows:=(gZ 0 a 0++(gZ a.length c 1).take i).map Ob.row) (news:=[(MW ((a.length + i + 1:Nat):Int) c[i] 1).row]) (O1:=O1) (O2:=O2++O3) (e:=aH) (size:=12) (bytes:=80) (by kernel_rfl) hO ho
     (fun Hf _ hf=>Sl.block1 (hf _ List.mem_cons_self) rfl (by simp[MW,Ob.row,Ones,Value.oneCell'])) ?_ ?_ ?_
    ·simp[il];omega
    ·simp[il];omega
    intro o' O1' H6 l6 ho'
    refine aa (aa (af fun r6=>?_))
    refine aC (rows:=aE (((gZ a.length c 1).take i).map (·.id))) (news:=[[iV ((a.length + i + 1:Nat):Int)]]) (O1:=O3) (O2:=O1'++O2) (e:=aK) (size:=1) (bytes:=8) (by kernel_rfl)
     (by rw[← List.append_assoc];exact List.perm_append_comm) hm (fun Hf _ hf=>Sl.block1 (hf _ List.mem_cons_self) rfl ⟨rfl,trivial⟩) ?_ ?_ ?_
    ·simp[aE,il];omega
    ·simp[aE,il];omega
    intro m' O3'' H7 l7 hm'
    refine aa (ab _ (az (by omega)) (nW (by simp[Eqs,E]) hlt ⟨o',m',O1',O3'',rfl,?_,?_,?_,?_,LY hlt hallc hin⟩))
    ·rw[← List.append_assoc O1'];exact List.perm_append_comm
    ·exact Heap.le_trans l3 (Heap.le_trans l6 l7)
    ·rw[yh hlt,← List.append_assoc,List.map_append];exact ho'
    ·rw[yh hlt,List.map_append]
     rw[Dv] at hm'
     exact hm'
  ·have hie:i=c.length:=by simp at hb;omega
   subst hie
   rw[List.take_of_length_le (by rw[il];exact Nat.le_refl _)] at ho hm
   rw[List.take_length] at hallc
   refine aa (aa (aa (RQ ?_ hO ho hl hm)))
   unfold JJ
   simp only[Bool.and_eq_true,decide_eq_true_eq,List.all_eq_true]
   refine⟨⟨hlife,hsum⟩,fun x hx=>?_⟩
   rcases List.mem_append.1 hx with hx | hx
   ·exact hall x hx
   ·exact hallc x hx
end Go.Proofs.YtdhobpmnkfmcfaaGreatDoor
namespace Go.Sx
open Go
set_option maxRecDepth 100000
set_option maxHeartbeats 1000000
theorem U1 {T:Heap→Own→(Value→Heap→Own→Prop)→Prop} {frz:List BV} {shp:Shp} {K:List Value→List (List Value)→Heap→Own→Prop} {H:Heap} {O B:Own} {Φ:Heap→Prop}
  (hz:∀ H1,Heap.le H H1→Cons H1 O→∃ Hf,Ghost H1 O Hf B∧Heap.le H1 Hf∧Φ Hf)
  (h:∀ Hf,Heap.le H Hf→(∀ b ∈ frz,Hf b.r=some b.obj.2)→Φ Hf→∃ Q,T Hf [] Q∧∀ v H' O',Q v H' O'→Heap.le Hf H'→∃ vs,shp.open v=some vs∧Ones vs∧K vs [] H' (O'++B)) :
  dZ T false frz [] shp K H O:=by
 intro hc
 have hf:=ij hc
 have hc2:Cons (H.insAll frz) O:=by
  obtain⟨w,F,hm⟩:=hc
  exact⟨w,F,(ng (by simpa [List.append_assoc] using hm)).1⟩
 obtain⟨Hf,g,hl,hphi⟩:=hz _ (Heap.le_insAll frz H) hc2
 obtain⟨Q,hT,hk⟩:=h Hf (Heap.le_trans (Heap.le_insAll frz H) hl) (fun b hb=>hl.1 _ _ (hf b hb)) hphi
 refine⟨Hf,[],B,Q,by simpa using g,by simpa using hT,fun v H' O' hq hle=>?_⟩
 obtain⟨vs,h1,h2,h3⟩:=hk v H' O' hq hle
 exact⟨vs,[],O',h1,h2,trivial,by simp[nc],by simpa using h3⟩
theorem UW {H:Heap} {O:Own}:∀ H1,Heap.le H H1→Cons H1 O→∃ Hf,Ghost H1 O Hf O∧Heap.le H1 Hf∧(fun _:Heap=>True) Hf:=fun H1 _ _=>⟨H1,Ghost.refl _ _,Heap.le_refl _,trivial⟩
end Go.Sx
namespace Go.Proofs.YtdhobpmnkfmcfaaGreatDoor
open Go Go.Sx
set_option maxRecDepth 100000
set_option maxHeartbeats 1000000
theorem Triple.frozen2 {P:Program} {f:FuncId} {args:List Value} {H:Heap} {t:Tys} {b:Bd} {e:Int} (h:Triple P f args H [] fun r _ O'=>∃ w,r=.tuple #[.agg (al w b).toArray,iV e]∧OwnB t w b O') :
  Triple P f args H [] fun r H' O'=>(∃ w,r=.tuple #[.agg (al w b).toArray,iV e]∧BdS H' w b)∧O'=[]:=by
 refine Triple.ghost h ?_
 rintro v H' O' _ hc ⟨w,rfl,ho⟩
 obtain⟨H'',g,k,_⟩:=ho.freeze (X:=[]) (by simpa using hc)
 exact⟨H'',[],by simpa using g,⟨w,rfl,k⟩,rfl⟩
theorem VQ (x y:Int):ak .min2 [iV x,iV y]=some (iV (min x y)):=by
 simp only[ak]
 congr 2
 split <;> omega
theorem PN {H:Heap} {O:Own} {v:Value} {l:List It} (h:ItsS H v l) {i:Nat} {x:It} (hx:l[i]?=some x) :
  ∃ a s,ak (.idx 5) [v,iV i]=some (.pointer (some a))∧Sl H 2 s (bO x.tgs)∧Reads H O (.pointer (some a)) 5 [iV x.player,iV x.id,iV x.card,iV x.trig,s] ∧
   ∀ off m,off + m≤5→Reads H O (aO (.pointer (some a)) off) m (([iV x.player,iV x.id,iV x.card,iV x.trig,s].drop off).take m):=by
 obtain⟨rows,h1,h2,h3⟩:=h
 have hlt:=(List.getElem?_eq_some_iff.1 hx).1
 have hr:rows[i]?=some (rows[i]'(by omega)):=List.getElem?_eq_getElem (by omega)
 obtain⟨s,e,hs⟩:=h3 i _ x hr hx
 obtain⟨a,k1,k2,k3,_⟩:=(h1.rsl O).idx .i64 i _ hr
 rw[e] at k2 k3
 exact⟨a,s,k1,hs,k2,k3⟩
theorem yi {α:Type} (l:List α) (x:α):(l++[x])[l.length]?=some x:=by simp
def ji (cs:List CdX) (x:It):List Int:=dU ((BJ cs x.card x.trig).map (·.target))
def JG (cs:List CdX) (x:It):Int:=if x.trig=-1∧(x.tgs.length:Int) < min 4 ((ji cs x).length:Int) then (ji cs x).getD x.tgs.length 0 else 0
def CZ (cs:List CdX) (b:Bd):Int:=match b.stack.getLast? with
 | none=>0
 | some x=>JG cs x
theorem Im {cs:List CdX} {b:Bd} {l:List It} {x:It} (hl:b.stack=l++[x]):CZ cs b=JG cs x:=by
 simp[CZ,hl]
theorem xP {cs:List CdX} {b:Bd} (hl:b.stack=[]):CZ cs b=0:=by
 simp[CZ,hl]
theorem BP {b:Bd} (h:b.stack ≠ []):∃ l x,b.stack=l++[x]:=⟨b.stack.dropLast,b.stack.getLast h,(List.dropLast_concat_getLast h).symm⟩
theorem rE {cs:List CdX} (hli:dh (cs.map CdX.base)=true) (c t:Int):(BJ cs c t).length≤5:=by
 have h:=BC hli c
 rw[← LO] at h
 simp only[iC,CdX.base,Bool.and_eq_true,Bool.not_eq_true',Bool.or_eq_false_iff,decide_eq_false_iff_not,List.all_eq_true,List.length_map] at h
 obtain⟨⟨h1,h2⟩,h3⟩:=h
 rw[BJ]
 split
 ·omega
 split
 ·simp
 ·rename_i hn
  have hlt:t.toNat < (cdX cs c).trs.length:=by omega
  rw[List.getD_eq_getElem?_getD,List.getElem?_eq_getElem hlt,Option.getD_some]
  have:=h3 _ (List.mem_map.2 ⟨_,List.getElem_mem hlt,rfl⟩)
  omega
theorem E9 {cs:List CdX} (hli:dh (cs.map CdX.base)=true) (x:It):(ji cs x).length≤5:=by
 have:=rE hli x.card x.trig
 have h2:(ji cs x).length≤((BJ cs x.card x.trig).map (·.target)).length:=List.length_filter_le _ _
 rw[List.length_map] at h2
 omega
theorem TN {H:Heap} {cv:Value} {cs:List CdX} (hk:CardsX H cv cs) (hli:dh (cs.map CdX.base)=true) {v:cn} {b:Bd} (h:BdS H v b) (hv:an b=true):RetO PP uM [cv,.agg (al v b).toArray] H [] (iV (CZ cs b)):=by
 refine vD (vs:=cv::al v b) (by kernel_rfl) ⟨hk.one,am (h.r [])⟩ ?_
 simp only[uy]
 have slen:ak .len [v.s]=some (iV b.stack.length):=ItsR.len (h.stack.r [])
 have h200:=oO hv
 refine af fun r0=>?_
 refine aa ?_
 refine ab _ slen ?_
 refine ab _ (ay _ _) (ai (fun h0=>?_) (fun h0=>?_))
 ·have h0:b.stack=[]:=List.length_eq_zero_iff.1 (by have:(b.stack.length:Int)=0:=(by simpa using h0);omega)
  exact ah ⟨by rw[xP h0],rfl⟩
 have hne:b.stack ≠ []:=fun e=>by rw[e] at h0;simp at h0
 obtain⟨l,x,hl⟩:=BP hne
 have hlen:b.stack.length=l.length + 1:=by rw[hl];simp
 have hxf:=nu hv (x:=x) (by rw[hl];simp)
 rw[Im hl]
 refine aa ?_
 refine aj (dq (h.r [])) rfl ⟨rfl,trivial⟩ fun H1 l1=>?_
 rw[hv]
 have h:=h.le l1
 have hk:=hk.le l1
 obtain⟨a,s,k1,hs,k2,k3⟩:=PN (O:=[]) h.stack (i:=l.length) (x:=x) (by rw[hl];exact yi l x)
 have esub:((b.stack.length:Int) - 1)=(l.length:Int):=by omega
 refine ab _ (aJ _) ?_
 refine aa (ae (ae ?_))
 refine ab _ (Eu (by omega) (by omega)) ?_
 rw[esub]
 refine ae (ae ?_)
 refine⟨_,fun _=>k1,.inr rfl,?_⟩
 refine⟨fun _=>rfl,?_⟩
 refine ae (ae ?_)
 refine⟨[iV x.trig],rfl,⟨rfl,trivial⟩,fun _=>k3 3 1 (by omega),?_⟩
 refine ae ?_
 refine ab _ (aY _ _) ?_
 refine ae ?_
 refine ab _ (aR _ _) (ai (fun ht=>?_) (fun ht=>?_))
 ·have ht:(!true || x.trig != -1)=true:=ht
  have ht:x.trig ≠ -1:=by simpa using ht
  exact ah ⟨by rw[JG,if_neg (fun h=>ht h.1)],rfl⟩
 have ht:(!true || x.trig != -1)=false:=ht
 have ht:x.trig=-1:=by simpa using ht
 refine aa ?_
 refine ab _ (Eu (by omega) (by omega)) ?_
 rw[esub]
 refine ab _ k1 (ap k2 rfl ⟨rfl,rfl,rfl,rfl,hs.one,trivial⟩ (af fun r1=>?_))
 refine aa (aa ?_)
 refine ar (Triple.frozenS (fs0 hk hli x.player x.id x.card x.trig hs.one)) ?_
 rintro ev H2 _ ⟨hev,rfl⟩ l2
 refine⟨[ev],rfl,⟨hev.one,trivial⟩,?_⟩
 have hn5:=E9 hli x
 refine ar (Triple.frozenS (Vf (DO hev) (by rw[List.length_map];have:=rE hli x.card x.trig;omega))) ?_
 rintro nv H3 _ ⟨hnv,rfl⟩ l3
 have hnv:Sl H3 1 nv (aE (ji cs x)):=hnv
 refine⟨[nv],rfl,⟨hnv.one,trivial⟩,?_⟩
 have tlen:ak .len [s]=some (iV x.tgs.length):=by have:=hs.len;rwa [bf] at this
 have nlen:ak .len [nv]=some (iV (ji cs x).length):=by have:=hnv.len;rwa [aE,List.length_map] at this
 have ht4:x.tgs.length≤4:=by
  simp only[cQ,Bool.and_eq_true,Bool.not_eq_true',Bool.or_eq_false_iff,decide_eq_false_iff_not] at hxf
  have:=hxf.2.2.2.2.1.1.1
  omega
 refine aa ?_
 refine ab _ tlen ?_
 refine ab _ nlen ?_
 refine ab _ (aB _ _) ?_
 refine ae ?_
 refine ab _ (aB _ _) ?_
 refine ae ?_
 refine ab _ (aT _ _) (ai (fun hc=>?_) (fun hc=>?_))
 ·have hc:(decide ((x.tgs.length:Int) < ((ji cs x).length:Int)) && decide ((x.tgs.length:Int) < 4))=true:=hc
  have hc:(x.tgs.length:Int) < ((ji cs x).length:Int)∧(x.tgs.length:Int) < 4:=by simpa using hc
  have hlt:x.tgs.length < (ji cs x).length:=by omega
  obtain⟨a2,i1,i2,_,i3,i4⟩:=(hnv.rsl ([]:Own)).idx .i64 x.tgs.length [iV (ji cs x)[x.tgs.length]] (by simp[aE,hlt])
  refine ab _ i1 (ap i2 rfl ⟨rfl,trivial⟩ ?_)
  refine ah ⟨?_,rfl⟩
  rw[JG,if_pos ⟨ht,by omega⟩,List.getD_eq_getElem?_getD,List.getElem?_eq_getElem hlt];rfl
 ·have hc:(decide ((x.tgs.length:Int) < ((ji cs x).length:Int)) && decide ((x.tgs.length:Int) < 4))=false:=hc
  have hc:¬ ((x.tgs.length:Int) < ((ji cs x).length:Int)∧(x.tgs.length:Int) < 4):=by
   intro hh
   rw[decide_eq_true hh.1,decide_eq_true hh.2] at hc
   cases hc
  exact ah ⟨by rw[JG,if_neg (fun h=>hc (by omega))],rfl⟩
theorem VK {H:Heap} {cv:Value} {cs:List CdX} (hk:CardsX H cv cs) (hli:dh (cs.map CdX.base)=true) {v:cn} {b:Bd} (h:BdS H v b) (hv:an b=true):RetO PP oy [cv,.agg (al v b).toArray] H [] (iV (CZ cs b)):=by
 refine tj (vs:=cv::al v b) (by kernel_rfl) ⟨hk.one,am (h.r [])⟩ ?_
 simp only[nZ]
 have slen:ak .len [v.s]=some (iV b.stack.length):=ItsR.len (h.stack.r [])
 have h200:=oO hv
 refine af fun r0=>?_
 refine aa ?_
 refine ab _ slen ?_
 refine ab _ (ay _ _) (ai (fun h0=>?_) (fun h0=>?_))
 ·have h0:b.stack=[]:=List.length_eq_zero_iff.1 (by have:(b.stack.length:Int)=0:=(by simpa using h0);omega)
  exact ah ⟨by rw[xP h0],rfl⟩
 have hne:b.stack ≠ []:=fun e=>by rw[e] at h0;simp at h0
 obtain⟨l,x,hl⟩:=BP hne
 have hlen:b.stack.length=l.length + 1:=by rw[hl];simp
 rw[Im hl]
 obtain⟨a,s,k1,hs,k2,k3⟩:=PN (O:=[]) h.stack (i:=l.length) (x:=x) (by rw[hl];exact yi l x)
 have esub:((b.stack.length:Int) - 1)=(l.length:Int):=by omega
 refine aa (aa ?_)
 refine ab _ slen ?_
 refine ab _ (Eu (by omega) (by omega)) ?_
 rw[esub]
 refine ab _ k1 (ap k2 rfl ⟨rfl,rfl,rfl,rfl,hs.one,trivial⟩ (af fun r1=>?_))
 refine aa (aa ?_)
 refine ar (zo hk x.player x.id x.card x.trig hs.one) ?_
 rintro ev H2 _ ⟨hev,rfl⟩ l2
 refine⟨[ev],rfl,⟨hev.one,trivial⟩,?_⟩
 have hn5:=E9 hli x
 refine ar (Triple.frozenS (ON (DO hev) (by rw[List.length_map];have:=rE hli x.card x.trig;omega))) ?_
 rintro nv H3 _ ⟨hnv,rfl⟩ l3
 have hnv:Sl H3 1 nv (aE (ji cs x)):=hnv
 refine⟨[nv],rfl,⟨hnv.one,trivial⟩,?_⟩
 have tlen:ak .len [s]=some (iV x.tgs.length):=by have:=hs.len;rwa [bf] at this
 have nlen:ak .len [nv]=some (iV (ji cs x).length):=by have:=hnv.len;rwa [aE,List.length_map] at this
 refine aa ?_
 refine ab _ (aY _ _) ?_
 refine aa (ae (ae ?_))
 refine ab _ tlen ?_
 refine ae ?_
 refine ab _ nlen ?_
 refine ae ?_
 refine ab _ (VQ _ _) ?_
 refine ae (ae ?_)
 refine ab _ (cI _ _) ?_
 refine ae ?_
 refine ab _ (aR _ _) (ai (fun hc=>?_) (fun hc=>?_))
 ·have hc:((x.trig != -1) || decide ((x.tgs.length:Int) ≥ min 4 ((ji cs x).length:Int)))=true:=hc
  have hc:¬ (x.trig=-1∧(x.tgs.length:Int) < min 4 ((ji cs x).length:Int)):=by
   intro hh
   rw[hh.1,decide_eq_false (by omega)] at hc
   cases hc
  exact ah ⟨by rw[JG,if_neg hc],rfl⟩
 ·have hc:((x.trig != -1) || decide ((x.tgs.length:Int) ≥ min 4 ((ji cs x).length:Int)))=false:=hc
  have hc:x.trig=-1∧(x.tgs.length:Int) < min 4 ((ji cs x).length:Int):=by
   rw[Bool.or_eq_false_iff] at hc
   exact⟨by simpa using hc.1,by have:=of_decide_eq_false hc.2;omega⟩
  have hlt:x.tgs.length < (ji cs x).length:=by omega
  obtain⟨a2,i1,i2,_,i3,i4⟩:=(hnv.rsl ([]:Own)).idx .i64 x.tgs.length [iV (ji cs x)[x.tgs.length]] (by simp[aE,hlt])
  refine aa ?_
  refine ab _ tlen ?_
  refine ab _ i1 (ap i2 rfl ⟨rfl,trivial⟩ ?_)
  refine ah ⟨?_,rfl⟩
  rw[JG,if_pos hc,List.getD_eq_getElem?_getD,List.getElem?_eq_getElem hlt];rfl
theorem Nk {α:Type} {Ts:List α} {n:Nat} (h:Ts.length=n + 1):∃ T,Ts=Ts.take n++[T]∧Ts[n]?=some T:=by
 have hlt:n < Ts.length:=by omega
 refine⟨Ts[n],?_,List.getElem?_eq_getElem hlt⟩
 have:=List.take_append_drop n Ts
 rw[List.drop_eq_getElem_cons hlt,List.drop_of_length_le (by omega)] at this
 exact this.symm
theorem JE {w:cn} {b:Bd} {O:Own} (ho:OwnBS tys w b O) {l:List It} {x:It} (hl:b.stack=l++[x]) :
  ∃ A T s a u,O.Perm (A++T)∧ak (.idx 5) [w.s,iV l.length]=some (.pointer (some a))∧OSl aA 2 s (bO x.tgs) T ∧
   (∀ (H:Heap),Reads H O (.pointer (some a)) 5 [iV x.player,iV x.id,iV x.card,iV x.trig,s]) ∧
   ak (.slc 5 false true false) [w.s,iV l.length]=some u∧OwnB tys { w with s:=u } { b with stack:=l } A:=by
 obtain⟨A,R,hp,⟨rows,A1,Ts,q1,q2,q3,q4,q5⟩,back⟩:=ho
 have hn:b.stack.length=l.length + 1:=by rw[hl];simp
 have hri:rows[l.length]?=some (rows[l.length]'(by omega)):=List.getElem?_eq_getElem (by omega)
 have hxi:b.stack[l.length]?=some x:=by rw[hl];exact yi l x
 obtain⟨T,eT,hT⟩:=Nk (Ts:=Ts) (n:=l.length) (by omega)
 obtain⟨s,e,hs⟩:=q5 _ _ _ _ hri hxi hT
 obtain⟨u,u1,u2⟩:=q2.upto (i:=l.length) (by omega)
 obtain⟨a,k1,_⟩:=q2.store (O:=A1) (O2:=[]) (by simp) (k:=.i64) hri
 refine⟨(A1++List.flatten (Ts.take l.length))++R,T,s,a,u,?_,k1,hs,fun H=>?_,u1,back u l _ ⟨rows.take l.length,A1,Ts.take l.length,List.Perm.refl _,u2,by rw[List.length_take];omega,by rw[List.length_take];omega,fun i r y Ty h1 h2 h3=>?_⟩⟩
 ·have e2:List.flatten Ts=List.flatten (Ts.take l.length)++T:=by
   conv=>lhs;rw[eT]
   rw[List.flatten_append];simp
  rw[e2] at q1
  refine hp.trans ((q1.append_right R).trans ?_)
  rw[List.append_assoc,List.append_assoc,List.append_assoc,List.append_assoc]
  refine List.Perm.append_left A1 ?_
  refine List.Perm.append_left _ ?_
  exact List.perm_append_comm
 ·obtain⟨a',i1,_,i2,i3⟩:=q2.idx (fun p h=>hp.mem_iff.2 (List.mem_append_left _ (q1.mem_iff.2 (List.mem_append_left _ h)))) H (k:=.i64) hri
  have:a'=a:=by
   rw[k1] at i1
   simpa using i1.symm
  subst this
  rw[e] at i2
  exact i2
 ·have hil:i < l.length:=(List.getElem?_eq_some_iff.1 h2).1
  rw[List.getElem?_take,if_pos hil] at h1 h3
  have h2':b.stack[i]?=some y:=by rw[hl,List.getElem?_append_left hil];exact h2
  obtain⟨s',e',k⟩:=q5 i r y Ty h1 h2' h3
  exact⟨s',e',.inl k⟩
def cU (b:Bd):It:=b.stack.getLast?.getD zIt
theorem sY {b:Bd} {l:List It} {x:It} (hl:b.stack=l++[x]):cU b=x:=by simp[cU,hl]
def lS (b:Bd):Bd × Int:=if an b=false then (zBd,2) else if b.stack=[] then (zBd,9) else if (cU b).trig=-1 then ((cX b (cU b).id 3).1,0) else ({ b with stack:=b.stack.dropLast },0)
def yZ (b:Bd):It:=if an b=false then zIt else cU b
theorem Wb {H:Heap} {v:cn} {b:Bd} (h:BdS H v b) (hB:bdB b) :
  Triple PP rN [.agg (al v b).toArray] H [] fun r _ O'=>∃ w s A T,r=.tuple #[.agg (al w (lS b).1).toArray,.agg #[iV (yZ b).player,iV (yZ b).id,iV (yZ b).card,iV (yZ b).trig,s],iV (lS b).2] ∧
   O'.Perm (A++T)∧OwnB tys w (lS b).1 A∧OSl aA 2 s (bO (yZ b).tgs) T:=by
 by_cases hv:an b=true
 case neg =>
  have hv:an b=false:=by simpa using hv
  have e:lS b=(zBd,2):=by rw[lS,if_pos hv]
  have e2:yZ b=zIt:=by rw[yZ,if_pos hv]
  rw[e,e2]
  refine (Uu h hv).mono ?_
  rintro r H' O' _ ⟨rfl,rfl⟩
  exact⟨vH,.slice none 0 0,[],[],rfl,List.Perm.refl _,OwnB.zero tys,OSl.nil _ _⟩
 have e2:yZ b=cU b:=by rw[yZ,if_neg (by rw[hv];simp)]
 refine xp (vs:=al v b) (by kernel_rfl) (am (h.r [])) ?_
 simp only[wZ]
 have h200:=oO hv
 refine af fun r0=>af fun r1=>af fun r2=>?_
 refine aa ?_
 refine aj (dq (h.r [])) rfl ⟨rfl,trivial⟩ fun H1 l1=>?_
 rw[hv]
 have h:=h.le l1
 have slen:ak .len [v.s]=some (iV b.stack.length):=ItsR.len (h.stack.r [])
 refine ab _ (aJ _) (ai (fun hd=>by cases hd) (fun _=>?_))
 refine aa ?_
 refine ab _ slen ?_
 refine ab _ (ay _ _) (ai (fun h0=>?_) (fun h0=>?_))
 ·have h0:b.stack=[]:=List.length_eq_zero_iff.1 (by have:(b.stack.length:Int)=0:=(by simpa using h0);omega)
  have e:lS b=(zBd,9):=by rw[lS,if_neg (by rw[hv];simp),if_pos h0]
  have e3:cU b=zIt:=by simp[cU,h0]
  rw[e,e2,e3]
  refine aa (aa (aa (aa ?_)))
  exact ah ⟨vH,.slice none 0 0,[],[],rfl,List.Perm.refl _,OwnB.zero tys,OSl.nil _ _⟩
 have hne:b.stack ≠ []:=fun e=>by rw[e] at h0;simp at h0
 obtain⟨l,x,hl⟩:=BP hne
 have hlen:b.stack.length=l.length + 1:=by rw[hl];simp
 have hxf:=nu hv (x:=x) (by rw[hl];simp)
 have hxid:i64 x.id:=by
  simp only[cQ,au,Bool.and_eq_true,decide_eq_true_eq] at hxf
  constructor <;> omega
 have esub:((b.stack.length:Int) - 1)=(l.length:Int):=by omega
 have etop:=sY hl
 rw[e2,etop]
 refine aa ?_
 refine ar (QK h hB) ?_
 rintro _ H4 O4 ⟨w,rfl,ho⟩ l4
 refine⟨al w b,rfl,aZ H4 ho.weak,?_⟩
 rw[List.append_nil]
 have h:=h.le l4
 obtain⟨A,T,s4,a4,u,p1,i1,hs4,rd,hu,hpop⟩:=JE ho hl
 refine af fun r3=>?_
 refine aa (aa ?_)
 refine ab _ (Eu (by omega) (by omega)) ?_
 rw[esub]
 refine ab _ i1 (ap (rd H4) rfl ⟨rfl,rfl,rfl,rfl,hs4.one,trivial⟩ (af fun r4=>?_))
 refine aa (aa ?_)
 refine ab _ (ay _ _) (ai (fun ht=>?_) (fun ht=>?_))
 ·have ht:x.trig=-1:=by simpa using ht
  have e:lS b=((cX b x.id 3).1,0):=by rw[lS,if_neg (by rw[hv];simp),if_neg hne,etop,if_pos ht]
  rw[e]
  refine aa (aa ?_)
  refine ar (Jb h hB hxid 3) ?_
  rintro _ H5 O5 ⟨w5,rfl,ho5⟩ l5
  refine⟨al w5 (cX b x.id 3).1++[iV (cX b x.id 3).2],rfl,ax (aZ H5 ho5) ⟨rfl,trivial⟩,?_⟩
  repeat (first | refine aa ?_ | refine ae ?_ | refine aw rfl ?_)
  refine zj (O':=O5++T) (Y:=A) ?_ ⟨w5,s4,O5,T,rfl,List.Perm.refl _,ho5,hs4⟩
  rw[List.append_assoc]
  exact (p1.trans List.perm_append_comm).append_left O5
 ·have ht:x.trig ≠ -1:=by simpa using ht
  have e:lS b=({ b with stack:=l },0):=by rw[lS,if_neg (by rw[hv];simp),if_neg hne,etop,if_neg ht,hl,List.dropLast_concat]
  rw[e]
  refine aa ?_
  refine ab _ (Eu (by omega) (by omega)) ?_
  rw[esub]
  refine ab _ hu ?_
  repeat (first | refine aa ?_ | refine ae ?_ | refine aw rfl ?_)
  exact ah ⟨{ w with s:=u },s4,A,T,rfl,p1,hpop,hs4⟩
def bB (b:Bd) (id:Int):Bd × Int:=if (ba b id == 2)=true then (zBd,2) else if (ba b id != 0 || (oN b id).2.1 != 4)=true then (zBd,9) else cX b id 3
theorem Jd {H:Heap} {v:cn} {b:Bd} (h:BdS H v b) (hB:bdB b) {id:Int} (hid:i64 id):Triple PP uO [.agg (al v b).toArray,iV id] H [] fun r _ O'=>∃ w,r=.tuple #[.agg (al w (bB b id).1).toArray,iV (bB b id).2]∧OwnB tys w (bB b id).1 O':=by
 refine zb (vs:=al v b++[iV id]) (by kernel_rfl) (ax (am (h.r [])) ⟨rfl,trivial⟩) ?_
 simp only[uA]
 refine af fun r0=>af fun r1=>?_
 refine aa ?_
 refine aj (He h hid []) rfl (vs:=Gg (oN b id)++[iV (ba b id)]) ⟨rfl,rfl,rfl,rfl,trivial⟩ fun H1 l1=>af fun r2=>?_
 have h:=h.le l1
 refine aa ?_
 refine ab _ (ay _ _) (ai (fun hb=>?_) (fun hb=>?_))
 ·have hb:(ba b id == 2)=true:=hb
  have e:bB b id=(zBd,2):=by rw[bB,if_pos hb]
  have e2:ba b id=2:=by simpa using hb
  rw[e,e2]
  refine aa (aa ?_)
  exact ah ⟨vH,rfl,OwnB.zero tys⟩
 have hb:(ba b id == 2)=false:=hb
 refine ab _ (aY _ _) ?_
 refine aa (ae (ae ?_))
 refine ab _ (aY _ _) ?_
 refine ae ?_
 refine ab _ (aR _ _) (ai (fun hc=>?_) (fun hc=>?_))
 ·have e:bB b id=(zBd,9):=by rw[bB,if_neg (by rw[hb];simp),if_pos hc]
  rw[e]
  refine aa (aa ?_)
  exact ah ⟨vH,rfl,OwnB.zero tys⟩
 have hc:(ba b id != 0 || (oN b id).2.1 != 4)=false:=hc
 have e:bB b id=cX b id 3:=by rw[bB,if_neg (by rw[hb];simp),if_neg (by rw[hc];simp)]
 rw[e]
 refine aa ?_
 refine ar (Jb h hB hid 3) ?_
 rintro _ H5 O5 ⟨w5,rfl,ho5⟩ l5
 refine⟨al w5 (cX b id 3).1++[iV (cX b id 3).2],rfl,ax (aZ H5 ho5) ⟨rfl,trivial⟩,?_⟩
 rw[List.append_nil]
 refine aa (aa ?_)
 exact ah ⟨w5,rfl,ho5⟩
def szS (n:Nat) (s:St):Prop:=s.lib.length≤n∧s.hand.length≤n∧s.field.length≤n∧s.grave.length≤n
def szI (n:Nat) (l:List It):Prop:=l.length≤n∧∀ x ∈ l,x.tgs.length≤n
def szB (n:Nat) (b:Bd):Prop:=b.objs.length≤n∧szS n b.s0∧szS n b.s1∧szI n b.stack∧szI n b.queue∧b.att.length≤n∧b.blocks.length≤n
theorem szS.le {n m:Nat} {s:St} (h:szS n s) (hm:n≤m):szS m s:=⟨Nat.le_trans h.1 hm,Nat.le_trans h.2.1 hm,Nat.le_trans h.2.2.1 hm,Nat.le_trans h.2.2.2 hm⟩
theorem szI.le {n m:Nat} {l:List It} (h:szI n l) (hm:n≤m):szI m l:=⟨Nat.le_trans h.1 hm,fun x hx=>Nat.le_trans (h.2 x hx) hm⟩
theorem szB.le {n m:Nat} {b:Bd} (h:szB n b) (hm:n≤m):szB m b :=
 ⟨Nat.le_trans h.1 hm,szS.le h.2.1 hm,szS.le h.2.2.1 hm,szI.le h.2.2.2.1 hm,szI.le h.2.2.2.2.1 hm,Nat.le_trans h.2.2.2.2.2.1 hm,Nat.le_trans h.2.2.2.2.2.2 hm⟩
theorem Rf {n:Nat} {b:Bd} (h:szB n b) (hn:n≤100000):bdB b:=by
 obtain⟨a1,a2,a3,a4,a5,a6,a7⟩:=szB.le h (show n≤1000000 by omega)
 exact⟨a1,a2,a3,a4,a5,a6,a7⟩
theorem Oh {n:Nat} {b:Bd} (h:szB n b) (hn:n≤100000):Jh b:=by
 obtain⟨_,a2,a3,a4,_⟩:=szB.le h hn
 exact⟨a2,a3,a4.1⟩
theorem Rm {b:Bd} (h:ge b=true):szB 40 b:=by
 simp only[ge,gQ,nh,Bool.and_eq_true,Bool.not_eq_true',decide_eq_false_iff_not,decide_eq_true_eq,List.all_eq_true] at h
 obtain⟨⟨a1,a2,a3,a4⟩,⟨b1,b2,b3,b4⟩,⟨c1,c2⟩,⟨d1,d2⟩,⟨e1,e2⟩,e3⟩:=h
 refine⟨by omega,⟨by omega,by omega,by omega,by omega⟩,⟨by omega,by omega,by omega,by omega⟩,⟨by omega,fun x hx=>?_⟩,⟨by omega,fun x hx=>?_⟩,by omega,by omega⟩
 ·have:=c2 x hx;omega
 ·have:=d2 x hx;omega
theorem Re {n m:Nat} {b:Bd} {l:List It} (h:szB n b) (hm:n≤m) (hl:szI m l):szB m { b with stack:=l }:=by
 obtain⟨a1,a2,a3,_,a5,a6,a7⟩:=szB.le h hm
 exact⟨a1,a2,a3,hl,a5,a6,a7⟩
theorem szI.app {n:Nat} {l:List It} (h:szI n l) {x:It} (hx:x.tgs.length≤n + 1):szI (n + 1) (l++[x]):=by
 refine⟨by have:=h.1;simp;omega,fun y hy=>?_⟩
 rcases List.mem_append.1 hy with hy | hy
 ·have:=h.2 y hy;omega
 ·rw[List.mem_singleton.1 hy];exact hx
theorem VB {n:Nat} {b:Bd} (h:szB n b) (id:Int):szB n (na b id):=by
 obtain⟨a1,a2,a3,a4,a5,a6,a7⟩:=h
 have hw:∀ {l:List Int},l.length≤n→(ce l id).length≤n:=fun h=>Nat.le_trans (List.length_filter_le _ _) h
 exact⟨a1,⟨hw a2.1,hw a2.2.1,hw a2.2.2.1,hw a2.2.2.2⟩,⟨hw a3.1,hw a3.2.1,hw a3.2.2.1,hw a3.2.2.2⟩,⟨Nat.le_trans (List.length_filter_le _ _) a4.1,fun x hx=>a4.2 x (List.mem_filter.1 hx).1⟩,a5,hw a6,Nat.le_trans (List.length_filter_le _ _) a7⟩
theorem Oe {n:Nat} {s:St} (h:szS n s) (z id:Int):szS (n + 1) (HY s z id):=by
 obtain⟨h1,h2,h3,h4⟩:=h
 simp only[HY]
 split
 ·exact⟨by simp;omega,by show s.hand.length≤n + 1;omega,by show s.field.length≤n + 1;omega,by show s.grave.length≤n + 1;omega⟩
 split
 ·exact⟨by show s.lib.length≤n + 1;omega,by simp;omega,by show s.field.length≤n + 1;omega,by show s.grave.length≤n + 1;omega⟩
 split
 ·exact⟨by show s.lib.length≤n + 1;omega,by show s.hand.length≤n + 1;omega,by simp;omega,by show s.grave.length≤n + 1;omega⟩
 split
 ·exact⟨by show s.lib.length≤n + 1;omega,by show s.hand.length≤n + 1;omega,by show s.field.length≤n + 1;omega,by simp;omega⟩
 ·exact⟨by omega,by omega,by omega,by omega⟩
theorem T0 {n:Nat} {b:Bd} (h:szB n b) (k:Nat) (o:Ob) (z:Int):szB (n + 1) (fA b k o z):=by
 obtain⟨a1,a2,a3,a4,a5,a6,a7⟩:=VB h o.id
 simp only[fA,ll,aV,ao]
 split
 ·exact⟨by simp only[bT,List.length_set];omega,Oe a2 _ _,szS.le a3 (by omega),szI.le a4 (by omega),szI.le a5 (by omega),Nat.le_trans a6 (by omega),Nat.le_trans a7 (by omega)⟩
 ·exact⟨by simp only[bT,List.length_set];omega,szS.le a2 (by omega),Oe a3 _ _,szI.le a4 (by omega),szI.le a5 (by omega),Nat.le_trans a6 (by omega),Nat.le_trans a7 (by omega)⟩
theorem uX {n:Nat} {b:Bd} (h:szB n b) (id z:Int):szB (n + 1) (cX b id z).1:=by
 have hz:szB (n + 1) zBd:=⟨Nat.zero_le _,⟨Nat.zero_le _,Nat.zero_le _,Nat.zero_le _,Nat.zero_le _⟩,⟨Nat.zero_le _,Nat.zero_le _,Nat.zero_le _,Nat.zero_le _⟩,⟨Nat.zero_le _,fun x hx=>by cases hx⟩,⟨Nat.zero_le _,fun x hx=>by cases hx⟩,Nat.zero_le _,Nat.zero_le _⟩
 rw[cX]
 split
 ·exact hz
 split
 ·exact hz
 ·exact T0 h _ _ _
section
variable {b:Bd} {k j:Nat} {o:Ob} {ts:List Tg}
variable (hk:b.objs[k]?=some o)
include hk
end
theorem NX {b:Bd} (h:an b=true) (id:Int):ba b id=0∨ba b id=9:=by
 rw[ba,if_pos h];split
 ·exact .inr rfl
 ·exact .inl rfl
theorem Ly {b:Bd} (hv:an b=true) {k:Nat} {o:Ob} (e1:b.objs[k]?=some o) (z:Int) (hz:z=0∨z=1∨z=2∨z=3):cX b o.id z=(Is b k (bu o z) z,0):=by
 have e3:=(cV (aM hv).1 e1).2.2.1
 have hE0:ba b o.id=0:=by
  have:¬ eY b o.id < 0:=by omega
  simp[ba,hv,this]
 have hEne:(ba b o.id != 0)=false:=by rw[hE0];rfl
 have hfo:=rC hEne e1 e3
 have emr:Is b k (bu o z) z=fA b k (bu o z) z:=by
  show ll (bT (Jp b o.id) k _) o.owner z o.id=ll (bT (na b o.id) k _) o.owner z o.id
  rw[CY hv]
 have hzw:au z 0 3=true:=by simp only[au,decide_eq_true_eq];omega
 rw[cX,if_neg (by rw[hE0,hzw];decide),if_neg (by rw[hEne];simp),hfo,e3,emr];rfl
theorem tU {H:Heap} {v:cn} {b:Bd} (h:BdS H v b) (hv:an b=true) (hB:bdB b) {k:Nat} {o:Ob} (hk:b.objs[k]?=some o) (z:Int) (hz:z=0∨z=1∨z=2∨z=3) :
  Triple PP fS [.agg (al v b).toArray,iV o.id,iV z] H [] fun r H' O'=>(∃ w,r=.agg (al w (cX b o.id z).1).toArray∧BdS H' w (cX b o.id z).1)∧O'=[]:=by
 rw[Ly hv hk z hz]
 obtain⟨_,_,e3,hown⟩:=cV (aM hv).1 hk
 exact OP h hB hk e3 hown z
theorem Ou {b:Bd} (hv:an b=true) {x:It} (hx:x ∈ b.stack) (ht:x.trig < 0):∃ (k:Nat) (o:Ob),b.objs[k]?=some o∧o.id=x.id∧o.owner=x.player:=by
 refine IN (aM hv).1 (id:=x.id) (p:=x.player) ?_
 simp only[aL,List.mem_append]
 refine .inr (.inr ?_)
 simp only[eK,bH,List.mem_map,List.mem_filter,decide_eq_true_eq]
 exact⟨x,⟨hx,ht⟩,rfl⟩
theorem WJ {H:Heap} {v:cn} {b:Bd} (h:BdS H v b) (hv:an b=true) (hB:bdB b) :
  Triple PP pn [.agg (al v b).toArray] H [] fun r H' O'=>(∃ w s,r=.tuple #[.agg (al w (lS b).1).toArray,.agg #[iV (yZ b).player,iV (yZ b).id,iV (yZ b).card,iV (yZ b).trig,s],iV (lS b).2] ∧
   BdS H' w (lS b).1∧Sl H' 2 s (bO (yZ b).tgs))∧O'=[]:=by
 have e2:yZ b=cU b:=by rw[yZ,if_neg (by rw[hv];simp)]
 refine vo (vs:=al v b) (by kernel_rfl) (am (h.r [])) ?_
 simp only[o7]
 have h200:=oO hv
 refine af fun r0=>af fun r1=>af fun r2=>?_
 have slen:ak .len [v.s]=some (iV b.stack.length):=ItsR.len (h.stack.r [])
 refine aa ?_
 refine ab _ slen ?_
 refine ab _ (ay _ _) (ai (fun h0=>?_) (fun h0=>?_))
 ·have h0:b.stack=[]:=List.length_eq_zero_iff.1 (by have:(b.stack.length:Int)=0:=(by simpa using h0);omega)
  have e:lS b=(zBd,9):=by rw[lS,if_neg (by rw[hv];simp),if_pos h0]
  have e3:cU b=zIt:=by simp[cU,h0]
  rw[e,e2,e3]
  refine aa (aa (aa (aa ?_)))
  exact ah ⟨⟨vH,.slice none 0 0,rfl,vk _,Sl.nil _ _⟩,rfl⟩
 have hne:b.stack ≠ []:=fun e=>by rw[e] at h0;simp at h0
 obtain⟨l,x,hl⟩:=BP hne
 have hlen:b.stack.length=l.length + 1:=by rw[hl];simp
 have esub:((b.stack.length:Int) - 1)=(l.length:Int):=by omega
 have etop:=sY hl
 rw[e2,etop]
 refine aa ?_
 refine ab _ slen ?_
 refine ab _ (Eu (by omega) (by omega)) ?_
 rw[esub]
 refine aa ?_
 refine ar (JC h hB) ?_
 rintro _ H4 O4 ⟨w,rfl,ho⟩ l4
 refine⟨al w b,rfl,aZ H4 ho.weak,?_⟩
 rw[List.append_nil]
 have h:=h.le l4
 obtain⟨A,T,s4,a4,u,p1,i1,hs4,rd,hu,hpop⟩:=JE ho hl
 refine ab _ i1 (ap (rd H4) rfl ⟨rfl,rfl,rfl,rfl,hs4.one,trivial⟩ (af fun r4=>?_))
 refine aa (aa ?_)
 refine ab _ (ay _ _) (ai (fun ht=>?_) (fun ht=>?_))
 ·have ht:x.trig=-1:=by simpa using ht
  have e:lS b=((cX b x.id 3).1,0):=by rw[lS,if_neg (by rw[hv];simp),if_neg hne,etop,if_pos ht]
  rw[e]
  obtain⟨k,o,f1,f2,_⟩:=Ou hv (x:=x) (by rw[hl];simp) (by omega)
  have hmv:=tU h hv hB f1 3 (by omega)
  rw[f2] at hmv
  refine aa (aa (aa ?_))
  refine ar hmv ?_
  rintro _ H5 _ ⟨⟨w5,rfl,h5⟩,rfl⟩ l5
  refine⟨al w5 (cX b x.id 3).1,rfl,am (h5.r []),?_⟩
  refine aa (aa (aa (aa ?_)))
  intro hcs
  have hcs:Cons H5 O4:=hcs
  obtain⟨H6,g6,k6,l6⟩:=hs4.freeze (X:=A) (hcs.perm (p1.trans List.perm_append_comm))
  exact⟨H6,[],(Ghost.perm (p1.trans List.perm_append_comm)).trans (g6.trans (Ghost.drop _ _)),⟨w5,s4,rfl,h5.le l6,k6⟩,rfl⟩
 ·have ht:x.trig ≠ -1:=by simpa using ht
  have e:lS b=({ b with stack:=l },0):=by rw[lS,if_neg (by rw[hv];simp),if_neg hne,etop,if_neg ht,hl,List.dropLast_concat]
  rw[e]
  refine aa ?_
  refine ar (JC h hB) ?_
  rintro _ H5 O5 ⟨w5,rfl,ho5⟩ l5
  refine⟨al w5 b,rfl,aZ H5 ho5.weak,?_⟩
  obtain⟨A5,T5,s5,a5,u5,p5,i5,hs5,rd5,hu5,hpop5⟩:=JE ho5 hl
  refine aa (aa ?_)
  refine ab _ hu5 ?_
  repeat (first | refine aa ?_ | refine ae ?_ | refine aw rfl ?_)
  intro hcs
  have pp:(O5++O4).Perm (T++(A5++(T5++A))):=by
   refine aX fun a _ _=>?_
   have c1:=p1.count_eq a
   have c5:=p5.count_eq a
   simp only[List.count_append] at c1 c5 ⊢
   omega
  have hc2:=hcs.perm pp
  obtain⟨H6,g6,k6,l6⟩:=hs4.freeze hc2
  obtain⟨H7,g7,k7,l7⟩:=hpop5.freeze (hc2.ghost g6)
  exact⟨H7,[],(Ghost.perm pp).trans (g6.trans (g7.trans (Ghost.drop _ _))),⟨{ w5 with s:=u5 },s4,rfl,k7,k6.le l7⟩,rfl⟩
theorem HW {H:Heap} {v:cn} {b:Bd} (h:BdS H v b) (hv:an b=true) (hB:bdB b) {id:Int}:Triple PP kF [.agg (al v b).toArray,iV id] H [] fun r H' O'=>(∃ w,r=.tuple #[.agg (al w (bB b id).1).toArray,iV (bB b id).2]∧BdS H' w (bB b id).1)∧O'=[]:=by
 refine qe (vs:=al v b++[iV id]) (by kernel_rfl) (ax (am (h.r [])) ⟨rfl,trivial⟩) ?_
 simp only[kl]
 refine af fun r0=>af fun r1=>?_
 obtain⟨w1,w2⟩:=Q2 hv id
 refine aa ?_
 refine aj (Ul (h.r []) id) rfl (vs:=Gg (Gf (ga (onR id) b id))++[iV (ER (ga (onR id) b id))]) ⟨rfl,rfl,rfl,rfl,trivial⟩ fun H1 l1=>af fun r2=>?_
 rw[← w1,← w2]
 have h:=h.le l1
 have hn2:¬ (ba b id == 2)=true:=by
  rcases NX hv id with e | e <;> rw[e] <;> decide
 refine aa ?_
 refine ab _ (aY _ _) ?_
 refine aa (ae (ae ?_))
 refine ab _ (aY _ _) ?_
 refine ae ?_
 refine ab _ (aR _ _) (ai (fun hc=>?_) (fun hc=>?_))
 ·have e:bB b id=(zBd,9):=by rw[bB,if_neg hn2,if_pos hc]
  rw[e]
  refine aa (aa ?_)
  exact ah ⟨⟨vH,rfl,vk _⟩,rfl⟩
 have hc:(ba b id != 0 || (oN b id).2.1 != 4)=false:=hc
 have e:bB b id=cX b id 3:=by rw[bB,if_neg hn2,if_neg (by rw[hc];simp)]
 rw[Bool.or_eq_false_iff] at hc
 obtain⟨_,k,o,e1,e2,e3,e4⟩:=nR hc.1
 have hmv:=tU h hv hB e1 3 (by omega)
 have ez:(cX b o.id 3).2=0:=by rw[Ly hv e1 3 (by omega)]
 rw[e2] at hmv ez
 rw[e]
 refine aa ?_
 refine ar hmv ?_
 rintro _ H5 _ ⟨⟨w5,rfl,h5⟩,rfl⟩ l5
 refine⟨al w5 (cX b id 3).1,rfl,am (h5.r []),?_⟩
 refine aa (aa ?_)
 exact ah ⟨⟨w5,by rw[ez];rfl,h5⟩,rfl⟩
structure Ac where
 (what id:Int)
 x:It
 t:Tg
def W1 (a:Ac) (s:Value):List Value:=[iV a.what,iV a.id,iV a.x.player,iV a.x.id,iV a.x.card,iV a.x.trig,s,iV a.t.id,iV a.t.player]
def ActsS (H:Heap) (v:Value) (l:List Ac):Prop:=∃ rows,Sl H 9 v rows∧rows.length=l.length∧∀ (i:Nat) (r:List Value) (a:Ac),rows[i]?=some r→l[i]?=some a→i64 a.id∧∃ s,r=W1 a s∧Sl H 2 s (bO a.x.tgs)
theorem ActsS.le {H H':Heap} {v:Value} {l:List Ac} (h:ActsS H v l) (hl:Heap.le H H'):ActsS H' v l :=
 let ⟨rows,h1,h2,h3⟩:=h;⟨rows,h1.le hl,h2,fun i r x a b=>let ⟨k0,s,e,k⟩:=h3 i r x a b;⟨k0,s,e,k.le hl⟩⟩
theorem ActsS.len {H:Heap} {v:Value} {l:List Ac} (h:ActsS H v l):ak .len [v]=some (iV l.length):=by
 obtain⟨rows,h1,h2,_⟩:=h
 rw[← h2];exact h1.len
theorem ActsS.one {H:Heap} {v:Value} {l:List Ac} (h:ActsS H v l):v.oneCell'=true:=by
 obtain⟨rows,h1,_⟩:=h
 exact h1.one
def Iq (b:Bd) (r:Bd × Int):Bd:=if r.2=0 then r.1 else b
section
variable {H:Heap} {cv:Value} {cs:List CdX} (hk:CardsX H cv cs) (hli:dh (cs.map CdX.base)=true) {v u:cn} {b:Bd} (h:BdS H v b) (hu:BdS H u b) (hv:an b=true) (hB:bdB b) (hfit:Jh b)
 {r1 r2 r3 r4 r5 r6 r7 r8:Nat} {l0 l1 l2:List Value} {n m:Nat} (q0:g l0 0=cv) (q1:ag (G38 l0 1)=.agg (al v b).toArray) (q2:ag (G38 l1 0)=.agg (al u b).toArray)
include hk hli h hu hv hB hfit q0 q1 q2
end
section
variable {H:Heap} {v u:cn} {b:Bd} (h:BdS H v b) (hu:BdS H u b) (hv:an b=true) (hB:bdB b)
 {r1 r2 r3 r4 r5 r6 r7 r8:Nat} {l0 l1:List Value} {n:Nat} (q1:ag (G38 l0 1)=.agg (al v b).toArray) (q2:ag (G38 l1 0)=.agg (al u b).toArray)
include h hu hv hB q1 q2
end
theorem xW {b:Bd} (hv:an b=true) {id:Int} {k:Nat} {o:Ob} (e1:b.objs[k]?=some o) (e2:o.id=id) {z:Int} (hz:z=0∨z=1∨z=2∨z=3):an (cX b id z).1=true:=by
 have hm:=Ly hv e1 z hz
 rw[e2] at hm
 have emr:Is b k (bu o z) z=fA b k (bu o z) z:=by
  show ll (bT (Jp b o.id) k _) o.owner z o.id=ll (bT (na b o.id) k _) o.owner z o.id
  rw[CY hv]
 rw[hm,emr]
 exact Fa hv e1 hz
section
variable {b:Bd} (hv:an b=true) {n:Nat} (hsz:szB n b)
include hv hsz
theorem UE {r:Bd × Int} (h:r.2 ≠ 0):an (Iq b r)=true∧szB (n + 1) (Iq b r):=by
 rw[Iq,if_neg h];exact⟨hv,szB.le hsz (by omega)⟩
theorem RP:an (Iq b (lS b))=true∧szB (n + 1) (Iq b (lS b)):=by
 rw[lS,if_neg (by rw[hv];simp)]
 by_cases hne:b.stack=[]
 ·rw[if_pos hne];exact UE hv hsz (by show (9:Int) ≠ 0;omega)
 rw[if_neg hne]
 obtain⟨l,x,hl⟩:=BP hne
 rw[sY hl]
 by_cases ht:x.trig=-1
 ·rw[if_pos ht,Iq,if_pos rfl]
  obtain⟨k,o,f1,f2,_⟩:=Ou hv (x:=x) (by rw[hl];simp) (by omega)
  exact⟨xW hv f1 f2 (by omega),uX hsz _ _⟩
 ·have hxf:=nu hv (x:=x) (by rw[hl];simp)
  have htr:¬ x.trig < 0:=by
   simp only[cQ,Bool.and_eq_true] at hxf
   have:=of_decide_eq_true hxf.2.2.2.1
   omega
  rw[if_neg ht,Iq,if_pos rfl]
  have hst:=hsz.2.2.2.1
  rw[hl] at hst
  rw[hl,List.dropLast_concat]
  refine⟨OU hv hl htr,Re hsz (by omega) ⟨?_,fun q hq=>by have:=hst.2 q (List.mem_append_left _ hq);omega⟩⟩
  have:=hst.1;rw[List.length_append] at this;omega
end
theorem gW (x y:Int):ak .min2 [iV x,iV y]=some (iV (min x y)):=by
 simp only[ak];congr 2;omega
theorem kQ (x y:Int):ak .max2 [iV x,iV y]=some (iV (max x y)):=by
 simp only[ak];congr 2;omega
theorem rJ {x y:Int} (h1:-9223372036854775808≤x + y) (h2:x + y < 9223372036854775808):ak (.bin .add .int) [iV x,iV y]=some (iV (x + y)):=by
 simp only[ak,fL,fg,if_true]
 rw[gJ (by omega) (by omega)]
def N5 (p:Int):Int:=max 0 (min p 99)
theorem VM {H:Heap} {O:Own} (p:Int):RetO PP jZ [iV 0,iV p] H O (iV (N5 p)):=by
 refine lR (vs:=[iV 0,iV p]) (by kernel_rfl) ⟨rfl,rfl,trivial⟩ ?_
 simp only[jP]
 refine ab _ (gW _ _) (ab _ (kQ _ _) (ab _ (gW _ _) (ab _ (kQ _ _) (ab _ (rJ ?_ ?_) (ab _ (gW _ _) (ah ⟨?_,rfl⟩))))))
 ·omega
 ·omega
 ·rw[N5];congr 1;omega
theorem NG {H:Heap} {O:Own} {p:Int} (h0:0≤p) (hp:p < 9223372036854775808):RetO PP zR [iV 0,iV p] H O (iV p):=by
 refine zZ (vs:=[iV 0,iV p]) (by kernel_rfl) ⟨rfl,rfl,trivial⟩ ?_
 simp only[zP]
 refine ab _ (rJ (by omega) (by omega)) (ab _ (bK _ _) ?_)
 refine ae ?_
 refine ab _ (bK _ _) ?_
 refine ae ?_
 refine ab _ (aT _ _) ?_
 refine ae ?_
 refine ab _ (eR _ _) ?_
 refine ae ?_
 refine ab _ (aT _ _) (ai (fun hb=>by simp at hb) (fun _=>?_))
 refine ab _ (aB _ _) ?_
 refine ae ?_
 refine ab _ (aB _ _) ?_
 refine ae ?_
 refine ab _ (aT _ _) ?_
 refine ae ?_
 refine ab _ (cI _ _) ?_
 refine ae ?_
 refine ab _ (aT _ _) (ai (fun hb=>by simp at hb) (fun _=>?_))
 exact ah ⟨by rw[Int.zero_add],rfl⟩
theorem Kr {H:Heap} {O:Own} (p m:Int):RetO PP Ej [iV p,iV m] H O (iV (max 0 (min p m))):=by
 refine Gj (vs:=[iV p,iV m]) (by kernel_rfl) ⟨rfl,rfl,trivial⟩ ?_
 simp only[Eb]
 exact ab _ (gW _ _) (ab _ (kQ _ _) (ah ⟨rfl,rfl⟩))
theorem Qx {H:Heap} {O:Own} {p:Int} (h0:0≤p) (hp:p < 9223372036854775808):RetO PP Ek [iV 0,iV p,iV 99] H O (iV (N5 p)):=by
 refine BZ (vs:=[iV 0,iV p,iV 99]) (by kernel_rfl) ⟨rfl,rfl,rfl,trivial⟩ ?_
 simp only[Ec]
 exact aj (NG h0 hp) rfl ⟨rfl,trivial⟩ fun _ _=>aj (Kr p 99) rfl ⟨rfl,trivial⟩ fun _ _=>ah ⟨rfl,rfl⟩
theorem TK {H:Heap} {O:Own} {p:Int} (hp:p < 9223372036854775808):RetO PP rP [iV 0,iV p] H O (iV (N5 p)):=by
 refine tK (vs:=[iV 0,iV p]) (by kernel_rfl) ⟨rfl,rfl,trivial⟩ ?_
 simp only[rL]
 refine ab _ (kQ _ _) (ab _ (kQ _ _) ?_)
 rw[show max (0:Int) 0=0 by omega]
 refine aj (Qx (p:=max 0 p) (by omega) (by omega)) rfl ⟨rfl,trivial⟩ fun _ _=>ah ⟨?_,rfl⟩
 show iV _=iV _
 congr 1;simp only[N5];omega
def y5 (id p pw tn:Int) (sick:Bool):Ob:={ zO with id:=id,card:=-1,owner:=p,power:=N5 pw,tough:=N5 tn,sick:=sick }
theorem EN {H:Heap} {O:Own} {id p pw tn:Int} (h1:pw < 9223372036854775808) (h2:tn < 9223372036854775808):RetO PP wi [iV id,iV p,iV pw,iV tn] H O (.agg (y5 id p pw tn false).row.toArray):=by
 refine Ba (vs:=[iV id,iV p,iV pw,iV tn]) (by kernel_rfl) ⟨rfl,rfl,rfl,rfl,trivial⟩ ?_
 simp only[vR]
 refine af fun r0=>aj (TK h1) rfl ⟨rfl,trivial⟩ fun _ _=>aj (TK h2) rfl ⟨rfl,trivial⟩ fun _ _=>?_
 refine aa (aa ?_)
 exact ah ⟨rfl,rfl⟩
theorem Vx:∀ k:Nat,k < 64→(bruijn.drop (2 ^ k * 285870213051353865 % 2 ^ 64 / 2 ^ 58)).take 1=[(k:Int)]:=by decide +kernel
theorem WP (a b:Nat):ak (.bin .mul .int) [uV a,uV b]=some (uV (a * b % 2 ^ 64)):=by
 show some (Value.int .u64 (IntKind.u64.wrap ((a:Int) * b)))=_
 congr 2
theorem WF (a:Nat):ak (.bin .shr .int) [uV a,uV 58]=some (uV (a / 2 ^ 58)):=by
 show some (Value.int .u64 ((a:Int).fdiv (2 ^ 58)))=_
 congr 2
 rw[Int.fdiv_eq_ediv_of_nonneg _ (by omega)]
 omega
theorem Xs {H:Heap} (hgl:GlobOk zC H) (O:Own) {x k m:Nat} (hx:x < 2 ^ 64) (hk:k < 64) (e:x=2 ^ k * (2 * m + 1)):RetO PP eH [uV x] H O (iV k):=by
 have hp:=Nat.two_pow_pos k
 have h0:0 < x:=by rw[e];exact Nat.mul_pos hp (by omega)
 have hpk:2 ^ k < 2 ^ 64:=Nat.pow_lt_pow_right (by omega) hk
 have t2:=Vx k hk
 have t1:=WP (2 ^ k) 285870213051353865
 refine fX (vs:=[uV x]) (by kernel_rfl) ⟨rfl,trivial⟩ ?_
 simp only[eF]
 refine ab _ (VX x 0) (ai (fun hb=>?_) (fun _=>?_))
 ·have:x=0:=by simpa using hb
  omega
 ·refine ab _ (WO hx h0) (ab _ (Wg hx (by omega)) ?_)
  rw[UO hx e]
  generalize hM:2 ^ k * 285870213051353865 % 2 ^ 64=M at t1 t2
  have hM64:M < 2 ^ 64:=by rw[← hM];exact Nat.mod_lt _ (by omega)
  have hi:M / 2 ^ 58 < 64:=by omega
  refine ab _ t1 (ab _ (WF M) ?_)
  have hpi:ak (.pidx 64 1) [.pointer (some ⟨0,0,none⟩),uV (M / 2 ^ 58)]=some (.pointer (some ⟨0,M / 2 ^ 58,none⟩)):=by
   show (if (0:Int)≤((M / 2 ^ 58:Nat):Int)∧((M / 2 ^ 58:Nat):Int) < (64:Nat) then some (Value.pointer (some (Addr.add ⟨0,0,none⟩ (((M / 2 ^ 58:Nat):Int).toNat * 1)))) else none)=_
   rw[if_pos ⟨by omega,by omega⟩,Int.toNat_natCast,Nat.mul_one,Addr.add]
   by_cases h:M / 2 ^ 58=0
   ·rw[if_pos h,h]
   ·rw[if_neg h];simp
  have hrd:H.read (.pointer (some ⟨0,M / 2 ^ 58,none⟩)) 1=some [Value.int .u8 k]:=by
   have:=(hgl 0 (bruijn.map fun n=>Value.int .u8 n) rfl).2 (M / 2 ^ 58) 1 (by rw[List.length_map];show _≤64;omega)
   rw[this,← List.map_drop,← List.map_take,t2];rfl
  refine ab _ hpi (cG hrd rfl ⟨rfl,trivial⟩ (ab (iV k) ?_ (ah ⟨rfl,rfl⟩)))
  show some (Value.int .i64 (IntKind.i64.wrap (k:Int)))=_
  rw[gJ (by omega) (by omega)]
theorem WR {H:Heap} (O:Own):RetO PP eH [uV 0] H O (iV 64):=by
 refine fX (vs:=[uV 0]) (by kernel_rfl) ⟨rfl,trivial⟩ ?_
 simp only[eF]
 exact ab _ (VX 0 0) (ai (fun _=>ah ⟨rfl,rfl⟩) (fun hb=>by simp at hb))
def Ez (ws:List Nat):List (List Value):=ws.map fun w=>[uV w]
def Wi (p:Value) (ws:List Nat) (O:Own):Prop :=
 ∃ r s A,p=.pointer (some ⟨r,0,none⟩)∧O=(r,.cells #[iV 500,s] be (0,0))::A∧OSl yx 1 s (Ez ws) A
theorem yr {r:Nat} {s:Value} {A:Own} {H:Heap}:Reads H ((r,.cells #[iV 500,s] be (0,0))::A) (.pointer (some ⟨r,0,none⟩)) 1 [iV 500] :=
 .inr ⟨⟨r,0,none⟩,_,_,rfl,rfl,List.mem_cons_self,rfl,rfl⟩
theorem D5 {r:Nat} {s:Value} {A:Own} {H:Heap}:Reads H ((r,.cells #[iV 500,s] be (0,0))::A) (aO (.pointer (some ⟨r,0,none⟩)) 1) 1 [s] :=
 .inr ⟨⟨r,1,none⟩,_,_,rfl,rfl,List.mem_cons_self,rfl,rfl⟩
theorem SN {H:Heap}:Triple PP Em [iV 500] H [] fun v H' O'=>∃ p,v=.tuple #[p,iV 0]∧Wi p (List.replicate 8 0) O':=by
 refine Gk (vs:=[iV 500]) (by kernel_rfl) ⟨rfl,trivial⟩ ?_
 simp only[Ed]
 refine ab _ (aB _ _) (ae (ab _ (aB _ _) (ae (ab _ (aB _ _) ?_))))
 refine ai (fun hb=>by simp at hb) (fun _=>?_)
 refine ab (iV 564) (by kernel_rfl) ?_
 refine ab (iV 563) (by kernel_rfl) ?_
 refine ab (iV (8:Nat)) (by kernel_rfl) ?_
 refine RV (n:=8) (elem:=yx) (z:=uV 0) (by kernel_rfl) (by kernel_rfl) (by kernel_rfl) (by kernel_rfl) rfl (by omega) fun s A hs=>?_
 refine af fun r0=>?_
 exact fun _=>⟨H,_,Ghost.refl _ _,_,rfl,r0,s,A,rfl,by simp[BV.obj,g],hs⟩
theorem TJ {H:Heap} {r:Nat} {s:Value} {A:Own} (hs:s.oneCell'=true):RetO PP sf [.pointer (some ⟨r,0,none⟩)] H ((r,.cells #[iV 500,s] be (0,0))::A) (.bool false):=by
 refine xw (vs:=[.pointer (some ⟨r,0,none⟩)]) (by kernel_rfl) ⟨rfl,trivial⟩ ?_
 simp only[rX]
 refine ab (.bool false) rfl ?_
 refine aw rfl (ae (aw rfl (ae (ae ?_))))
 refine⟨[iV 500],rfl,⟨rfl,trivial⟩,fun _=>yr,?_⟩
 refine ae (ab _ (ay _ _) (ae (ab _ (ay _ _) ?_)))
 exact ah ⟨rfl,rfl⟩
theorem F7 {x y:Int} (h1:-9223372036854775808≤x - y) (h2:x - y < 9223372036854775808):ak (.bin .sub .int) [iV x,iV y]=some (iV (x - y)):=by
 simp only[ak,fL,fg,if_true]
 rw[gJ (by omega) (by omega)]
abbrev idV (q r:Nat):Value:=iV (((64 * q + r:Nat):Int) + 1)
theorem TD {q r:Nat} (hq:q < 8) (hr:r < 64):ak (.bin .sub .int) [idV q r,iV 1]=some (iV ((64 * q + r:Nat):Int)):=by
 rw[F7 (by omega) (by omega)]
 congr 2;omega
theorem VU {q r:Nat} (hq:q < 8) (hr:r < 64):ak (.bin .quo .int) [iV ((64 * q + r:Nat):Int),iV 64]=some (iV (q:Int)):=by
 show some (Value.int .i64 (IntKind.i64.wrap (((64 * q + r) / 64:Nat):Int)))=_
 rw[gJ (by omega) (by omega),show (64 * q + r) / 64=q by omega]
theorem VT {q r:Nat} (hr:r < 64):ak (.bin .rem .int) [iV ((64 * q + r:Nat):Int),iV 64]=some (iV (r:Int)):=by
 show some (Value.int .i64 (((64 * q + r) % 64:Nat):Int))=_
 rw[show (64 * q + r) % 64=r by omega]
theorem xe {ws:List Nat} {q:Nat} (h:q < ws.length):(Ez ws)[q]?=some [uV ws[q]]:=by simp[Ez,h]
theorem NV (ws:List Nat) (q w:Nat):(Ez ws).set q [uV w]=Ez (ws.set q w):=by simp[Ez,List.map_set]
theorem WT {H:Heap} {r0:Nat} {s:Value} {A:Own} {ws:List Nat} (hs:OSl yx 1 s (Ez ws) A) (hl:ws.length=8) {q r:Nat} (hq:q < 8) (hr:r < 64) {a:Addr} (ha:ak (.idx 1) [s,iV (q:Int)]=some (.pointer (some a))) :
  RetO PP uP [.pointer (some ⟨r0,0,none⟩),idV q r] H ((r0,.cells #[iV 500,s] be (0,0))::A) (.tuple #[.pointer (some a),uV (2 ^ r)]):=by
 refine zd (vs:=[.pointer (some ⟨r0,0,none⟩),idV q r]) (by kernel_rfl) ⟨rfl,rfl,trivial⟩ ?_
 simp only[uB]
 refine aw rfl (aw rfl ?_)
 refine⟨[s],rfl,⟨hs.one,trivial⟩,fun _=>D5,?_⟩
 refine ab _ (TD hq hr) ?_
 refine ab _ (VU hq hr) ?_
 refine ab _ ha ?_
 refine ab _ (TD hq hr) ?_
 refine ab _ (VT hr) ?_
 refine ab _ (WG hr) ?_
 exact ah ⟨rfl,rfl⟩
theorem Vb {H:Heap} {r0:Nat} {s:Value} {A:Own} {ws:List Nat} (hs:OSl yx 1 s (Ez ws) A) (hl:ws.length=8) {q r:Nat} (hq:q < 8) (hr:r < 64) (h5:64 * q + r < 500) {a:Addr} (ha:ak (.idx 1) [s,iV (q:Int)]=some (.pointer (some a))) :
  RetO PP qN [.pointer (some ⟨r0,0,none⟩),idV q r] H ((r0,.cells #[iV 500,s] be (0,0))::A) (.tuple #[.pointer (some a),uV (2 ^ r),iV 0]):=by
 refine wu (vs:=[.pointer (some ⟨r0,0,none⟩),idV q r]) (by kernel_rfl) ⟨rfl,rfl,trivial⟩ ?_
 simp only[qI]
 refine aj (TJ hs.one) rfl ⟨rfl,trivial⟩ fun H1 l1=>?_
 refine ai (fun hb=>by cases hb) (fun _=>?_)
 refine ab _ (aB _ _) ?_
 refine aw rfl (ae (aw rfl (ae (ae ?_))))
 refine⟨[iV 500],rfl,⟨rfl,trivial⟩,fun _=>yr,?_⟩
 refine ae (ae ?_)
 refine ab _ (bK _ _) ?_
 refine ae ?_
 refine ab _ (aR _ _) ?_
 refine ai (fun hb=>?_) (fun _=>?_)
 ·simp at hb;omega
 ·refine aj (WT hs hl hq hr ha) rfl ⟨rfl,rfl,trivial⟩ fun H2 l2=>?_
  exact ah ⟨rfl,rfl⟩
theorem Ux {w r:Nat} (h:w.testBit r=true):w ||| 2 ^ r=w:=by
 refine Nat.eq_of_testBit_eq fun j=>?_
 rw[Nat.testBit_or,Nat.testBit_two_pow]
 by_cases e:r=j
 ·subst e;rw[h];rfl
 ·rw[decide_eq_false e,Bool.or_false]
theorem Vl {w r:Nat}:(w &&& 2 ^ r != 0)=w.testBit r:=by
 have e:w &&& 2 ^ r=if w.testBit r then 2 ^ r else 0:=by
  refine Nat.eq_of_testBit_eq fun j=>?_
  rw[Nat.testBit_and,Nat.testBit_two_pow]
  by_cases e:r=j
  ·subst e;cases w.testBit r <;> simp
  ·rw[decide_eq_false e,Bool.and_false];split
   ·rw[Nat.testBit_two_pow,decide_eq_false e]
   ·simp
 rw[e]
 have:=Nat.two_pow_pos r
 cases w.testBit r <;> simp
def DX (ws:List Nat) (q r:Nat):List Nat:=ws.set q (ws.getD q 0 ||| 2 ^ r)
theorem Vh {H:Heap} {p:Value} {O:Own} {ws:List Nat} (h:Wi p ws O) (hl:ws.length=8) (hw:∀ w ∈ ws,w < 2 ^ 64) {q r:Nat} (hr:r < 64) (h5:64 * q + r < 500) :
  Triple PP qO [p,idV q r] H O fun v H' O'=>(∃ e,v=iV e)∧Wi p (DX ws q r) O':=by
 obtain⟨r0,s,A,rfl,rfl,hs⟩:=h
 have hq:q < 8:=by omega
 have hql:q < ws.length:=by omega
 have hwq:=hw _ (List.getElem_mem hql)
 have hgd:ws.getD q 0=ws[q]:=by rw[List.getD_eq_getElem?_getD,List.getElem?_eq_getElem hql];rfl
 obtain⟨a,ha,hst⟩:=hs.store (O:=(r0,.cells #[iV 500,s] be (0,0))::A) (O2:=[(r0,.cells #[iV 500,s] be (0,0))]) (by simpa using List.perm_append_comm (l₁:=[(r0,Obj.cells #[iV 500,s] be (0,0))]) (l₂:=A)) (k:=.i64) (xe hql)
 obtain⟨a',ha',_,hrd,_⟩:=hs.idx (O:=(r0,.cells #[iV 500,s] be (0,0))::A) (fun p hp=>List.mem_cons_of_mem _ hp) H (k:=.i64) (xe hql)
 obtain rfl:a'=a:=by rw[ha] at ha';simpa using ha'.symm
 have hrd:∀ H',Reads H' ((r0,.cells #[iV 500,s] be (0,0))::A) (.pointer (some a')) 1 [uV ws[q]]:=fun H'=>by
  obtain⟨a2,h2,_,h3,_⟩:=hs.idx (O:=(r0,.cells #[iV 500,s] be (0,0))::A) (fun p hp=>List.mem_cons_of_mem _ hp) H' (k:=.i64) (xe hql)
  obtain rfl:a2=a':=by rw[h2] at ha;simpa using ha
  exact h3
 refine wv (vs:=[.pointer (some ⟨r0,0,none⟩),idV q r]) (by kernel_rfl) ⟨rfl,rfl,trivial⟩ ?_
 simp only[qJ]
 refine aj (Vb hs hl hq hr h5 ha) rfl ⟨rfl,rfl,rfl,trivial⟩ fun H1 l1=>?_
 refine ab _ (aY _ _) ?_
 refine ai (fun hb=>by cases hb) (fun _=>?_)
 refine aw rfl ?_
 refine⟨[uV ws[q]],rfl,⟨rfl,trivial⟩,fun _=>hrd H1,?_⟩
 have hp2:2 ^ r < 2 ^ 64:=Nat.pow_lt_pow_right (by omega) hr
 refine ab _ (Wg hwq hp2) ?_
 refine ab _ (UG _ 0) ?_
 refine ai (fun hb=>?_) (fun _=>?_)
 ·rw[Vl] at hb
  refine ah ⟨⟨11,rfl⟩,r0,s,A,rfl,rfl,?_⟩
  rw[DX,hgd,Ux hb,List.set_getElem_self]
  exact hs
 ·refine aw rfl ?_
  refine⟨[uV ws[q]],rfl,⟨rfl,trivial⟩,fun _=>hrd H1,?_⟩
  refine ab _ (W9 hwq hp2) ?_
  refine aw rfl (aw rfl ?_)
  obtain⟨O1,hs1,hs2⟩:=hst 0 [uV (ws[q] ||| 2 ^ r)] (Nat.le_refl _) ⟨rfl,trivial⟩
  refine⟨_,hs1,?_⟩
  refine fun _=>⟨_,_,Ghost.perm (List.perm_append_comm (l₁:=O1) (l₂:=[(r0,Obj.cells #[iV 500,s] be (0,0))])),⟨0,rfl⟩,r0,s,O1,rfl,rfl,?_⟩
  rw[DX,hgd,← NV]
  exact hs2
theorem Qq {ws:List Nat} {q r:Nat} (hr:r < 64) (hw:∀ w ∈ ws,w < 2 ^ 64):∀ w ∈ DX ws q r,w < 2 ^ 64:=by
 intro w h
 rcases List.mem_or_eq_of_mem_set h with h | rfl
 ·exact hw w h
 ·refine Nat.or_lt_two_pow ?_ (Nat.pow_lt_pow_right (by omega) hr)
  rw[List.getD_eq_getElem?_getD]
  cases e:ws[q]? with
  | none=>simp
  | some x=>exact hw x (List.mem_of_getElem? e)
end Go.Proofs.YtdhobpmnkfmcfaaGreatDoor
