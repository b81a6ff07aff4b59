/- Legal targets; light cards; lists that are equal. -/
import Derived.Test.YtdhobpmnkfmcfaaGreatDoorC48
import Derived.Test.YtdhobpmnkfmcfaaGreatDoorKT
import Derived.Test.YtdhobpmnkfmcfaaGreatDoorC32
import Derived.Test.YtdhobpmnkfmcfaaGreatDoorM17
import Derived.Test.YtdhobpmnkfmcfaaGreatDoorRW
import Derived.Test.YtdhobpmnkfmcfaaGreatDoorC1
import Derived.Test.YtdhobpmnkfmcfaaGreatDoorC21
import Derived.Test.YtdhobpmnkfmcfaaGreatDoorKN
namespace Go.Proofs.YtdhobpmnkfmcfaaGreatDoor
open Go Go.Sx
set_option maxRecDepth 100000
set_option maxHeartbeats 1000000
theorem U8 (o p:Tg):L8 PP (.eqv .eql az false) [.agg o.row.toArray,.agg p.row.toArray]=some (.bool (o == p)):=by
 have e:L8 PP (.eqv .eql az false) [.agg o.row.toArray,.agg p.row.toArray]=(GU [o.id == p.id,o.player == p.player]).map fun b=>.bool b:=by kernel_rfl
 rw [e,qe]
 simp only [Option.map_some,Option.some.injEq,Value.bool.injEq]
 cases o;cases p
 rw [Bool.eq_iff_iff]
 simp
theorem Hz {l:List Tg} {i:Nat} (h:i < l.length):(cF l)[i]?=some l[i].row:=by simp [cF,h]
theorem s8 (t:Tg):Ones t.row:=⟨rfl,rfl,trivial⟩
theorem RY {H:Heap} {O:Own} {v:Value} {l:List Tg} (h:Sl H 2 v (cF l)) (t:Tg):RetO PP dK [v,.agg t.row.toArray] H O (iV (jH (fun y=>t == y) l 0)):=by
 refine ij (vs:=v::t.row) (by kernel_rfl) ⟨h.one,s8 t⟩ ?_
 simp only [ck]
 have hlen:ak .len [v]=some (iV l.length):=by have:=h.len;rwa [bI] at this
 have hlB:=h.lenB
 rw [bI] at hlB
 refine af fun r0=>?_
 refine aa _ hlen ?_
 refine aX l.length (fun i H' O'=>O'=O∧Heap.le H H'∧jH (fun y=>t == y) l 0=jH (fun y=>t == y) (l.drop i) i) ⟨rfl,Heap.le_refl H,by simp⟩ ?_
 rintro i H' O' hi - ⟨rfl,hle,hor⟩
 refine aa _ (aI _ _) (aj (fun hb=>?_) (fun hb=>?_))
 ·have hlt:i < l.length:=by simpa using hb
  obtain ⟨a,h1,h2,h3,h4⟩:=(h.le hle).idx (k:=.i64) (Hz hlt)
  refine ab ?_
  refine aa _ h1 (cY h2 h3 h4 ?_)
  refine qH (U8 t l[i]) (aj (fun hc=>?_) (fun hc=>?_))
  ·refine ah ⟨?_,rfl⟩
   rw [hor,List.drop_eq_getElem_cons hlt,jH,if_pos hc];rfl
  ·refine aa _ (aA (by omega)) (aR (by simp [Eqs,E]) hlt ⟨rfl,hle,?_⟩)
   rw [hor,List.drop_eq_getElem_cons hlt,jH,if_neg (by rw [hc];simp)];rfl
 ·have hge:l.length≤i:=by simpa using hb
  refine ah ⟨?_,rfl⟩
  rw [hor,List.drop_of_length_le hge];rfl
theorem J1 {H:Heap} {O:Own} {v:Value} {l:List Tg} (h:Sl H 2 v (cF l)) (t:Tg):RetO PP di [v,.agg t.row.toArray] H O (.bool (l.any fun y=>t == y)):=by
 refine fQ (vs:=v::t.row) (by kernel_rfl) ⟨h.one,s8 t⟩ ?_
 simp only [bS]
 refine af fun r0=>?_
 refine ab ?_
 refine ai (RY h t) rfl ⟨rfl,trivial⟩ fun H1 _=>?_
 refine aa _ (dt _ _) (ah ⟨?_,rfl⟩)
 rw [← Dy _ l 0 (by omega)]
def vA (cs:List Cd) (b:Bd) (p k:Int) (t:Tg):Bool:=(zA cs b p k).any fun y=>t == y
theorem US {H:Heap} {cv:Value} {cs:List Cd} (hk:CardsS H cv cs) (hli:eQ cs=true) {v:dG} {b:Bd} (h:BdS H v b) (hst:b.stack.length≤1000000) (p k:Int) (t:Tg) :
  RetO PP vL [cv,.agg (ao v b).toArray,iV p,iV k,.agg t.row.toArray] H [] (.bool (vA cs b p k t)):=by
 refine AC (vs:=cv::(ao v b++(iV p::iV k::t.row))) (by kernel_rfl) ⟨hk.one,aE (ap (h.r [])) ⟨rfl,rfl,s8 t⟩⟩ ?_
 simp only [oV]
 refine af fun r0=>af fun r1=>?_
 refine ab (ab ?_)
 refine ax (UQ hk hli h hst p k) ?_
 rintro x H1 _ ⟨hx,rfl⟩ l1
 refine ⟨[x],rfl,⟨hx.one,trivial⟩,?_⟩
 refine ai (J1 hx t) rfl ⟨rfl,trivial⟩ fun H2 _=>?_
 exact ah ⟨rfl,rfl⟩
theorem TQ {H:Heap} {cv:Value} {cs:List Cd} (hk:CardsS H cv cs) (hli:eQ cs=true) {v:dG} {b:Bd} (h:BdS H v b) (hB:bdB b) (hfit:Kq b) (hst:b.stack.length≤1000000) (p k:Int) (t:Tg) :
  RetO PP ml [cv,.agg (ao v b).toArray,iV p,iV k,.agg t.row.toArray] H [] (.bool (vA cs b p k t)):=by
 refine so (vs:=cv::(ao v b++(iV p::iV k::t.row))) (by kernel_rfl) ⟨hk.one,aE (ap (h.r [])) ⟨rfl,rfl,s8 t⟩⟩ ?_
 simp only [iG]
 refine af fun r0=>af fun r1=>?_
 refine ab ?_
 refine ax (TM hk hli h hB hfit hst p k) ?_
 rintro x H1 _ ⟨hx,rfl⟩ l1
 refine ⟨[x],rfl,⟨hx.one,trivial⟩,?_⟩
 rw [vA]
 generalize zA cs b p k=l at hx
 have hlen:ak .len [x]=some (iV l.length):=by have:=hx.len;rwa [bI] at this
 have hlB:=hx.lenB
 rw [bI] at hlB
 refine aX l.length (fun i H' O'=>O'=[]∧Heap.le H1 H'∧(l.any fun y=>t == y)=((l.drop i).any fun y=>t == y)) ⟨rfl,Heap.le_refl _,by simp⟩ ?_
 rintro i H' O' hi - ⟨rfl,hle,hor⟩
 refine aa _ hlen ?_
 refine aa _ (aI _ _) (aj (fun hb=>?_) (fun hb=>?_))
 ·have hlt:i < l.length:=by simpa using hb
  obtain ⟨a,h1,h2,h3,h4⟩:=(hx.le hle).idx (k:=.i64) (Hz hlt)
  refine aa _ h1 (cY h2 h3 h4 ?_)
  refine ab ?_
  have hcm:(t == l[i])=(l[i] == t):=Bool.eq_iff_iff.2 (by rw [beq_iff_eq,beq_iff_eq];exact eq_comm)
  refine qH (U8 l[i] t) (aj (fun hc=>?_) (fun hc=>?_))
  ·refine ah ⟨?_,rfl⟩
   rw [hor,List.drop_eq_getElem_cons hlt,List.any_cons,hcm,hc];rfl
  ·refine aa _ (aA (by omega)) (aR (by simp [Eqs,E]) hlt ⟨rfl,hle,?_⟩)
   rw [hor,List.drop_eq_getElem_cons hlt,List.any_cons,hcm,hc];rfl
 ·have hge:l.length≤i:=by simpa using hb
  refine ah ⟨?_,rfl⟩
  rw [hor,List.drop_of_length_le hge];rfl
end Go.Proofs.YtdhobpmnkfmcfaaGreatDoor
namespace Go.Proofs.YtdhobpmnkfmcfaaGreatDoor
open Go Go.Sx
set_option maxRecDepth 100000
set_option maxHeartbeats 1000000
theorem RL {H:Heap} (O:Own) {v:Value} {cs:List Cd} (h:CardsS H v cs) {i:Nat} (hi:i < cs.length) :
  ∃ a r,ak (.idx 14) [v,iV i]=some (.pointer (some a))∧CdR H r cs[i]∧Reads H O (be (.pointer (some a)) 11) 1 [g r 11]∧Reads H O (be (.pointer (some a)) 12) 1 [g r 12]:=by
 obtain ⟨rows,h1,h2,h3⟩:=h
 have hlt:i < rows.length:=by omega
 obtain ⟨a,k1,k2,k3,k4,k5⟩:=(h1.rsl O).idx .i64 i rows[i] (by simp [hlt])
 refine ⟨a,rows[i],k1,h3 i _ _ (List.getElem?_eq_getElem hlt) (List.getElem?_eq_getElem hi),?_,?_⟩
 ·have e:((rows[i]).drop 11).take 1=[g rows[i] 11]:=by
   rw [g,List.getD_eq_getElem?_getD,List.getElem?_eq_getElem (by omega),List.drop_eq_getElem_cons (by omega)];rfl
  rw [← e];exact k3 11 1 (by omega)
 ·have e:((rows[i]).drop 12).take 1=[g rows[i] 12]:=by
   rw [g,List.getD_eq_getElem?_getD,List.getElem?_eq_getElem (by omega),List.drop_eq_getElem_cons (by omega)];rfl
  rw [← e];exact k3 12 1 (by omega)
theorem QL {H:Heap} (O:Own) {v:Value} {tr:List Nat} (h:TrigsS H v tr) {i:Nat} (hi:i < tr.length) :
  ∃ a r,ak (.idx 2) [v,iV i]=some (.pointer (some a))∧TrigR H r tr[i]∧Reads H O (be (.pointer (some a)) 1) 1 [g r 1]:=by
 obtain ⟨rows,h1,h2,h3⟩:=h
 have hlt:i < rows.length:=by omega
 obtain ⟨a,k1,k2,k3,k4,k5⟩:=(h1.rsl O).idx .i64 i rows[i] (by simp [hlt])
 refine ⟨a,rows[i],k1,h3 i _ _ (List.getElem?_eq_getElem hlt) (List.getElem?_eq_getElem hi),?_⟩
 have e:((rows[i]).drop 1).take 1=[g rows[i] 1]:=by
  rw [g,List.getD_eq_getElem?_getD,List.getElem?_eq_getElem (by omega),List.drop_eq_getElem_cons (by omega)];rfl
 rw [← e];exact k3 1 1 (by omega)
theorem UN {H:Heap} {v:Value} {cs:List Cd} (h:CardsS H v cs):RetO PP mC [v] H [] (.bool (eQ cs)):=by
 refine sH (vs:=[v]) (by kernel_rfl) ⟨h.one,trivial⟩ ?_
 simp only [iR]
 have hB:cs.length < 2 ^ 63:=by
  obtain ⟨rows,h1,h2,_⟩:=h
  have:=h1.lenB;omega
 refine aX cs.length (fun i H' O'=>O'=[]∧Heap.le H H'∧i≤13∧((cs.take i).all iD)=true) ⟨rfl,Heap.le_refl H,by omega,rfl⟩ ?_
 rintro i H' O' hi - ⟨rfl,hle,hi13,hor⟩
 replace h:=h.le hle
 refine aa _ h.len ?_
 refine aa _ (aI _ _) ?_
 refine ae ?_
 refine aa _ (aI _ _) ?_
 refine ae ?_
 refine aa _ (aU _ _) (aj (fun hb=>?_) (fun hb=>?_))
 ·have hb:(decide ((i:Int) < (cs.length:Int)) && decide ((i:Int) < 13))=true:=hb
  rw [Bool.and_eq_true,decide_eq_true_eq,decide_eq_true_eq] at hb
  have hlt:i < cs.length:=by omega
  have hl13:i < 13:=by omega
  obtain ⟨a,r,k1,k2,k3,k4⟩:=RL [] h hlt
  have hst:eQ cs=false∨iD cs[i]=true:=by
   cases hc:iD cs[i]
   ·refine .inl ?_
    rw [eQ,Bool.and_eq_false_iff]
    refine .inl ?_
    rw [List.all_eq_false]
    exact ⟨cs[i],List.mem_take_iff_getElem.2 ⟨i,by omega,rfl⟩,by rw [hc];simp⟩
   ·exact .inr rfl
  have hbad:∀ {x:Bool},iD cs[i]=false→x=false→(x=eQ cs):=fun h1 h2=>by
   rcases hst with e | e
   ·rw [h2,e]
   ·rw [h1] at e;cases e
  refine aa _ k1 ?_
  refine aK rfl ?_
  refine aw k3 rfl ⟨k2.eff.one,trivial⟩ ?_
  refine aa _ k2.eff.len ?_
  refine aa _ (bN _ _) ?_
  refine ae (ae ?_)
  refine ⟨.pointer (some a),fun _=>k1,.inr rfl,?_⟩
  refine aK rfl (ae (ae ?_))
  refine ⟨[g r 12],rfl,⟨k2.trig.one,trivial⟩,fun _=>k4,?_⟩
  refine ae ?_
  refine aa _ k2.trig.len ?_
  refine ae ?_
  refine aa _ (bN _ _) ?_
  refine ae ?_
  refine aa _ (aP _ _) (aj (fun hc=>?_) (fun hc=>?_))
  ·have hc:(decide ((cs[i].tg.length:Int) > 5) || decide ((cs[i].tr.length:Int) > 3))=true:=hc
   refine ah ⟨?_,rfl⟩
   congr 1
   exact hbad (by rw [iD,hc];rfl) rfl
  ·have hc:(decide ((cs[i].tg.length:Int) > 5) || decide ((cs[i].tr.length:Int) > 3))=false:=hc
   have hc3:cs[i].tr.length≤3:=by
    rw [Bool.or_eq_false_iff,decide_eq_false_iff_not,decide_eq_false_iff_not] at hc;omega
   refine aX cs[i].tr.length (fun j H2 O2=>O2=[]∧Heap.le H' H2∧(cs[i].tr.all fun n=>!decide ((n:Int) > 5))=((cs[i].tr.drop j).all fun n=>!decide ((n:Int) > 5))) ⟨rfl,Heap.le_refl _,rfl⟩ ?_
   rintro j H2 O2 hj - ⟨rfl,hle2,hor2⟩
   refine aa _ k1 ?_
   refine aK rfl ?_
   refine aw (BB k4 hle2) rfl ⟨k2.trig.one,trivial⟩ ?_
   refine aa _ k2.trig.len ?_
   refine aa _ (aI _ _) (aj (fun hd=>?_) (fun hd=>?_))
   ·have hjlt:j < cs[i].tr.length:=by simpa using hd
    obtain ⟨a2,r2,m1,m2,m3⟩:=QL [] (k2.trig.le hle2) hjlt
    obtain ⟨er,m4,m5⟩:=m2
    have el:ak .len [g r2 1]=some (iV cs[i].tr[j]):=by have:=m4.len;rwa [m5] at this
    refine aa _ k1 ?_
    refine aK rfl ?_
    refine aw (BB k4 hle2) rfl ⟨k2.trig.one,trivial⟩ ?_
    refine aa _ m1 ?_
    refine aK rfl ?_
    refine aw m3 rfl ⟨m4.one,trivial⟩ ?_
    refine aa _ el ?_
    refine aa _ (bN _ _) (aj (fun he=>?_) (fun he=>?_))
    ·have he:decide ((cs[i].tr[j]:Int) > 5)=true:=he
     refine ah ⟨?_,rfl⟩
     congr 1
     exact hbad (by rw [iD,hor2,List.drop_eq_getElem_cons hjlt,List.all_cons,he];simp) rfl
    ·have he:decide ((cs[i].tr[j]:Int) > 5)=false:=he
     refine aa _ (aA (by omega)) (aR (by simp [Eqs,E]) hjlt ⟨rfl,hle2,?_⟩)
     rw [hor2,List.drop_eq_getElem_cons hjlt,List.all_cons,he];rfl
   ·have hjge:cs[i].tr.length≤j:=by simpa using hd
    rw [List.drop_of_length_le hjge] at hor2
    refine aa _ (aA (by omega)) (aR (by simp [Eqs,E]) hlt ⟨rfl,Heap.le_trans hle hle2,by omega,?_⟩)
    rw [List.take_add_one,List.getElem?_eq_getElem hlt,List.all_append,hor]
    simp only [Option.toList_some,List.all_cons,List.all_nil,Bool.and_true,Bool.true_and]
    rw [iD,hc,hor2];rfl
 ·have hb:(decide ((i:Int) < (cs.length:Int)) && decide ((i:Int) < 13))=false:=hb
  rw [Bool.and_eq_false_iff,decide_eq_false_iff_not,decide_eq_false_iff_not] at hb
  refine aa _ h.len ?_
  refine aa _ (eY _ _) (ah ⟨?_,rfl⟩)
  congr 1
  rw [eQ]
  rcases hb with hb | hb
  ·have e1:cs.take i=cs:=List.take_of_length_le (by omega)
   have e2:cs.take 13=cs:=List.take_of_length_le (by omega)
   rw [e1] at hor
   rw [e2,hor,Bool.true_and]
  ·obtain rfl:i=13:=by omega
   rw [hor,Bool.true_and]
end Go.Proofs.YtdhobpmnkfmcfaaGreatDoor
namespace Go.Proofs.YtdhobpmnkfmcfaaGreatDoor
open Go Go.Sx
set_option maxRecDepth 100000
set_option maxHeartbeats 1000000
theorem UR {H:Heap} {v:Value} {tg:List Int} (h:EffsS H v tg) (hb:tg.length≤1000000):Triple PP vK [v] H [] fun r _ O'=>OSl dP 1 r (aG (dC tg)) O':=by
 refine AB (vs:=[v]) (by kernel_rfl) ⟨h.one,trivial⟩ ?_
 simp only [oU]
 refine aa _ h.len ?_
 refine dn tg.length (fun i x H' O'=>Heap.le H H'∧OSl dP 1 x (aG (dC (tg.take i))) O') ⟨Heap.le_refl _,OSl.nil _ _⟩ ?_
 rintro i x H' O' hi - ⟨hle,hx⟩
 refine aa _ (aI _ _) (aj (fun hb=>?_) (fun hb=>?_))
 ·have hlt:i < tg.length:=by simpa using hb
  obtain ⟨a,r,k1,k2,k3,k4,k5,_⟩:=JS (O:=O') (h.le hle) hlt
  have hft:=fg (p:=fun t:Int=>t != 0) hlt
  refine aa _ k1 (aw (gQ k2) k3 k4 (af fun r0=>?_))
  refine ab (ab ?_)
  rw [k5]
  refine aa _ (ba _ _) ?_
  refine aj (fun hc=>?_) (fun hc=>?_)
  ·have hc:(tg[i] != 0)=true:=hc
   have hlen:(dC (tg.take i)).length≤1000000:=by rw [dC];exact Nat.le_trans (List.length_filter_le _ _) (by rw [List.length_take];omega)
   refine ab ?_
   refine af fun r2=>?_
   refine aD (rows:=aG (dC (tg.take i))) (news:=[[iV tg[i]]]) (O1:=O') (O2:=[]) (e:=dP) (size:=1) (bytes:=8) (by kernel_rfl) (by simp) hx (fun Hf _ hf=>Sl.block1 (hf _ List.mem_cons_self) rfl ⟨rfl,trivial⟩) (by rw [aG,List.length_map,List.length_singleton];omega) (by rw [aG,List.length_map,List.length_singleton];omega) ?_
   intro v' A' H6 l6 hA'
   refine aa _ (aA (by omega)) (aT (by simp [Eqs]) hlt ⟨Heap.le_trans hle l6,?_⟩)
   rw [List.append_nil,dC,hft,if_pos hc,aG,List.map_append];exact hA'
  ·have hc:(tg[i] != 0)=false:=hc
   refine aa _ (aA (by omega)) (aT (by simp [Eqs]) hlt ⟨hle,?_⟩)
   rw [dC,hft,if_neg (by rw [hc];simp),List.append_nil];exact hx
 ·have hge:tg.length≤i:=by simpa using hb
  rw [List.take_of_length_le hge] at hx
  exact ah hx
end Go.Proofs.YtdhobpmnkfmcfaaGreatDoor
namespace Go.Proofs.YtdhobpmnkfmcfaaGreatDoor
open Go Go.Sx
set_option maxRecDepth 100000
set_option maxHeartbeats 1000000
theorem Sr {cs:List Cd} {b:Bd} {p x:Int}:x ∈ yc cs b p ↔ x ∈ s5 cs b p∨x ∈ s5 cs b (1 - p):=by
 rw [yc,(uR _).mem_iff,List.mem_append]
end Go.Proofs.YtdhobpmnkfmcfaaGreatDoor
namespace Go.Proofs.YtdhobpmnkfmcfaaGreatDoor
open Go Go.Sx
set_option maxRecDepth 100000
set_option maxHeartbeats 1000000
theorem HW:∀ {l:List (Int × Int)} {a p:Int},(l.map (·.1)).Nodup→(a,p) ∈ l→l.Perm ((a,p)::l.filter fun q=>q.1 != a)
 | [],_,_,_,h=>by simp at h
 | q::l,a,p,hn,h=>by
  rw [List.map_cons,List.nodup_cons] at hn
  rcases List.mem_cons.1 h with rfl | h
  ·have e:l.filter (fun q=>q.1 != a)=l:=by
    rw [List.filter_eq_self]
    intro x hx
    simp only [bne_iff_ne,ne_eq]
    rintro rfl
    exact hn.1 (List.mem_map.2 ⟨x,hx,rfl⟩)
   rw [List.filter_cons,if_neg (by simp),e]
  ·have hne:q.1 ≠ a:=fun e=>hn.1 (List.mem_map.2 ⟨(a,p),h,e.symm⟩)
   rw [List.filter_cons,if_pos (by simpa using hne)]
   exact ((HW hn.2 h).cons q).trans (List.Perm.swap _ _ _)
theorem HZ (s:St) (id p:Int):cB (T0 s id) p=(cB s p).filter fun q=>q.1 != id:=by
 simp only [cB,T0,cQ,List.filter_map,List.filter_append,List.map_append,Function.comp_def]
theorem IU (l:List It) (id:Int):cA (l.filter fun x=>!mc id x)=(cA l).filter fun x=>x.id != id:=by
 rw [cA,cA,List.filter_filter,List.filter_filter]
 refine List.filter_congr fun x _=>?_
 simp only [mc]
 cases decide (x.trig < 0)
 ·simp
 ·simp [bne]
theorem OG (l:List It) (id:Int):eN (l.filter fun x=>!mc id x)=(eN l).filter fun q=>q.1 != id:=by
 rw [eN,eN,IU,List.filter_map];rfl
theorem Nu (l:List It) (id:Int):bp (l.filter fun x=>!mc id x)=(bp l).filter fun q=>q.1 != id:=by
 rw [bp,bp,IU,List.filter_map];rfl
theorem MG (b:Bd) (id:Int):aL (oG b id)=(aL b).filter fun q=>q.1 != id:=by
 have e0:(oG b id).s0=T0 b.s0 id:=rfl
 have e1:(oG b id).s1=T0 b.s1 id:=rfl
 have e2:(oG b id).stack=b.stack.filter fun x=>!mc id x:=rfl
 rw [aL,aL,e0,e1,e2,HZ,HZ,OG,List.filter_append,List.filter_append]
theorem HY (s:St) {z:Int} (hz:z=0∨z=1∨z=2∨z=3) (id p:Int):(cB (Jw s z id) p).Perm ((id,p)::cB s p):=by
 have key:∀ {a b c d:List Int},(a++([id]++(b++(c++d)))).Perm (id::(a++(b++(c++d)))):=fun {a b c d}=>List.perm_middle
 rcases hz with rfl | rfl | rfl | rfl
 ·have e:(Jw s 0 id)={ s with lib:=s.lib++[id] }:=rfl
  rw [e,cB,cB,← List.map_cons (f:=fun i=>(i,p))]
  refine List.Perm.map _ ?_
  show (s.lib++[id]++(s.hand++(s.field++s.grave))).Perm _
  rw [List.append_assoc];exact List.perm_middle
 ·have e:(Jw s 1 id)={ s with hand:=s.hand++[id] }:=rfl
  rw [e,cB,cB,← List.map_cons (f:=fun i=>(i,p))]
  refine List.Perm.map _ ?_
  show (s.lib++(s.hand++[id]++(s.field++s.grave))).Perm _
  rw [List.append_assoc,← List.append_assoc s.lib]
  refine List.perm_middle.trans ?_
  rw [List.append_assoc]
  exact List.Perm.refl _
 ·have e:(Jw s 2 id)={ s with field:=s.field++[id] }:=rfl
  rw [e,cB,cB,← List.map_cons (f:=fun i=>(i,p))]
  refine List.Perm.map _ ?_
  show (s.lib++(s.hand++(s.field++[id]++s.grave))).Perm _
  rw [List.append_assoc,← List.append_assoc s.hand,← List.append_assoc s.lib]
  refine List.perm_middle.trans ?_
  rw [List.append_assoc,List.append_assoc]
  exact List.Perm.refl _
 ·have e:(Jw s 3 id)={ s with grave:=s.grave++[id] }:=rfl
  rw [e,cB,cB,← List.map_cons (f:=fun i=>(i,p))]
  refine List.Perm.map _ ?_
  show (s.lib++(s.hand++(s.field++(s.grave++[id])))).Perm _
  rw [← List.append_assoc,← List.append_assoc,← List.append_assoc]
  refine List.perm_append_comm.trans ?_
  show (id::_).Perm _
  rw [List.append_assoc,List.append_assoc]
  exact List.Perm.refl _
theorem E7 (b:Bd) {p:Int} (hp:p=0∨p=1) {z:Int} (hz:z=0∨z=1∨z=2∨z=3) (id:Int):(aL (oD b p z id)).Perm ((id,p)::aL b):=by
 rcases hp with rfl | rfl
 ·exact (HY b.s0 hz id 0).append_right _
 ·refine List.Perm.trans ((((HY b.s1 hz id 1).append_right _).append_left _)) ?_
  exact List.perm_middle
theorem JF {l:List (Int × Int)} {id x v:Int} (h:cz (l.filter fun q=>q.1 != id) x=some v):cz l x=some v:=by
 induction l with
 | nil=>exact h
 | cons q l ih =>
  by_cases hq:q.1=id
  ·rw [List.filter_cons,if_neg (by simp [hq])] at h
   have h2:=ih h
   have hx:x ≠ id:=by
    rintro rfl
    have:cz (l.filter fun q=>q.1 != x) x=none:=by
     rw [eP]
     intro hm
     obtain ⟨y,hy,e⟩:=List.mem_map.1 hm
     have:=(List.mem_filter.1 hy).2
     simp [e] at this
    rw [this] at h;cases h
   have hne:(x == q.1)=false:=by rw [hq];simpa using hx
   simp only [cz,List.find?_cons,hne] at h2 ⊢
   exact h2
  ·rw [List.filter_cons,if_pos (by simpa using hq)] at h
   simp only [cz,List.find?_cons] at h ih ⊢
   cases hxq:(x == q.1)
   ·rw [hxq] at h
    exact ih h
   ·rw [hxq] at h
    exact h
theorem HU {b c:Bd} (h:bD aY b=true) (hp:(aL b).Perm (aL c)) (ho:c.objs=b.objs) (hc:∀ x v,cz (bp c.stack) x=some v→cz (bp b.stack) x=some v):bD aY c=true:=by
 obtain ⟨p1,p2,p3⟩:=fc h
 have hn:=de h
 rw [← jX] at hn
 simp only [bD,Bool.and_eq_true,decide_eq_true_eq,nq,ho]
 refine ⟨(hp.map _).nodup_iff.1 hn,⟨p1,?_⟩,by rw [← hp.length_eq];exact p3⟩
 rw [List.all_eq_true] at p2 ⊢
 intro o hm
 have h1:=p2 o hm
 simp only [ok1,Bool.and_eq_true] at h1 ⊢
 rw [← y0 hn hp]
 refine ⟨h1.1,h1.2.1,h1.2.2.1,?_⟩
 have h2:=h1.2.2.2
 cases e:cz (bp c.stack) o.id with
 | none=>rfl
 | some v=>rw [hc _ _ e] at h2;exact h2
theorem J8 {att other att' other':List Int} {id:Int} (ha:∀ y ∈ att,y ≠ id→y ∈ att') (ho:∀ y ∈ other,y ≠ id→y ∈ other') :
  ∀ {bl:List Bl} {ua ub ua' ub':List Int},(∀ y ∈ ua',y ∈ ua)→(∀ y ∈ ub',y ∈ ub)→wu att other ua ub bl=true→wu att' other' ua' ub' (bl.filter fun x=>!eR id x)=true
 | [],_,_,_,_,_,_,_=>rfl
 | x::bl,ua,ub,ua',ub',h1,h2,h=>by
  simp only [wu,Bool.and_eq_true,Bool.not_eq_true',List.contains_iff_mem,← Bool.not_eq_true] at h
  obtain ⟨⟨⟨q1,q2⟩,q3,q4⟩,q5⟩:=h
  by_cases hx:eR id x=true
  ·rw [List.filter_cons,if_neg (by simp [hx])]
   exact J8 ha ho (fun y hy=>List.mem_cons_of_mem _ (h1 y hy)) (fun y hy=>List.mem_cons_of_mem _ (h2 y hy)) q5
  ·rw [List.filter_cons,if_pos (by simpa using hx)]
   simp only [eR,Bool.or_eq_true,beq_iff_eq,not_or] at hx
   simp only [wu,Bool.and_eq_true,Bool.not_eq_true',List.contains_iff_mem,← Bool.not_eq_true]
   refine ⟨⟨⟨fun hy=>q1 (h1 _ hy),ha _ q2 hx.2⟩,fun hy=>q3 (h2 _ hy),ho _ q4 hx.1⟩,?_⟩
   refine J8 ha ho (fun y hy=>?_) (fun y hy=>?_) q5
   ·rcases List.mem_cons.1 hy with rfl | hy
    ·exact List.mem_cons_self
    ·exact List.mem_cons_of_mem _ (h1 y hy)
   ·rcases List.mem_cons.1 hy with rfl | hy
    ·exact List.mem_cons_self
    ·exact List.mem_cons_of_mem _ (h2 y hy)
theorem wd {l:List Int} {id y:Int}:y ∈ cQ l id ↔ y ∈ l∧y ≠ id:=by rw [cQ,List.mem_filter,bne_iff_ne]
theorem qX {own other own' other' att:List Int} {bl:List Bl} {id:Int} (ha:∀ y ∈ own,y ≠ id→y ∈ own') (ho:∀ y ∈ other,y ≠ id→y ∈ other') (h:jY own other att bl=true) :
  jY own' other' (cQ att id) (bl.filter fun x=>!eR id x)=true:=by
 simp only [jY,Bool.and_eq_true,decide_eq_true_eq,List.all_eq_true,List.contains_iff_mem] at h ⊢
 refine ⟨h.1.filter _,fun x hx=>?_,J8 (fun y hy hne=>wd.2 ⟨hy,hne⟩) ho (fun _ h=>h) (fun _ h=>h) h.2.2⟩
 obtain ⟨h1,h2⟩:=wd.1 hx
 exact ha x (h.2.1 x h1) h2
theorem Fj {b:Bd} {k:Nat} {o:Ob} {z:Int} (ho:o.owner=0∨o.owner=1) (hz:z=0∨z=1∨z=2∨z=3) {q:Int} (hq:q=0∨q=1) (y:Int) :
  y ∈ (aF (gz b k o z) q).field ↔ (y ∈ (aF b q).field∧y ≠ o.id)∨(y=o.id∧z=2∧q=o.owner):=by
 rw [gz]
 generalize o.id=id
 rcases ho with h | h <;> rw [h] <;> rcases hq with rfl | rfl <;> rcases hz with rfl | rfl | rfl | rfl <;> simp [oD,bu,aF,Jw,eB,oG,T0,wd]
theorem Dh {b:Bd} {k:Nat} {o:Ob} {z:Int}:(gz b k o z).objs=b.objs.set k o:=by
 rw [gz,oD,bu];split <;> rfl
theorem uU {b:Bd} {k:Nat} {o:Ob} {z:Int}:(gz b k o z).stack=b.stack.filter fun x=>!mc o.id x:=by
 rw [gz,oD,bu];split <;> rfl
theorem MP {b:Bd} {k:Nat} {o:Ob} {z:Int}:bc (gz b k o z).s0=bc b.s0∧bc (gz b k o z).s1=bc b.s1:=by
 have hz:∀ (s:St) (id:Int),bc (Jw s z id)=bc s:=fun s id=>by
  rw [Jw]
  split
  ·rfl
  split
  ·rfl
  split
  ·rfl
  split
  ·rfl
  ·rfl
 rw [gz,oD,bu]
 split
 ·rename_i h
  refine ⟨?_,rfl⟩
  show bc (Jw (aF (eB (oG b o.id) k o) o.owner) z o.id)=_
  rw [hz,aF,if_pos h];rfl
 ·rename_i h
  refine ⟨rfl,?_⟩
  show bc (Jw (aF (eB (oG b o.id) k o) o.owner) z o.id)=_
  rw [hz,aF,if_neg h];rfl
theorem OW {b:Bd} {k:Nat} {o:Ob} {z:Int}:(gz b k o z).att=cQ b.att o.id∧(gz b k o z).blocks=b.blocks.filter (fun x=>!eR o.id x)∧(gz b k o z).active=b.active∧(gz b k o z).turn=b.turn∧(gz b k o z).phase=b.phase∧(gz b k o z).holder=b.holder∧(gz b k o z).passes=b.passes∧(gz b k o z).queue=b.queue:=by
 rw [gz,oD,bu];split <;> exact ⟨rfl,rfl,rfl,rfl,rfl,rfl,rfl,rfl⟩
theorem MO {b:Bd} (h:ar b=true) {k:Nat} {o:Ob} (hk:b.objs[k]?=some o) {z:Int} (hz:z=0∨z=1∨z=2∨z=3):ar (gz b k (cw o z) z)=true:=by
 have hpl:=(aS h).1
 obtain ⟨hvo,hmem,_,hown⟩:=dr hpl hk
 generalize hob:cw o z=o'
 have i1:o'.id=o.id:=by rw [← hob];rfl
 have i2:o'.owner=o.owner:=by rw [← hob];rfl
 have i3:o'.card=o.card:=by rw [← hob];rfl
 have hvo':aY o'=true:=by rw [← hob];exact zG z hvo
 have hown':o'.owner=0∨o'.owner=1:=by rw [i2];exact hown
 have hset:=E3 hpl hk i1 i2 i3 hvo'
 obtain ⟨r1,r2,r3,r4,r5,r6,r7,r8⟩:=OW (b:=b) (k:=k) (o:=o') (z:=z)
 obtain ⟨s0,s1⟩:=MP (b:=b) (k:=k) (o:=o') (z:=z)
 have hplm:bD aY (gz b k o' z)=true:=by
  refine HU hset ?_ Dh fun x v hx=>?_
  ·have hn:=de hpl
   rw [← jX] at hn
   have e:aL (eB (oG b o'.id) k o')=(aL b).filter fun q=>q.1 != o'.id:=by rw [show aL (eB (oG b o'.id) k o')=aL (oG b o'.id) from rfl,MG]
   have p1:=HW hn hmem
   have p2:=E7 (eB (oG b o'.id) k o') hown' hz o'.id
   rw [e,i1,i2] at p2
   rw [gz,i1,i2]
   exact p1.trans p2.symm
  ·rw [uU,Nu] at hx
   exact JF hx
 have hf:dl (gz b k o' z)=true:=by
  have h0:=(aS h).2.1
  have f0:∀ y ∈ b.s0.field,y ≠ o'.id→y ∈ (gz b k o' z).s0.field:=fun y hy hne=>(Fj (b:=b) (k:=k) hown' hz (q:=0) (.inl rfl) y).2 (.inl ⟨hy,hne⟩)
  have f1:∀ y ∈ b.s1.field,y ≠ o'.id→y ∈ (gz b k o' z).s1.field:=fun y hy hne=>(Fj (b:=b) (k:=k) hown' hz (q:=1) (.inr rfl) y).2 (.inl ⟨hy,hne⟩)
  rw [dl] at h0 ⊢
  rw [r1,r2,r3]
  split
  ·rename_i ha
   rw [if_pos ha] at h0
   exact qX f0 f1 h0
  ·rename_i ha
   rw [if_neg ha] at h0
   exact qX f1 f0 h0
 have hlen:(gz b k o' z).objs.length=b.objs.length:=by rw [Dh,List.length_set]
 have hsl:(gz b k o' z).stack.length≤b.stack.length:=by rw [uU];exact List.length_filter_le _ _
 have hany:((gz b k o' z).stack.any fun x=>!cZ x false)=false:=by
  rw [List.any_eq_false]
  intro x hx
  rw [uU] at hx
  have h4:=(aS h).2.2.2
  rw [List.all_eq_true] at h4
  rw [h4 x (List.mem_filter.1 hx).1];simp
 simp only [ar,og,Bool.and_eq_true,Bool.not_eq_true',Bool.or_eq_false_iff,decide_eq_false_iff_not] at h ⊢
 obtain ⟨a1,a2,a3,a4,⟨⟨⟨a5,a6⟩,a7⟩,a8⟩,a9,a10,a11,a12,a13⟩:=h
 rw [r3,r4,r5,r6,r7,r8,hlen,s0,s1]
 exact ⟨a1,a2,a3,a4,⟨⟨⟨a5,a6⟩,by omega⟩,a8⟩,a9,a10,hany,a12,hplm,hf⟩
theorem OZ {ks:List Int} {b:Bd} (h:ar b=true) {q:Int} (hq:q=0∨q=1) {x:Int}:x ∈ jI ks b q ↔ ∃ o ∈ b.objs,o.id=x∧o.owner=q∧eU ks o=true∧x ∈ (aF b q).field:=by
 have hw:au q 0 1=true:=by simp only [au,decide_eq_true_eq];omega
 rw [jI,if_pos (by rw [hw,h];rfl),List.mem_map]
 constructor
 ·rintro ⟨o,ho,rfl⟩
  obtain ⟨m,c⟩:=List.mem_filter.1 ho
  simp only [y3,Bool.and_eq_true,beq_iff_eq,List.contains_iff_mem] at c
  exact ⟨o,m,rfl,c.1,c.2.1,c.2.2⟩
 ·rintro ⟨o,m,rfl,c1,c2,c3⟩
  refine ⟨o,List.mem_filter.2 ⟨m,?_⟩,rfl⟩
  simp only [y3,Bool.and_eq_true,beq_iff_eq,List.contains_iff_mem]
  exact ⟨c1,c2,c3⟩
theorem tV:∀ {l m:List Int},l.Nodup→(∀ x ∈ l,x ∈ m)→l.length≤m.length
 | [],_,_,_=>Nat.zero_le _
 | a::l,m,h,hs=>by
  rw [List.nodup_cons] at h
  have ha:=hs a List.mem_cons_self
  have ih:=tV (m:=m.erase a) h.2 fun x hx=>(List.mem_erase_of_ne (fun e=>by rw [e] at hx;exact h.1 hx)).2 (hs x (List.mem_cons_of_mem _ hx))
  rw [List.length_erase_of_mem ha] at ih
  have:=List.length_pos_of_mem ha
  rw [List.length_cons];omega
section
variable {cs:List Cd} {b:Bd} (h:ar b=true) {k:Nat} {o:Ob} (hk:b.objs[k]?=some o) {z:Int} (hz:z=0∨z=1∨z=2∨z=3)
include h hk hz
end
end Go.Proofs.YtdhobpmnkfmcfaaGreatDoor
namespace Go.Proofs.YtdhobpmnkfmcfaaGreatDoor
open Go Go.Sx
set_option maxRecDepth 100000
set_option maxHeartbeats 1000000
theorem VZ (H:Heap):CdRX H Jh VY:=⟨rfl,Sl.nil H 5,⟨[],Sl.nil H 2,rfl,fun i r t h=>by simp at h⟩⟩
theorem Ph {H:Heap} {v:Value} {cs:List CdX} (h:CardsX H v cs) (c:Int) (hn:¬ (c < 0∨c ≥ (cs.length:Int))) :
  ∃ a r,ak (.idx 14) [v,iV c]=some (.pointer (some a))∧H.read (.pointer (some a)) 14=some r∧r.length=14∧Ones r∧CdRX H r (cdX cs c):=by
 obtain ⟨rows,h1,h2,h3⟩:=h
 have hlt:c.toNat < rows.length:=by omega
 obtain ⟨a,k1,k2,k3,k4⟩:=h1.idx (k:=.i64) (i:=c.toNat) (List.getElem?_eq_getElem hlt)
 have hk:cs[c.toNat]?=some (cdX cs c):=by
  rw [cdX,if_neg hn,List.getD_eq_getElem?_getD,List.getElem?_eq_getElem (by omega)];rfl
 refine ⟨a,_,?_,k2,k3,k4,h3 c.toNat _ _ (List.getElem?_eq_getElem hlt) hk⟩
 rw [show iV c=iV (c.toNat:Int) by rw [Int.toNat_of_nonneg (by omega)]];exact k1
def WA (cs:List CdX) (c:Int) (v:Value) (H:Heap):Prop:=∃ cells:List Value,v=.agg cells.toArray∧cells.length=14∧Ones cells∧CdRX H cells (cdX cs c)
theorem UL {H:Heap} {O:Own} {v:Value} {cs:List CdX} (h:CardsX H v cs) (o:Ob):Triple PP mU [v,.agg o.row.toArray] H O fun r H' O'=>WA cs o.card r H'∧O'=O:=by
 refine nh (vs:=v::o.row) (by kernel_rfl) ⟨h.one,bG o⟩ ?_
 simp only [km]
 refine af fun r0=>af fun r1=>?_
 refine ab ?_
 refine aa _ (aI _ _) ?_
 refine ab (ae (ae ?_))
 refine aa _ h.len ?_
 refine ae (ae (aa _ (eY _ _) (ae (aa _ (aP _ _) ?_))))
 refine aj (fun hb=>?_) (fun hb=>?_)
 ·have hb:(decide (o.card < 0) || decide (o.card ≥ (cs.length:Int)))=true:=hb
  refine ab (ab ?_)
  refine ah ⟨⟨Jh,rfl,rfl,⟨rfl,rfl,rfl,rfl,rfl,rfl,rfl,rfl,rfl,rfl,rfl,rfl,rfl,rfl,trivial⟩,?_⟩,rfl⟩
  rw [cdX,if_pos (by simpa using hb)];exact VZ H
 ·have hb:(decide (o.card < 0) || decide (o.card ≥ (cs.length:Int)))=false:=hb
  obtain ⟨a,r,k1,k2,k3,k4,k5⟩:=Ph h o.card (by simpa [Bool.or_eq_false_iff] using hb)
  refine ab ?_
  refine aa _ k1 (aw (gQ k2) k3 k4 ?_)
  refine ab (ab ?_)
  exact ah ⟨⟨r,by rw [← CJ k3];rfl,k3,k4,k5⟩,rfl⟩
def WL (v:Value) (trs:List (List Eff)) (O:Own):Prop:=∃ rows A Ts,O.Perm (A++List.flatten Ts)∧OSl fN 2 v rows A∧rows.length=trs.length∧Ts.length=trs.length ∧
 ∀ (i:Nat) (r:List Value) (l:List Eff) (T:Own),rows[i]?=some r→trs[i]?=some l→Ts[i]?=some T→OSl eA 5 (g r 1) (md l) T
def VS (c:CdX) (v:Value) (O:Own):Prop:=∃ (cells:List Value) (A B:Own),v=.agg cells.toArray∧cells.length=14∧Ones cells∧g cells 1=iV c.kind∧OSl eA 5 (g cells 11) (md c.effs) A∧WL (g cells 12) c.trs B∧O.Perm (A++B)
theorem J6 {H:Heap} {cells:List Value} {c:CdX} (h:CdRX H cells c) (hl:cells.length=14) (ho:Ones cells) (hli:iD c.base=true) :
  Triple PP wS [.agg cells.toArray] H [] fun r _ O'=>VS c r O':=by
 simp only [iD,CdX.base,Bool.and_eq_true,Bool.not_eq_true',Bool.or_eq_false_iff,decide_eq_false_iff_not,List.all_eq_true,List.length_map,List.mem_map,forall_exists_index,and_imp,forall_apply_eq_imp_iff₂] at hli
 obtain ⟨⟨b1,b2⟩,b3⟩:=hli
 obtain ⟨hk,he,⟨trows,t1,t2,t3⟩⟩:=h
 refine xj (vs:=cells) (by rw [← CJ hl];kernel_rfl) ho ?_
 simp only [rJ]
 refine af fun r0=>af fun r1=>?_
 refine ab (ab ?_)
 refine ax (BL he (by rw [y9];omega)) fun x H1 O1 hx l1=>⟨[x],rfl,⟨hx.one,trivial⟩,?_⟩
 refine ax (LK (t1.le l1) (by omega)) fun y H2 O2 hy l2=>⟨[y],rfl,⟨hy.one,trivial⟩,?_⟩
 have ylen:=hy.len
 rw [t2] at ylen
 refine ab (ab (ab ?_))
 refine aa _ ylen ?_
 refine aX c.trs.length (fun i H' O'=>Heap.le H2 H'∧∃ rows' A Ts,O'.Perm (A++(List.flatten Ts++O1))∧OSl fN 2 y rows' A∧rows'.length=c.trs.length∧Ts.length=i ∧
  (∀ (j:Nat) (r:List Value) (l:List Eff) (T:Own),rows'[j]?=some r→c.trs[j]?=some l→Ts[j]?=some T→OSl eA 5 (g r 1) (md l) T)∧∀ j,i≤j→rows'[j]?=trows[j]?)
  ⟨Heap.le_refl _,trows,O2,[],by simp,hy,t2,rfl,fun j r l T _ _ h=>by simp at h,fun _ _=>rfl⟩ ?_
 rintro i H' O' hi - ⟨hle,rows',A,Ts,hp,hA,hrl,htl,hspec,hrest⟩
 refine aa _ (aI _ _) (aj (fun hb=>?_) (fun hb=>?_))
 ·have hlt:i < c.trs.length:=by simpa using hb
  have hri:rows'[i]?=some trows[i]:=by rw [hrest i (Nat.le_refl _)];exact List.getElem?_eq_getElem (by omega)
  have k1:=t3 i trows[i] c.trs[i] (List.getElem?_eq_getElem (by omega)) (List.getElem?_eq_getElem hlt)
  have hb3:=b3 _ (List.getElem_mem hlt)
  obtain ⟨a,i1,i2,i3,i4⟩:=hA.idx (fun p h=>hp.mem_iff.2 (List.mem_append_left _ h)) H' (k:=.i64) hri
  obtain ⟨w1,w2⟩:=hA.rows_ok hri
  refine aa _ i1 (aw i3 w1 w2 (af fun r2=>?_))
  refine ab (ab (ab ?_))
  refine ax (BL (k1.le (Heap.le_trans l1 (Heap.le_trans l2 hle))) (by rw [y9];omega)) fun z H3 T hz l3=>⟨[z],rfl,⟨hz.one,trivial⟩,?_⟩
  have hp2:(T++O').Perm (A++(T++(List.flatten Ts++O1))):=(hp.append_left T).trans (List.perm_append_comm_assoc _ _ _)
  obtain ⟨a2,j1,j2⟩:=hA.store hp2 (k:=.i64) hri
  obtain ⟨A',hst,hA'⟩:=j2 1 [z] (by simp [w1]) ⟨hz.one,trivial⟩
  have hsp:g (dH trows[i] 1 [z]) 1=z:=by
   match hm:trows[i],w1 with
   | [_,_],_=>rfl
  refine aa _ j1 ?_
  refine aK rfl (aK rfl ?_)
  refine ⟨_,hst,?_⟩
  refine aa _ (aA (by omega)) (aR (by simp [Eqs]) hlt ⟨Heap.le_trans hle l3,_,A',Ts++[T],?_,hA',by simp [hrl],by simp [htl],?_,?_⟩)
  ·refine List.Perm.append_left A' ?_
   rw [List.flatten_append,← List.append_assoc]
   refine List.Perm.append_right O1 ?_
   simpa using List.perm_append_comm
  ·intro j r x T' h1 h2 h3
   by_cases hj:j=i
   ·subst hj
    rw [List.getElem?_set_self (by omega)] at h1
    rw [List.getElem?_eq_getElem hlt] at h2
    rw [List.getElem?_append_right (by omega),htl,Nat.sub_self] at h3
    simp only [Option.some.injEq,List.getElem?_cons_zero] at h1 h2 h3
    subst h1;subst h2;subst h3
    rw [hsp];exact hz
   ·rw [List.getElem?_set_ne (by omega)] at h1
    have hjlt:j < Ts.length:=by
     have:=(List.getElem?_eq_some_iff.1 h3).1
     simp at this;omega
    rw [List.getElem?_append_left hjlt] at h3
    exact hspec j r x T' h1 h2 h3
  ·intro j hj
   rw [List.getElem?_set_ne (by omega)]
   exact hrest j (by omega)
 ·have hie:i=c.trs.length:=by
   have:¬ ((i:Int) < (c.trs.length:Int)):=by simpa using hb
   omega
  subst hie
  refine ab (ab (ab ?_))
  refine ah ⟨[g cells 0,g cells 1,g cells 2,g cells 3,g cells 4,g cells 5,g cells 6,g cells 7,g cells 8,g cells 9,g cells 10,x,y,g cells 13],O1,A++List.flatten Ts,rfl,rfl,?_,hk,hx,⟨rows',A,Ts,List.Perm.refl _,hA,hrl,htl,hspec⟩,?_⟩
  ·exact ⟨dB ho (by omega),dB ho (by omega),dB ho (by omega),dB ho (by omega),dB ho (by omega),dB ho (by omega),dB ho (by omega),dB ho (by omega),dB ho (by omega),dB ho (by omega),dB ho (by omega),hx.one,hy.one,dB ho (by omega),trivial⟩
  ·refine hp.trans ?_
   rw [← List.append_assoc]
   exact List.perm_append_comm
theorem NB {H:Heap} {v:Value} {cs:List CdX} (h:CardsX H v cs) (hli:eQ (cs.map CdX.base)=true) (o:Ob):Triple PP rV [v,.agg o.row.toArray] H [] fun r _ O'=>VS (cdX cs o.card) r O':=by
 refine tJ (vs:=v::o.row) (by kernel_rfl) ⟨h.one,bG o⟩ ?_
 simp only [mS]
 refine af fun r0=>af fun r1=>?_
 refine ab ?_
 refine ax (UL (O:=[]) h o) ?_
 rintro _ H1 _ ⟨⟨cells,rfl,k1,k2,k3⟩,rfl⟩ l1
 refine ⟨cells,by simp [Shp.open,k1],k2,?_⟩
 have hrow:=CJ k1
 have hlc:iD (cdX cs o.card).base=true:=by rw [LF];exact BC hli _
 refine ax (J6 (cells:=[g cells 0,g cells 1,g cells 2,g cells 3,g cells 4,g cells 5,g cells 6,g cells 7,g cells 8,g cells 9,g cells 10,g cells 11,g cells 12,g cells 13]) (by rw [hrow];exact k3) rfl (by rw [hrow];exact k2) hlc) ?_
 rintro _ H2 O2 ⟨cells2,A,B,rfl,m1,m2,m3⟩ l2
 refine ⟨cells2,by simp [Shp.open,m1],m2,?_⟩
 refine ab (ab ?_)
 refine xl (O':=O2) (by simp) ⟨cells2,A,B,by rw [← CJ m1];rfl,m1,m2,m3⟩
end Go.Proofs.YtdhobpmnkfmcfaaGreatDoor
namespace Go.Proofs.YtdhobpmnkfmcfaaGreatDoor
open Go Go.Sx
set_option maxRecDepth 100000
set_option maxHeartbeats 1000000
theorem To {r:List Value} (h:r.length=2):(r.drop 1).take 1=[g r 1]:=by
 match r,h with
 | [_,_],_=>rfl
theorem NC {H:Heap} {v:Value} {cs:List CdX} (h:CardsX H v cs) (hli:eQ (cs.map CdX.base)=true) (player id card trig:Int) {s:Value} (hs:s.oneCell'=true) :
  Triple PP uJ [v,.agg #[iV player,iV id,iV card,iV trig,s]] H [] fun r _ O'=>OSl eA 5 r (md (S5 cs card trig)) O':=by
 refine yN (vs:=[v,iV player,iV id,iV card,iV trig,s]) (by kernel_rfl) ⟨h.one,rfl,rfl,rfl,rfl,hs,trivial⟩ ?_
 simp only [nC]
 refine af fun r0=>?_
 refine ab ?_
 refine ax (NB h hli (We card)) ?_
 rintro _ H1 O1 ⟨cells,A,B,rfl,k1,k2,k3,k4,k5,k6⟩ l1
 refine ⟨cells,by simp [Shp.open,k1],k2,af fun r1=>?_⟩
 have k4:OSl eA 5 (g cells 11) (md (cdX cs card).effs) A:=k4
 obtain ⟨rows,A',Ts,q1,q2,q3,q4,q5⟩:WL (g cells 12) (cdX cs card).trs B:=k5
 have hlen:ak .len [g cells 12]=some (iV (cdX cs card).trs.length):=by have:=q2.len;rwa [q3] at this
 refine ab (ab ?_)
 refine aa _ (aC _ _) (aj (fun hb=>?_) (fun hb=>?_))
 ·have hb:trig=-1:=by simpa using hb
  refine ab ?_
  refine yV (O':=A) (Y:=B) (by simpa using k6) ?_
  rw [S5,if_pos hb];exact k4
 have hb:trig ≠ -1:=by simpa using hb
 refine ab ?_
 refine aa _ (aI _ _) ?_
 repeat (first | refine ab ?_ | refine ae ?_)
 refine aa _ hlen ?_
 refine ae (ae (aa _ (eY _ _) (ae (aa _ (aP _ _) ?_))))
 refine aj (fun hc=>?_) (fun hc=>?_)
 ·have hc:(decide (trig < 0) || decide (trig ≥ ((cdX cs card).trs.length:Int)))=true:=hc
  refine uT ?_
  rw [S5,if_neg hb,if_pos (by simpa using hc)];exact OSl.nil _ _
 ·have hc:(decide (trig < 0) || decide (trig ≥ ((cdX cs card).trs.length:Int)))=false:=hc
  have hn:¬ (trig < 0∨trig ≥ ((cdX cs card).trs.length:Int)):=by simpa [Bool.or_eq_false_iff] using hc
  have hlt:trig.toNat < (cdX cs card).trs.length:=by omega
  have ecast:((trig.toNat:Nat):Int)=trig:=by omega
  have hri:rows[trig.toNat]?=some (rows[trig.toNat]'(by omega)):=List.getElem?_eq_getElem (by omega)
  have hTi:trig.toNat < Ts.length:=by omega
  have hT:=q5 _ _ _ _ hri (List.getElem?_eq_getElem hlt) (List.getElem?_eq_getElem hTi)
  obtain ⟨w1,w2⟩:=q2.rows_ok hri
  obtain ⟨p1,_⟩:=zW hTi
  have hmem:∀ p ∈ A',p ∈ O1++[]:=fun p hp=>by
   rw [List.append_nil]
   exact k6.mem_iff.2 (List.mem_append_right _ (q1.mem_iff.2 (List.mem_append_left _ hp)))
  obtain ⟨a,i1,i2,i3,i4⟩:=q2.idx hmem H1 (k:=.i64) hri
  have i5:=i4 1 1 (by omega)
  rw [To w1] at i5
  rw [ecast] at i1
  refine ab (ab ?_)
  refine aa _ i1 ?_
  refine aK rfl ?_
  refine aw i5 rfl ⟨hT.one,trivial⟩ ?_
  have hperm:(O1++[]).Perm (Ts[trig.toNat]++(A++(A'++List.flatten (Ts.eraseIdx trig.toNat)))):=by
   rw [List.append_nil]
   refine k6.trans ?_
   refine ((q1.trans (p1.append_left A')).append_left A).trans ?_
   refine ((List.perm_append_comm_assoc A' _ _).append_left A).trans ?_
   exact List.perm_append_comm_assoc A _ _
  refine yV hperm ?_
  rw [S5,if_neg hb,if_neg hn,List.getD_eq_getElem?_getD,List.getElem?_eq_getElem hlt]
  exact hT
end Go.Proofs.YtdhobpmnkfmcfaaGreatDoor
namespace Go.Proofs.YtdhobpmnkfmcfaaGreatDoor
open Go Go.Sx
set_option maxRecDepth 100000
set_option maxHeartbeats 1000000
theorem TY {H:Heap} {v:dG} {b:Bd} (h:BdS H v b) (hv:ar b=false):RetO PP wR [.agg (ao v b).toArray] H [] (.tuple #[.agg (ao AP zBd).toArray,.agg #[iV 0,iV 0,iV 0,iV 0,.slice none 0 0],iV 2]):=by
 refine xc (vs:=ao v b) (by kernel_rfl) (ap (h.r [])) ?_
 simp only [rD]
 refine af fun r0=>af fun r1=>af fun r2=>?_
 refine ab ?_
 refine ai (dD (h.r [])) rfl ⟨rfl,trivial⟩ fun H1 l1=>?_
 rw [hv]
 refine aa _ (aJ _) (aj (fun _=>?_) (fun hd=>by cases hd))
 refine ab (ab (ab (ab ?_)))
 exact ah ⟨rfl,rfl⟩
end Go.Proofs.YtdhobpmnkfmcfaaGreatDoor
namespace Go.Proofs.YtdhobpmnkfmcfaaGreatDoor
open Go Go.Sx
set_option maxRecDepth 100000
set_option maxHeartbeats 1000000
end Go.Proofs.YtdhobpmnkfmcfaaGreatDoor
namespace Go.Proofs.YtdhobpmnkfmcfaaGreatDoor
open Go Go.Sx
set_option maxRecDepth 100000
set_option maxHeartbeats 1000000
theorem PM:∀ {l:List Int} {x i:Int},0≤i→0≤qO l x i→∃ j:Nat,qO l x i=i + j∧l[j]?=some x
 | [],x,i,_,h=>by simp [qO] at h
 | a::l,x,i,h0,h=>by
  simp only [qO] at h ⊢
  by_cases hx:x=a
  ·subst hx;exact ⟨0,by simp,rfl⟩
  ·have hb:(x == a)=false:=by simpa using hx
   rw [hb] at h ⊢
   simp only [Bool.false_eq_true,if_false] at h ⊢
   obtain ⟨j,h1,h2⟩:=PM (by omega) h
   exact ⟨j + 1,by rw [h1];omega,h2⟩
theorem Kx {id:Int}:∀ {l:List (Int × Int × List Int)} {s:Int × Int × Int},sj id l=some s→∃ x ∈ l,s.1=x.1∧s.2.1=x.2.1∧∃ j:Nat,s.2.2=j∧x.2.2[j]?=some id
 | [],_,h=>by simp [sj] at h
 | a::l,s,h=>by
  simp only [sj] at h
  split at h
  ·rename_i hi
   obtain ⟨j,h1,h2⟩:=PM (by omega) hi
   rw [← Option.some.inj h]
   exact ⟨a,by simp,rfl,rfl,j,by show qO a.2.2 id 0=_;rw [h1];omega,h2⟩
  ·obtain ⟨x,hx,hm⟩:=Kx h
   exact ⟨x,by simp [hx],hm⟩
end Go.Proofs.YtdhobpmnkfmcfaaGreatDoor
namespace Go.Proofs.YtdhobpmnkfmcfaaGreatDoor
open Go Go.Sx
set_option maxRecDepth 100000
set_option maxHeartbeats 1000000
theorem yH {b:Bd} (h:ar b=true) {x:It} (hx:x ∈ b.stack):cZ x false=true:=List.all_eq_true.1 (aS h).2.2.2 x hx
theorem Bz {b:Bd} (h:ar b=true):b.stack.length≤200:=by
 simp only [ar,og,Bool.and_eq_true,Bool.not_eq_true',Bool.or_eq_false_iff,decide_eq_false_iff_not] at h
 obtain ⟨a1,a2,a3,a4,⟨⟨⟨a5,a6⟩,a7⟩,a8⟩,_⟩:=h
 omega
end Go.Proofs.YtdhobpmnkfmcfaaGreatDoor
namespace Go.Proofs.YtdhobpmnkfmcfaaGreatDoor
open Go Go.Sx
set_option maxRecDepth 100000
set_option maxHeartbeats 1000000
theorem Wb {H:Heap} {va vc:Value} (life:Int) {a c:List Int} (ha:Sl H 1 va (aG a)) (hc:Sl H 1 vc (aG c)) (hla:a.length≤1000) (hlc:c.length≤1000) :
  Triple PP ou [iV life,.agg #[va,vc]] H [] (Wz life a c):=by
 refine ve (vs:=[iV life,va,vc]) (by kernel_rfl) ⟨rfl,ha.one,hc.one,trivial⟩ ?_
 simp only [ki]
 have la:=ha.len
 have lc:=hc.len
 rw [aG,List.length_map] at la lc
 refine af fun r0=>af fun r1=>af fun r2=>?_
 repeat (first | refine ab ?_ | refine ae ?_ | refine aa _ la ?_ | refine aa _ lc ?_ | refine aa _ (gX (by omega)) ?_ | refine aa _ (bN _ _) ?_ | refine aa _ (aI _ _) ?_ | refine aa _ (aP _ _) ?_)
 refine aj (fun hb=>ab (ab (ah (JA ?_ H)))) (fun hb=>?_)
 ·unfold JB
  simp only [Bool.or_eq_true,decide_eq_true_eq] at hb
  rcases hb with hb | hb
  ·have:¬ (1≤life∧life≤9999):=by omega
   simp only [this,decide_false,Bool.false_and]
  ·have:¬ (a.length + c.length≤500):=by omega
   simp only [this,decide_false,Bool.and_false,Bool.false_and]
 simp only [Bool.or_eq_false_iff,decide_eq_true_eq,decide_eq_false_iff_not] at hb
 have hlife:1≤life∧life≤9999:=by omega
 have hsum:a.length + c.length≤500:=by omega
 refine ab ?_
 refine u5 a.length (fun i xs H' O'=>∃ o l O1 O2,xs=[o,l,qt]∧O'.Perm (O1++O2)∧Heap.le H H'∧OSl aO 12 o (((gU 0 a 0).take i).map Ob.row) O1∧OSl aM 1 l (aG (((gU 0 a 0).take i).map (·.id))) O2∧∀ x ∈ a.take i,0≤x∧x≤399)
  ⟨qt,qt,[],[],rfl,List.Perm.refl _,Heap.le_refl _,OSl.nil _ _,OSl.nil _ _,by simp⟩ ?_
 rintro i xs H2 O2' hi - - - ⟨o,l,O1,O2,rfl,hO,l2,ho,hl,hall⟩
 refine ab (aa _ la (aa _ (aI _ _) (aj (fun hb=>?_) (fun hb=>?_))))
 ·have hlt:i < a.length:=by simpa using hb
  obtain ⟨p,h1,h2,h3,h4⟩:=(ha.le l2).idx (k:=.i64) (i:=i) (r:=[iV a[i]]) (by simp [aG,hlt])
  refine ab (aa _ h1 (cY h2 h3 h4 (aa _ (aI _ _) (ae (ab (ae (ae (ae (xm h1 rfl (ae (Io h2 h3 h4 (ae (aa _ (bN _ _) (ae (aa _ (aP _ _) (aj (fun hb=>ab (ab (uT (JA ?_ H2)))) (fun hb=>?_)))))))))))))))))
  ·refine Ih (i:=i) (by simp;omega) ?_
   rw [List.getElem_append_left hlt]
   rintro ⟨q1,q2⟩
   simp at hb
   omega
  ·have hin:0≤a[i]∧a[i]≤399:=by simp at hb;omega
   have lno:=ho.len
   rw [List.length_map,List.length_take,iq,Nat.min_eq_left (by omega)] at lno
   refine ab (aa _ lno (aa _ (aA (by omega)) (ab (ab (aa _ h1 (cY h2 h3 h4 (af fun r3=>?_)))))))
   refine aD (rows:=((gU 0 a 0).take i).map Ob.row) (news:=[(MM ((i + 1:Nat):Int) a[i] 0).row]) (O1:=O1) (O2:=O2) (e:=aO) (size:=12) (bytes:=80) (by kernel_rfl) hO ho
    (fun Hf _ hf=>Sl.block1 (hf _ List.mem_cons_self) rfl (by simp [MM,Ob.row,Ones,Value.oneCell'])) ?_ ?_ ?_
   ·simp [iq];omega
   ·simp [iq];omega
   intro o' O1' H5 l5 ho'
   refine ab (ab (af fun r4=>?_))
   refine aD (rows:=aG (((gU 0 a 0).take i).map (·.id))) (news:=[[iV ((i + 1:Nat):Int)]]) (O1:=O2) (O2:=O1') (e:=aM) (size:=1) (bytes:=8) (by kernel_rfl) List.perm_append_comm hl
    (fun Hf _ hf=>Sl.block1 (hf _ List.mem_cons_self) rfl ⟨rfl,trivial⟩) ?_ ?_ ?_
   ·simp [aG,iq];omega
   ·simp [aG,iq];omega
   intro l' O2'' H6 l6 hl'
   refine ab (aa _ (aA (by omega)) (nw (by simp [Eqs,E]) hlt ⟨o',l',O1',O2'',rfl,List.perm_append_comm,?_,?_,?_,LO hlt hall hin⟩))
   ·exact Heap.le_trans l2 (Heap.le_trans l5 l6)
   ·rw [xQ hlt,List.map_append,Nat.zero_add];exact ho'
   ·rw [xQ hlt,List.map_append,Nat.zero_add,Du] at *
    exact hl'
 ·have hie:i=a.length:=by simp at hb;omega
  subst hie
  rw [List.take_of_length_le (by rw [iq];exact Nat.le_refl _)] at ho hl
  rw [List.take_length] at hall
  refine ab ?_
  refine u5 c.length (fun i xs H' O'=>∃ o m O1 O3,xs=[o,l,m]∧O'.Perm (O1++(O2++O3))∧Heap.le H2 H'∧OSl aO 12 o ((gU 0 a 0++(gU a.length c 1).take i).map Ob.row) O1∧OSl aM 1 m (aG (((gU a.length c 1).take i).map (·.id))) O3∧∀ x ∈ c.take i,0≤x∧x≤399)
   ⟨o,qt,O1,[],rfl,by simpa using hO,Heap.le_refl _,by simpa using ho,OSl.nil _ _,by simp⟩ ?_
  rintro i xs H3 O3' hi - - - ⟨o,m,O1,O3,rfl,hO,l3,ho,hm,hallc⟩
  refine ab (aa _ lc (aa _ (aI _ _) (aj (fun hb=>?_) (fun hb=>?_))))
  ·have hlt:i < c.length:=by simpa using hb
   obtain ⟨p,h1,h2,h3,h4⟩:=((hc.le l2).le l3).idx (k:=.i64) (i:=i) (r:=[iV c[i]]) (by simp [aG,hlt])
   refine ab (aa _ h1 (cY h2 h3 h4 (aa _ (aI _ _) (ae (ab (ae (ae (ae (xm h1 rfl (ae (Io h2 h3 h4 (ae (aa _ (bN _ _) (ae (aa _ (aP _ _) (aj (fun hb=>ab (ab (uT (JA ?_ H3)))) (fun hb=>?_)))))))))))))))))
   ·refine Ih (i:=a.length + i) (by simp;omega) ?_
    rw [List.getElem_append_right (by omega)]
    rintro ⟨q1,q2⟩
    simp at hb q1 q2
    omega
   ·have hin:0≤c[i]∧c[i]≤399:=by simp at hb;omega
    have lno:=ho.len
    rw [List.length_map,List.length_append,List.length_take,iq,iq,Nat.min_eq_left (by omega)] at lno
    refine ab (aa _ lno (aa _ (aA (by omega)) (ab (ab (aa _ h1 (cY h2 h3 h4 (af fun r5=>?_)))))))
    refine aD (rows:=(gU 0 a 0++(gU a.length c 1).take i).map Ob.row) (news:=[(MM ((a.length + i + 1:Nat):Int) c[i] 1).row]) (O1:=O1) (O2:=O2++O3) (e:=aO) (size:=12) (bytes:=80) (by kernel_rfl) hO ho
     (fun Hf _ hf=>Sl.block1 (hf _ List.mem_cons_self) rfl (by simp [MM,Ob.row,Ones,Value.oneCell'])) ?_ ?_ ?_
    ·simp [iq];omega
    ·simp [iq];omega
    intro o' O1' H6 l6 ho'
    refine ab (ab (af fun r6=>?_))
    refine aD (rows:=aG (((gU a.length c 1).take i).map (·.id))) (news:=[[iV ((a.length + i + 1:Nat):Int)]]) (O1:=O3) (O2:=O1'++O2) (e:=aM) (size:=1) (bytes:=8) (by kernel_rfl)
     (by rw [← List.append_assoc];exact List.perm_append_comm) hm (fun Hf _ hf=>Sl.block1 (hf _ List.mem_cons_self) rfl ⟨rfl,trivial⟩) ?_ ?_ ?_
    ·simp [aG,iq];omega
    ·simp [aG,iq];omega
    intro m' O3'' H7 l7 hm'
    refine ab (aa _ (aA (by omega)) (nw (by simp [Eqs,E]) hlt ⟨o',m',O1',O3'',rfl,?_,?_,?_,?_,LO hlt hallc hin⟩))
    ·rw [← List.append_assoc O1'];exact List.perm_append_comm
    ·exact Heap.le_trans l3 (Heap.le_trans l6 l7)
    ·rw [xQ hlt,← List.append_assoc,List.map_append];exact ho'
    ·rw [xQ hlt,List.map_append]
     rw [Du] at hm'
     exact hm'
  ·have hie:i=c.length:=by simp at hb;omega
   subst hie
   rw [List.take_of_length_le (by rw [iq];exact Nat.le_refl _)] at ho hm
   rw [List.take_length] at hallc
   refine ab (ab (ab (Rk ?_ hO ho hl hm)))
   unfold JB
   simp only [Bool.and_eq_true,decide_eq_true_eq,List.all_eq_true]
   refine ⟨⟨hlife,hsum⟩,fun x hx=>?_⟩
   rcases List.mem_append.1 hx with hx | hx
   ·exact hall x hx
   ·exact hallc x hx
end Go.Proofs.YtdhobpmnkfmcfaaGreatDoor
namespace Go.Sx
open Go
set_option maxRecDepth 100000
set_option maxHeartbeats 1000000
theorem UE {T:Heap→Own→(Value→Heap→Own→Prop)→Prop} {frz:List BV} {shp:Shp} {K:List Value→List (List Value)→Heap→Own→Prop} {H:Heap} {O B:Own} {Φ:Heap→Prop}
  (hz:∀ H1,Heap.le H H1→Cons H1 O→∃ Hf,Ghost H1 O Hf B∧Heap.le H1 Hf∧Φ Hf)
  (h:∀ Hf,Heap.le H Hf→(∀ b ∈ frz,Hf b.r=some b.obj.2)→Φ Hf→∃ Q,T Hf [] Q∧∀ v H' O',Q v H' O'→Heap.le Hf H'→∃ vs,shp.open v=some vs∧Ones vs∧K vs [] H' (O'++B)) :
  dZ T false frz [] shp K H O:=by
 intro hc
 have hf:=io hc
 have hc2:Cons (H.insAll frz) O:=by
  obtain ⟨w,F,hm⟩:=hc
  exact ⟨w,F,(mK (by simpa [List.append_assoc] using hm)).1⟩
 obtain ⟨Hf,g,hl,hphi⟩:=hz _ (Heap.le_insAll frz H) hc2
 obtain ⟨Q,hT,hk⟩:=h Hf (Heap.le_trans (Heap.le_insAll frz H) hl) (fun b hb=>hl.1 _ _ (hf b hb)) hphi
 refine ⟨Hf,[],B,Q,by simpa using g,by simpa using hT,fun v H' O' hq hle=>?_⟩
 obtain ⟨vs,h1,h2,h3⟩:=hk v H' O' hq hle
 exact ⟨vs,[],O',h1,h2,trivial,by simp [mJ],by simpa using h3⟩
theorem Uz {H:Heap} {O:Own}:∀ H1,Heap.le H H1→Cons H1 O→∃ Hf,Ghost H1 O Hf O∧Heap.le H1 Hf∧(fun _:Heap=>True) Hf:=fun H1 _ _=>⟨H1,Ghost.refl _ _,Heap.le_refl _,trivial⟩
end Go.Sx
namespace Go.Proofs.YtdhobpmnkfmcfaaGreatDoor
open Go Go.Sx
set_option maxRecDepth 100000
set_option maxHeartbeats 1000000
end Go.Proofs.YtdhobpmnkfmcfaaGreatDoor
namespace Go.Proofs.YtdhobpmnkfmcfaaGreatDoor
open Go Go.Sx
set_option maxRecDepth 100000
set_option maxHeartbeats 1000000
theorem Triple.frozen2 {P:Program} {f:FuncId} {args:List Value} {H:Heap} {t:Tys} {b:Bd} {e:Int} (h:Triple P f args H [] fun r _ O'=>∃ w,r=.tuple #[.agg (ao w b).toArray,iV e]∧OwnB t w b O') :
  Triple P f args H [] fun r H' O'=>(∃ w,r=.tuple #[.agg (ao w b).toArray,iV e]∧BdS H' w b)∧O'=[]:=by
 refine Triple.ghost h ?_
 rintro v H' O' _ hc ⟨w,rfl,ho⟩
 obtain ⟨H'',g,k,_⟩:=ho.freeze (X:=[]) (by simpa using hc)
 exact ⟨H'',[],by simpa using g,⟨w,rfl,k⟩,rfl⟩
end Go.Proofs.YtdhobpmnkfmcfaaGreatDoor
namespace Go.Proofs.YtdhobpmnkfmcfaaGreatDoor
open Go Go.Sx
set_option maxRecDepth 100000
set_option maxHeartbeats 1000000
theorem Vp {H:Heap} {O:Own} {v:Value} {l:List It} (h:ItsS H v l) {i:Nat} {x:It} (hx:l[i]?=some x) :
  ∃ a s,ak (.idx 5) [v,iV i]=some (.pointer (some a))∧Sl H 2 s (cF x.tgs)∧Reads H O (.pointer (some a)) 5 [iV x.player,iV x.id,iV x.card,iV x.trig,s] ∧
   ∀ off m,off + m≤5→Reads H O (be (.pointer (some a)) off) m (([iV x.player,iV x.id,iV x.card,iV x.trig,s].drop off).take m):=by
 obtain ⟨rows,h1,h2,h3⟩:=h
 have hlt:=(List.getElem?_eq_some_iff.1 hx).1
 have hr:rows[i]?=some (rows[i]'(by omega)):=List.getElem?_eq_getElem (by omega)
 obtain ⟨s,e,hs⟩:=h3 i _ x hr hx
 obtain ⟨a,k1,k2,k3,_⟩:=(h1.rsl O).idx .i64 i _ hr
 rw [e] at k2 k3
 exact ⟨a,s,k1,hs,k2,k3⟩
theorem IS {α:Type} (l:List α) (x:α):(l++[x])[l.length]?=some x:=by simp
def rX (cs:List CdX) (x:It):List Int:=dC ((S5 cs x.card x.trig).map (·.target))
def OK (cs:List CdX) (x:It):Int:=if x.trig=-1∧(x.tgs.length:Int) < min 4 ((rX cs x).length:Int) then (rX cs x).getD x.tgs.length 0 else 0
def OJ (cs:List CdX) (b:Bd):Int:=match b.stack.getLast? with
 | none=>0
 | some x=>OK cs x
theorem OI {cs:List CdX} {b:Bd} {l:List It} {x:It} (hl:b.stack=l++[x]):OJ cs b=OK cs x:=by
 simp [OJ,hl]
theorem Ie {cs:List CdX} {b:Bd} (hl:b.stack=[]):OJ cs b=0:=by
 simp [OJ,hl]
theorem SB {b:Bd} (h:b.stack ≠ []):∃ l x,b.stack=l++[x]:=⟨b.stack.dropLast,b.stack.getLast h,(List.dropLast_concat_getLast h).symm⟩
theorem Ly {cs:List CdX} (hli:eQ (cs.map CdX.base)=true) (c t:Int):(S5 cs c t).length≤5:=by
 have h:=BC hli c
 rw [← LF] at h
 simp only [iD,CdX.base,Bool.and_eq_true,Bool.not_eq_true',Bool.or_eq_false_iff,decide_eq_false_iff_not,List.all_eq_true,List.length_map] at h
 obtain ⟨⟨h1,h2⟩,h3⟩:=h
 rw [S5]
 split
 ·omega
 split
 ·simp
 ·rename_i hn
  have hlt:t.toNat < (cdX cs c).trs.length:=by omega
  rw [List.getD_eq_getElem?_getD,List.getElem?_eq_getElem hlt,Option.getD_some]
  have:=h3 _ (List.mem_map.2 ⟨_,List.getElem_mem hlt,rfl⟩)
  omega
theorem MN {cs:List CdX} (hli:eQ (cs.map CdX.base)=true) (x:It):(rX cs x).length≤5:=by
 have:=Ly hli x.card x.trig
 have h2:(rX cs x).length≤((S5 cs x.card x.trig).map (·.target)).length:=List.length_filter_le _ _
 rw [List.length_map] at h2
 omega
theorem VH {H:Heap} {cv:Value} {cs:List CdX} (hk:CardsX H cv cs) (hli:eQ (cs.map CdX.base)=true) {v:dG} {b:Bd} (h:BdS H v b) (hv:ar b=true):RetO PP An [cv,.agg (ao v b).toArray] H [] (iV (OJ cs b)):=by
 refine EB (vs:=cv::ao v b) (by kernel_rfl) ⟨hk.one,ap (h.r [])⟩ ?_
 simp only [uq]
 have slen:ak .len [v.s]=some (iV b.stack.length):=ItsR.len (h.stack.r [])
 have h200:=Bz hv
 refine af fun r0=>?_
 refine ab ?_
 refine aa _ slen ?_
 refine aa _ (aC _ _) (aj (fun h0=>?_) (fun h0=>?_))
 ·have h0:b.stack=[]:=List.length_eq_zero_iff.1 (by have:(b.stack.length:Int)=0:=(by simpa using h0);omega)
  exact ah ⟨by rw [Ie h0],rfl⟩
 have hne:b.stack ≠ []:=fun e=>by rw [e] at h0;simp at h0
 obtain ⟨l,x,hl⟩:=SB hne
 have hlen:b.stack.length=l.length + 1:=by rw [hl];simp
 have hxf:=yH hv (x:=x) (by rw [hl];simp)
 rw [OI hl]
 refine ab ?_
 refine ai (dD (h.r [])) rfl ⟨rfl,trivial⟩ fun H1 l1=>?_
 rw [hv]
 have h:=h.le l1
 have hk:=hk.le l1
 obtain ⟨a,s,k1,hs,k2,k3⟩:=Vp (O:=[]) h.stack (i:=l.length) (x:=x) (by rw [hl];exact IS l x)
 have esub:((b.stack.length:Int) - 1)=(l.length:Int):=by omega
 refine aa _ (aJ _) ?_
 refine ab (ae (ae ?_))
 refine aa _ (Jk (by omega) (by omega)) ?_
 rw [esub]
 refine ae (ae ?_)
 refine ⟨_,fun _=>k1,.inr rfl,?_⟩
 refine ⟨fun _=>rfl,?_⟩
 refine ae (ae ?_)
 refine ⟨[iV x.trig],rfl,⟨rfl,trivial⟩,fun _=>k3 3 1 (by omega),?_⟩
 refine ae ?_
 refine aa _ (ba _ _) ?_
 refine ae ?_
 refine aa _ (aP _ _) (aj (fun ht=>?_) (fun ht=>?_))
 ·have ht:(!true || x.trig != -1)=true:=ht
  have ht:x.trig ≠ -1:=by simpa using ht
  exact ah ⟨by rw [OK,if_neg (fun h=>ht h.1)],rfl⟩
 have ht:(!true || x.trig != -1)=false:=ht
 have ht:x.trig=-1:=by simpa using ht
 refine ab ?_
 refine aa _ (Jk (by omega) (by omega)) ?_
 rw [esub]
 refine aa _ k1 (aw k2 rfl ⟨rfl,rfl,rfl,rfl,hs.one,trivial⟩ (af fun r1=>?_))
 refine ab (ab ?_)
 refine ax (Triple.frozenS (NC hk hli x.player x.id x.card x.trig hs.one)) ?_
 rintro ev H2 _ ⟨hev,rfl⟩ l2
 refine ⟨[ev],rfl,⟨hev.one,trivial⟩,?_⟩
 have hn5:=MN hli x
 refine ax (Triple.frozenS (UR (IN hev) (by rw [List.length_map];have:=Ly hli x.card x.trig;omega))) ?_
 rintro nv H3 _ ⟨hnv,rfl⟩ l3
 have hnv:Sl H3 1 nv (aG (rX cs x)):=hnv
 refine ⟨[nv],rfl,⟨hnv.one,trivial⟩,?_⟩
 have tlen:ak .len [s]=some (iV x.tgs.length):=by have:=hs.len;rwa [bI] at this
 have nlen:ak .len [nv]=some (iV (rX cs x).length):=by have:=hnv.len;rwa [aG,List.length_map] at this
 have ht4:x.tgs.length≤4:=by
  simp only [cZ,Bool.and_eq_true,Bool.not_eq_true',Bool.or_eq_false_iff,decide_eq_false_iff_not] at hxf
  have:=hxf.2.2.2.2.1.1.1
  omega
 refine ab ?_
 refine aa _ tlen ?_
 refine aa _ nlen ?_
 refine aa _ (aI _ _) ?_
 refine ae ?_
 refine aa _ (aI _ _) ?_
 refine ae ?_
 refine aa _ (aU _ _) (aj (fun hc=>?_) (fun hc=>?_))
 ·have hc:(decide ((x.tgs.length:Int) < ((rX cs x).length:Int)) && decide ((x.tgs.length:Int) < 4))=true:=hc
  have hc:(x.tgs.length:Int) < ((rX cs x).length:Int)∧(x.tgs.length:Int) < 4:=by simpa using hc
  have hlt:x.tgs.length < (rX cs x).length:=by omega
  obtain ⟨a2,i1,i2,_,i3,i4⟩:=(hnv.rsl ([]:Own)).idx .i64 x.tgs.length [iV (rX cs x)[x.tgs.length]] (by simp [aG,hlt])
  refine aa _ i1 (aw i2 rfl ⟨rfl,trivial⟩ ?_)
  refine ah ⟨?_,rfl⟩
  rw [OK,if_pos ⟨ht,by omega⟩,List.getD_eq_getElem?_getD,List.getElem?_eq_getElem hlt];rfl
 ·have hc:(decide ((x.tgs.length:Int) < ((rX cs x).length:Int)) && decide ((x.tgs.length:Int) < 4))=false:=hc
  have hc:¬ ((x.tgs.length:Int) < ((rX cs x).length:Int)∧(x.tgs.length:Int) < 4):=by
   intro hh
   rw [decide_eq_true hh.1,decide_eq_true hh.2] at hc
   cases hc
  exact ah ⟨by rw [OK,if_neg (fun h=>hc (by omega))],rfl⟩
end Go.Proofs.YtdhobpmnkfmcfaaGreatDoor
namespace Go.Proofs.YtdhobpmnkfmcfaaGreatDoor
open Go Go.Sx
set_option maxRecDepth 100000
set_option maxHeartbeats 1000000
theorem MW {α:Type} {Ts:List α} {n:Nat} (h:Ts.length=n + 1):∃ T,Ts=Ts.take n++[T]∧Ts[n]?=some T:=by
 have hlt:n < Ts.length:=by omega
 refine ⟨Ts[n],?_,List.getElem?_eq_getElem hlt⟩
 have:=List.take_append_drop n Ts
 rw [List.drop_eq_getElem_cons hlt,List.drop_of_length_le (by omega)] at this
 exact this.symm
theorem TV {w:dG} {b:Bd} {O:Own} (ho:OwnBS tys w b O) {l:List It} {x:It} (hl:b.stack=l++[x]) :
  ∃ A T s a u,O.Perm (A++T)∧ak (.idx 5) [w.s,iV l.length]=some (.pointer (some a))∧OSl az 2 s (cF x.tgs) T ∧
   (∀ (H:Heap),Reads H O (.pointer (some a)) 5 [iV x.player,iV x.id,iV x.card,iV x.trig,s]) ∧
   ak (.slc 5 false true false) [w.s,iV l.length]=some u∧OwnB tys { w with s:=u } { b with stack:=l } A:=by
 obtain ⟨A,R,hp,⟨rows,A1,Ts,q1,q2,q3,q4,q5⟩,back⟩:=ho
 have hn:b.stack.length=l.length + 1:=by rw [hl];simp
 have hri:rows[l.length]?=some (rows[l.length]'(by omega)):=List.getElem?_eq_getElem (by omega)
 have hxi:b.stack[l.length]?=some x:=by rw [hl];exact IS l x
 obtain ⟨T,eT,hT⟩:=MW (Ts:=Ts) (n:=l.length) (by omega)
 obtain ⟨s,e,hs⟩:=q5 _ _ _ _ hri hxi hT
 obtain ⟨u,u1,u2⟩:=q2.upto (i:=l.length) (by omega)
 obtain ⟨a,k1,_⟩:=q2.store (O:=A1) (O2:=[]) (by simp) (k:=.i64) hri
 refine ⟨(A1++List.flatten (Ts.take l.length))++R,T,s,a,u,?_,k1,hs,fun H=>?_,u1,back u l _ ⟨rows.take l.length,A1,Ts.take l.length,List.Perm.refl _,u2,by rw [List.length_take];omega,by rw [List.length_take];omega,fun i r y Ty h1 h2 h3=>?_⟩⟩
 ·have e2:List.flatten Ts=List.flatten (Ts.take l.length)++T:=by
   conv=>lhs;rw [eT]
   rw [List.flatten_append];simp
  rw [e2] at q1
  refine hp.trans ((q1.append_right R).trans ?_)
  rw [List.append_assoc,List.append_assoc,List.append_assoc,List.append_assoc]
  refine List.Perm.append_left A1 ?_
  refine List.Perm.append_left _ ?_
  exact List.perm_append_comm
 ·obtain ⟨a',i1,_,i2,i3⟩:=q2.idx (fun p h=>hp.mem_iff.2 (List.mem_append_left _ (q1.mem_iff.2 (List.mem_append_left _ h)))) H (k:=.i64) hri
  have:a'=a:=by
   rw [k1] at i1
   simpa using i1.symm
  subst this
  rw [e] at i2
  exact i2
 ·have hil:i < l.length:=(List.getElem?_eq_some_iff.1 h2).1
  rw [List.getElem?_take,if_pos hil] at h1 h3
  have h2':b.stack[i]?=some y:=by rw [hl,List.getElem?_append_left hil];exact h2
  obtain ⟨s',e',k⟩:=q5 i r y Ty h1 h2' h3
  exact ⟨s',e',.inl k⟩
def Hw (b:Bd):It:=b.stack.getLast?.getD zIt
theorem NX {b:Bd} {l:List It} {x:It} (hl:b.stack=l++[x]):Hw b=x:=by simp [Hw,hl]
def Me (b:Bd):Bd × Int:=if ar b=false then (zBd,2) else if b.stack=[] then (zBd,9) else if (Hw b).trig=-1 then ((fG b (Hw b).id 3).1,0) else ({ b with stack:=b.stack.dropLast },0)
def MA (b:Bd):It:=if ar b=false then zIt else Hw b
theorem Wp {H:Heap} {v:dG} {b:Bd} (h:BdS H v b) (hB:bdB b) :
  Triple PP wR [.agg (ao v b).toArray] H [] fun r _ O'=>∃ w s A T,r=.tuple #[.agg (ao w (Me b).1).toArray,.agg #[iV (MA b).player,iV (MA b).id,iV (MA b).card,iV (MA b).trig,s],iV (Me b).2] ∧
   O'.Perm (A++T)∧OwnB tys w (Me b).1 A∧OSl az 2 s (cF (MA b).tgs) T:=by
 by_cases hv:ar b=true
 case neg =>
  have hv:ar b=false:=by simpa using hv
  have e:Me b=(zBd,2):=by rw [Me,if_pos hv]
  have e2:MA b=zIt:=by rw [MA,if_pos hv]
  rw [e,e2]
  refine (TY h hv).mono ?_
  rintro r H' O' _ ⟨rfl,rfl⟩
  exact ⟨AP,.slice none 0 0,[],[],rfl,List.Perm.refl _,OwnB.zero tys,OSl.nil _ _⟩
 have e2:MA b=Hw b:=by rw [MA,if_neg (by rw [hv];simp)]
 refine xc (vs:=ao v b) (by kernel_rfl) (ap (h.r [])) ?_
 simp only [rD]
 have h200:=Bz hv
 refine af fun r0=>af fun r1=>af fun r2=>?_
 refine ab ?_
 refine ai (dD (h.r [])) rfl ⟨rfl,trivial⟩ fun H1 l1=>?_
 rw [hv]
 have h:=h.le l1
 have slen:ak .len [v.s]=some (iV b.stack.length):=ItsR.len (h.stack.r [])
 refine aa _ (aJ _) (aj (fun hd=>by cases hd) (fun _=>?_))
 refine ab ?_
 refine aa _ slen ?_
 refine aa _ (aC _ _) (aj (fun h0=>?_) (fun h0=>?_))
 ·have h0:b.stack=[]:=List.length_eq_zero_iff.1 (by have:(b.stack.length:Int)=0:=(by simpa using h0);omega)
  have e:Me b=(zBd,9):=by rw [Me,if_neg (by rw [hv];simp),if_pos h0]
  have e3:Hw b=zIt:=by simp [Hw,h0]
  rw [e,e2,e3]
  refine ab (ab (ab (ab ?_)))
  exact ah ⟨AP,.slice none 0 0,[],[],rfl,List.Perm.refl _,OwnB.zero tys,OSl.nil _ _⟩
 have hne:b.stack ≠ []:=fun e=>by rw [e] at h0;simp at h0
 obtain ⟨l,x,hl⟩:=SB hne
 have hlen:b.stack.length=l.length + 1:=by rw [hl];simp
 have hxf:=yH hv (x:=x) (by rw [hl];simp)
 have hxid:i64 x.id:=by
  simp only [cZ,au,Bool.and_eq_true,decide_eq_true_eq] at hxf
  constructor <;> omega
 have esub:((b.stack.length:Int) - 1)=(l.length:Int):=by omega
 have etop:=NX hl
 rw [e2,etop]
 refine ab ?_
 refine ax (Qv h hB) ?_
 rintro _ H4 O4 ⟨w,rfl,ho⟩ l4
 refine ⟨ao w b,rfl,bM H4 ho.weak,?_⟩
 rw [List.append_nil]
 have h:=h.le l4
 obtain ⟨A,T,s4,a4,u,p1,i1,hs4,rd,hu,hpop⟩:=TV ho hl
 refine af fun r3=>?_
 refine ab (ab ?_)
 refine aa _ (Jk (by omega) (by omega)) ?_
 rw [esub]
 refine aa _ i1 (aw (rd H4) rfl ⟨rfl,rfl,rfl,rfl,hs4.one,trivial⟩ (af fun r4=>?_))
 refine ab (ab ?_)
 refine aa _ (aC _ _) (aj (fun ht=>?_) (fun ht=>?_))
 ·have ht:x.trig=-1:=by simpa using ht
  have e:Me b=((fG b x.id 3).1,0):=by rw [Me,if_neg (by rw [hv];simp),if_neg hne,etop,if_pos ht]
  rw [e]
  refine ab (ab ?_)
  refine ax (LJ h hB hxid 3) ?_
  rintro _ H5 O5 ⟨w5,rfl,ho5⟩ l5
  refine ⟨ao w5 (fG b x.id 3).1++[iV (fG b x.id 3).2],rfl,aE (bM H5 ho5) ⟨rfl,trivial⟩,?_⟩
  repeat (first | refine ab ?_ | refine ae ?_ | refine aK rfl ?_)
  refine yV (O':=O5++T) (Y:=A) ?_ ⟨w5,s4,O5,T,rfl,List.Perm.refl _,ho5,hs4⟩
  rw [List.append_assoc]
  exact (p1.trans List.perm_append_comm).append_left O5
 ·have ht:x.trig ≠ -1:=by simpa using ht
  have e:Me b=({ b with stack:=l },0):=by rw [Me,if_neg (by rw [hv];simp),if_neg hne,etop,if_neg ht,hl,List.dropLast_concat]
  rw [e]
  refine ab ?_
  refine aa _ (Jk (by omega) (by omega)) ?_
  rw [esub]
  refine aa _ hu ?_
  repeat (first | refine ab ?_ | refine ae ?_ | refine aK rfl ?_)
  exact ah ⟨{ w with s:=u },s4,A,T,rfl,p1,hpop,hs4⟩
def dm (b:Bd) (id:Int):Bd × Int:=if (bm b id == 2)=true then (zBd,2) else if (bm b id != 0 || (vt b id).2.1 != 4)=true then (zBd,9) else fG b id 3
theorem I3 {H:Heap} {v:dG} {b:Bd} (h:BdS H v b) (hB:bdB b) {id:Int} (hid:i64 id):Triple PP uK [.agg (ao v b).toArray,iV id] H [] fun r _ O'=>∃ w,r=.tuple #[.agg (ao w (dm b id).1).toArray,iV (dm b id).2]∧OwnB tys w (dm b id).1 O':=by
 refine yO (vs:=ao v b++[iV id]) (by kernel_rfl) (aE (ap (h.r [])) ⟨rfl,trivial⟩) ?_
 simp only [nD]
 refine af fun r0=>af fun r1=>?_
 refine ab ?_
 refine ai (GY h hid []) rfl (vs:=Oe (vt b id)++[iV (bm b id)]) ⟨rfl,rfl,rfl,rfl,trivial⟩ fun H1 l1=>af fun r2=>?_
 have h:=h.le l1
 refine ab ?_
 refine aa _ (aC _ _) (aj (fun hb=>?_) (fun hb=>?_))
 ·have hb:(bm b id == 2)=true:=hb
  have e:dm b id=(zBd,2):=by rw [dm,if_pos hb]
  have e2:bm b id=2:=by simpa using hb
  rw [e,e2]
  refine ab (ab ?_)
  exact ah ⟨AP,rfl,OwnB.zero tys⟩
 have hb:(bm b id == 2)=false:=hb
 refine aa _ (ba _ _) ?_
 refine ab (ae (ae ?_))
 refine aa _ (ba _ _) ?_
 refine ae ?_
 refine aa _ (aP _ _) (aj (fun hc=>?_) (fun hc=>?_))
 ·have e:dm b id=(zBd,9):=by rw [dm,if_neg (by rw [hb];simp),if_pos hc]
  rw [e]
  refine ab (ab ?_)
  exact ah ⟨AP,rfl,OwnB.zero tys⟩
 have hc:(bm b id != 0 || (vt b id).2.1 != 4)=false:=hc
 have e:dm b id=fG b id 3:=by rw [dm,if_neg (by rw [hb];simp),if_neg (by rw [hc];simp)]
 rw [e]
 refine ab ?_
 refine ax (LJ h hB hid 3) ?_
 rintro _ H5 O5 ⟨w5,rfl,ho5⟩ l5
 refine ⟨ao w5 (fG b id 3).1++[iV (fG b id 3).2],rfl,aE (bM H5 ho5) ⟨rfl,trivial⟩,?_⟩
 rw [List.append_nil]
 refine ab (ab ?_)
 exact ah ⟨w5,rfl,ho5⟩
end Go.Proofs.YtdhobpmnkfmcfaaGreatDoor
namespace Go.Proofs.YtdhobpmnkfmcfaaGreatDoor
open Go Go.Sx
set_option maxRecDepth 100000
set_option maxHeartbeats 1000000
def szS (n:Nat) (s:St):Prop:=s.lib.length≤n∧s.hand.length≤n∧s.field.length≤n∧s.grave.length≤n
def szI (n:Nat) (l:List It):Prop:=l.length≤n∧∀ x ∈ l,x.tgs.length≤n
def szB (n:Nat) (b:Bd):Prop:=b.objs.length≤n∧szS n b.s0∧szS n b.s1∧szI n b.stack∧szI n b.queue∧b.att.length≤n∧b.blocks.length≤n
theorem szS.le {n m:Nat} {s:St} (h:szS n s) (hm:n≤m):szS m s:=⟨Nat.le_trans h.1 hm,Nat.le_trans h.2.1 hm,Nat.le_trans h.2.2.1 hm,Nat.le_trans h.2.2.2 hm⟩
theorem szI.le {n m:Nat} {l:List It} (h:szI n l) (hm:n≤m):szI m l:=⟨Nat.le_trans h.1 hm,fun x hx=>Nat.le_trans (h.2 x hx) hm⟩
theorem szB.le {n m:Nat} {b:Bd} (h:szB n b) (hm:n≤m):szB m b :=
 ⟨Nat.le_trans h.1 hm,szS.le h.2.1 hm,szS.le h.2.2.1 hm,szI.le h.2.2.2.1 hm,szI.le h.2.2.2.2.1 hm,Nat.le_trans h.2.2.2.2.2.1 hm,Nat.le_trans h.2.2.2.2.2.2 hm⟩
theorem WE {n:Nat} {b:Bd} (h:szB n b) (hn:n≤100000):bdB b:=by
 obtain ⟨a1,a2,a3,a4,a5,a6,a7⟩:=szB.le h (show n≤1000000 by omega)
 exact ⟨a1,a2,a3,a4,a5,a6,a7⟩
theorem N6 {n:Nat} {b:Bd} (h:szB n b) (hn:n≤100000):Kq b:=by
 obtain ⟨_,a2,a3,a4,_⟩:=szB.le h hn
 exact ⟨a2,a3,a4.1⟩
theorem QU {b:Bd} (h:fO b=true):szB 40 b:=by
 simp only [fO,gJ,mL,Bool.and_eq_true,Bool.not_eq_true',decide_eq_false_iff_not,decide_eq_true_eq,List.all_eq_true] at h
 obtain ⟨⟨a1,a2,a3,a4⟩,⟨b1,b2,b3,b4⟩,⟨c1,c2⟩,⟨d1,d2⟩,⟨e1,e2⟩,e3⟩:=h
 refine ⟨by omega,⟨by omega,by omega,by omega,by omega⟩,⟨by omega,by omega,by omega,by omega⟩,⟨by omega,fun x hx=>?_⟩,⟨by omega,fun x hx=>?_⟩,by omega,by omega⟩
 ·have:=c2 x hx;omega
 ·have:=d2 x hx;omega
theorem szI.app {n:Nat} {l:List It} (h:szI n l) {x:It} (hx:x.tgs.length≤n + 1):szI (n + 1) (l++[x]):=by
 refine ⟨by have:=h.1;simp;omega,fun y hy=>?_⟩
 rcases List.mem_append.1 hy with hy | hy
 ·have:=h.2 y hy;omega
 ·rw [List.mem_singleton.1 hy];exact hx
theorem Va {n:Nat} {b:Bd} (h:szB n b) (id:Int):szB n (oG b id):=by
 obtain ⟨a1,a2,a3,a4,a5,a6,a7⟩:=h
 have hw:∀ {l:List Int},l.length≤n→(cQ l id).length≤n:=fun h=>Nat.le_trans (List.length_filter_le _ _) h
 exact ⟨a1,⟨hw a2.1,hw a2.2.1,hw a2.2.2.1,hw a2.2.2.2⟩,⟨hw a3.1,hw a3.2.1,hw a3.2.2.1,hw a3.2.2.2⟩,⟨Nat.le_trans (List.length_filter_le _ _) a4.1,fun x hx=>a4.2 x (List.mem_filter.1 hx).1⟩,a5,hw a6,Nat.le_trans (List.length_filter_le _ _) a7⟩
theorem N4 {n:Nat} {s:St} (h:szS n s) (z id:Int):szS (n + 1) (Jw s z id):=by
 obtain ⟨h1,h2,h3,h4⟩:=h
 simp only [Jw]
 split
 ·exact ⟨by simp;omega,by show s.hand.length≤n + 1;omega,by show s.field.length≤n + 1;omega,by show s.grave.length≤n + 1;omega⟩
 split
 ·exact ⟨by show s.lib.length≤n + 1;omega,by simp;omega,by show s.field.length≤n + 1;omega,by show s.grave.length≤n + 1;omega⟩
 split
 ·exact ⟨by show s.lib.length≤n + 1;omega,by show s.hand.length≤n + 1;omega,by simp;omega,by show s.grave.length≤n + 1;omega⟩
 split
 ·exact ⟨by show s.lib.length≤n + 1;omega,by show s.hand.length≤n + 1;omega,by show s.field.length≤n + 1;omega,by simp;omega⟩
 ·exact ⟨by omega,by omega,by omega,by omega⟩
theorem Tu {n:Nat} {b:Bd} (h:szB n b) (k:Nat) (o:Ob) (z:Int):szB (n + 1) (gz b k o z):=by
 obtain ⟨a1,a2,a3,a4,a5,a6,a7⟩:=Va h o.id
 simp only [gz,oD,bu,aF]
 split
 ·exact ⟨by simp only [eB,List.length_set];omega,N4 a2 _ _,szS.le a3 (by omega),szI.le a4 (by omega),szI.le a5 (by omega),Nat.le_trans a6 (by omega),Nat.le_trans a7 (by omega)⟩
 ·exact ⟨by simp only [eB,List.length_set];omega,szS.le a2 (by omega),N4 a3 _ _,szI.le a4 (by omega),szI.le a5 (by omega),Nat.le_trans a6 (by omega),Nat.le_trans a7 (by omega)⟩
theorem Kw {n:Nat} {b:Bd} (h:szB n b) (id z:Int):szB (n + 1) (fG b id z).1:=by
 have hz:szB (n + 1) zBd:=⟨Nat.zero_le _,⟨Nat.zero_le _,Nat.zero_le _,Nat.zero_le _,Nat.zero_le _⟩,⟨Nat.zero_le _,Nat.zero_le _,Nat.zero_le _,Nat.zero_le _⟩,⟨Nat.zero_le _,fun x hx=>by cases hx⟩,⟨Nat.zero_le _,fun x hx=>by cases hx⟩,Nat.zero_le _,Nat.zero_le _⟩
 rw [fG]
 split
 ·exact hz
 split
 ·exact hz
 ·exact Tu h _ _ _
end Go.Proofs.YtdhobpmnkfmcfaaGreatDoor
namespace Go.Proofs.YtdhobpmnkfmcfaaGreatDoor
open Go Go.Sx
set_option maxRecDepth 100000
set_option maxHeartbeats 1000000
section
variable {b:Bd} {k j:Nat} {o:Ob} {ts:List Tg}
variable (hk:b.objs[k]?=some o)
include hk
end
end Go.Proofs.YtdhobpmnkfmcfaaGreatDoor
namespace Go.Proofs.YtdhobpmnkfmcfaaGreatDoor
open Go Go.Sx
set_option maxRecDepth 100000
set_option maxHeartbeats 1000000
theorem Vn {b:Bd} (hv:ar b=true) {k:Nat} {o:Ob} (e1:b.objs[k]?=some o) (z:Int) (hz:z=0∨z=1∨z=2∨z=3):fG b o.id z=(Rm b k (cw o z) z,0):=by
 have e3:=(dr (aS hv).1 e1).2.2.1
 have hE0:bm b o.id=0:=by
  have:¬ fM b o.id < 0:=by omega
  simp [bm,hv,this]
 have hEne:(bm b o.id != 0)=false:=by rw [hE0];rfl
 have hfo:=qW hEne e1 e3
 have emr:Rm b k (cw o z) z=gz b k (cw o z) z:=by
  show oD (eB (NM b o.id) k _) o.owner z o.id=oD (eB (oG b o.id) k _) o.owner z o.id
  rw [T8 hv]
 have hzw:au z 0 3=true:=by simp only [au,decide_eq_true_eq];omega
 rw [fG,if_neg (by rw [hE0,hzw];decide),if_neg (by rw [hEne];simp),hfo,e3,emr];rfl
theorem Jv {H:Heap} {v:dG} {b:Bd} (h:BdS H v b) (hv:ar b=true) (hB:bdB b) {k:Nat} {o:Ob} (hk:b.objs[k]?=some o) (z:Int) (hz:z=0∨z=1∨z=2∨z=3) :
  Triple PP jB [.agg (ao v b).toArray,iV o.id,iV z] H [] fun r H' O'=>(∃ w,r=.agg (ao w (fG b o.id z).1).toArray∧BdS H' w (fG b o.id z).1)∧O'=[]:=by
 rw [Vn hv hk z hz]
 obtain ⟨_,_,e3,hown⟩:=dr (aS hv).1 hk
 exact Vj h hB hk e3 hown z
end Go.Proofs.YtdhobpmnkfmcfaaGreatDoor
namespace Go.Proofs.YtdhobpmnkfmcfaaGreatDoor
open Go Go.Sx
set_option maxRecDepth 100000
set_option maxHeartbeats 1000000
structure Ac where
 (what id:Int)
 x:It
 t:Tg
def Ww (a:Ac) (s:Value):List Value:=[iV a.what,iV a.id,iV a.x.player,iV a.x.id,iV a.x.card,iV a.x.trig,s,iV a.t.id,iV a.t.player]
def ActsS (H:Heap) (v:Value) (l:List Ac):Prop:=∃ rows,Sl H 9 v rows∧rows.length=l.length∧∀ (i:Nat) (r:List Value) (a:Ac),rows[i]?=some r→l[i]?=some a→i64 a.id∧∃ s,r=Ww a s∧Sl H 2 s (cF a.x.tgs)
theorem ActsS.le {H H':Heap} {v:Value} {l:List Ac} (h:ActsS H v l) (hl:Heap.le H H'):ActsS H' v l :=
 let ⟨rows,h1,h2,h3⟩:=h;⟨rows,h1.le hl,h2,fun i r x a b=>let ⟨k0,s,e,k⟩:=h3 i r x a b;⟨k0,s,e,k.le hl⟩⟩
theorem ActsS.len {H:Heap} {v:Value} {l:List Ac} (h:ActsS H v l):ak .len [v]=some (iV l.length):=by
 obtain ⟨rows,h1,h2,_⟩:=h
 rw [← h2];exact h1.len
theorem ActsS.one {H:Heap} {v:Value} {l:List Ac} (h:ActsS H v l):v.oneCell'=true:=by
 obtain ⟨rows,h1,_⟩:=h
 exact h1.one
section
variable {H:Heap} {cv:Value} {cs:List CdX} (hk:CardsX H cv cs) (hli:eQ (cs.map CdX.base)=true) {v u:dG} {b:Bd} (h:BdS H v b) (hu:BdS H u b) (hv:ar b=true) (hB:bdB b) (hfit:Kq b)
 {r1 r2 r3 r4 r5 r6 r7 r8:Nat} {l0 l1 l2:List Value} {n m:Nat} (q0:g l0 0=cv) (q1:ag (G38 l0 1)=.agg (ao v b).toArray) (q2:ag (G38 l1 0)=.agg (ao u b).toArray)
include hk hli h hu hv hB hfit q0 q1 q2
end
section
variable {H:Heap} {v u:dG} {b:Bd} (h:BdS H v b) (hu:BdS H u b) (hv:ar b=true) (hB:bdB b)
 {r1 r2 r3 r4 r5 r6 r7 r8:Nat} {l0 l1:List Value} {n:Nat} (q1:ag (G38 l0 1)=.agg (ao v b).toArray) (q2:ag (G38 l1 0)=.agg (ao u b).toArray)
include h hu hv hB q1 q2
end
end Go.Proofs.YtdhobpmnkfmcfaaGreatDoor
namespace Go.Proofs.YtdhobpmnkfmcfaaGreatDoor
open Go Go.Sx
set_option maxRecDepth 100000
set_option maxHeartbeats 1000000
end Go.Proofs.YtdhobpmnkfmcfaaGreatDoor
namespace Go.Proofs.YtdhobpmnkfmcfaaGreatDoor
open Go Go.Sx
set_option maxRecDepth 100000
set_option maxHeartbeats 1000000
section
variable {b:Bd} (hv:ar b=true) {n:Nat} (hsz:szB n b)
include hv hsz
end
end Go.Proofs.YtdhobpmnkfmcfaaGreatDoor
namespace Go.Proofs.YtdhobpmnkfmcfaaGreatDoor
open Go Go.Sx
set_option maxRecDepth 100000
set_option maxHeartbeats 1000000
theorem Uj (x y:Int):ak .min2 [iV x,iV y]=some (iV (min x y)):=by
 simp only [ak];congr 2;omega
theorem Dk (x y:Int):ak .max2 [iV x,iV y]=some (iV (max x y)):=by
 simp only [ak];congr 2;omega
theorem zl {x y:Int} (h1:-9223372036854775808≤x + y) (h2:x + y < 9223372036854775808):ak (.bin .add .int) [iV x,iV y]=some (iV (x + y)):=by
 simp only [ak,fh,eE,if_true]
 rw [gC (by omega) (by omega)]
def QO (p:Int):Int:=max 0 (min p 99)
theorem NA {H:Heap} {O:Own} {p:Int} (h0:0≤p) (hp:p < 9223372036854775808):RetO PP zC [iV 0,iV p] H O (iV p):=by
 refine zL (vs:=[iV 0,iV p]) (by kernel_rfl) ⟨rfl,rfl,trivial⟩ ?_
 simp only [u6]
 refine aa _ (zl (by omega) (by omega)) (aa _ (bN _ _) ?_)
 refine ae ?_
 refine aa _ (bN _ _) ?_
 refine ae ?_
 refine aa _ (aU _ _) ?_
 refine ae ?_
 refine aa _ (eY _ _) ?_
 refine ae ?_
 refine aa _ (aU _ _) (aj (fun hb=>by simp at hb) (fun _=>?_))
 refine aa _ (aI _ _) ?_
 refine ae ?_
 refine aa _ (aI _ _) ?_
 refine ae ?_
 refine aa _ (aU _ _) ?_
 refine ae ?_
 refine aa _ (dt _ _) ?_
 refine ae ?_
 refine aa _ (aU _ _) (aj (fun hb=>by simp at hb) (fun _=>?_))
 exact ah ⟨by rw [Int.zero_add],rfl⟩
theorem J5 {H:Heap} {O:Own} (p m:Int):RetO PP Em [iV p,iV m] H O (iV (max 0 (min p m))):=by
 refine Gi (vs:=[iV p,iV m]) (by kernel_rfl) ⟨rfl,rfl,trivial⟩ ?_
 simp only [ww]
 exact aa _ (Uj _ _) (aa _ (Dk _ _) (ah ⟨rfl,rfl⟩))
theorem Qi {H:Heap} {O:Own} {p:Int} (h0:0≤p) (hp:p < 9223372036854775808):RetO PP En [iV 0,iV p,iV 99] H O (iV (QO p)):=by
 refine BX (vs:=[iV 0,iV p,iV 99]) (by kernel_rfl) ⟨rfl,rfl,rfl,trivial⟩ ?_
 simp only [yh]
 exact ai (NA h0 hp) rfl ⟨rfl,trivial⟩ fun _ _=>ai (J5 p 99) rfl ⟨rfl,trivial⟩ fun _ _=>ah ⟨rfl,rfl⟩
theorem S9 {H:Heap} {O:Own} {p:Int} (hp:p < 9223372036854775808):RetO PP rU [iV 0,iV p] H O (iV (QO p)):=by
 refine tI (vs:=[iV 0,iV p]) (by kernel_rfl) ⟨rfl,rfl,trivial⟩ ?_
 simp only [mR]
 refine aa _ (Dk _ _) (aa _ (Dk _ _) ?_)
 rw [show max (0:Int) 0=0 by omega]
 refine ai (Qi (p:=max 0 p) (by omega) (by omega)) rfl ⟨rfl,trivial⟩ fun _ _=>ah ⟨?_,rfl⟩
 show iV _=iV _
 congr 1;simp only [QO];omega
def EA (id p pw tn:Int) (sick:Bool):Ob:={ zO with id:=id,card:=-1,owner:=p,power:=QO pw,tough:=QO tn,sick:=sick }
theorem EO {H:Heap} {O:Own} {id p pw tn:Int} (h1:pw < 9223372036854775808) (h2:tn < 9223372036854775808):RetO PP vN [iV id,iV p,iV pw,iV tn] H O (.agg (EA id p pw tn false).row.toArray):=by
 refine AE (vs:=[iV id,iV p,iV pw,iV tn]) (by kernel_rfl) ⟨rfl,rfl,rfl,rfl,trivial⟩ ?_
 simp only [o5]
 refine af fun r0=>ai (S9 h1) rfl ⟨rfl,trivial⟩ fun _ _=>ai (S9 h2) rfl ⟨rfl,trivial⟩ fun _ _=>?_
 refine ab (ab ?_)
 exact ah ⟨rfl,rfl⟩
end Go.Proofs.YtdhobpmnkfmcfaaGreatDoor
namespace Go.Proofs.YtdhobpmnkfmcfaaGreatDoor
open Go Go.Sx
set_option maxRecDepth 100000
set_option maxHeartbeats 1000000
theorem U6:∀ k:Nat,k < 64→(bruijn.drop (2 ^ k * 285870213051353865 % 2 ^ 64 / 2 ^ 58)).take 1=[(k:Int)]:=by decide +kernel
theorem Wh (a b:Nat):ak (.bin .mul .int) [uV a,uV b]=some (uV (a * b % 2 ^ 64)):=by
 show some (Value.int .u64 (IntKind.u64.wrap ((a:Int) * b)))=_
 congr 2
theorem V6 (a:Nat):ak (.bin .shr .int) [uV a,uV 58]=some (uV (a / 2 ^ 58)):=by
 show some (Value.int .u64 ((a:Int).fdiv (2 ^ 58)))=_
 congr 2
 rw [Int.fdiv_eq_ediv_of_nonneg _ (by omega)]
 omega
theorem W0 {H:Heap} (hgl:GlobOk Dz H) (O:Own) {x k m:Nat} (hx:x < 2 ^ 64) (hk:k < 64) (e:x=2 ^ k * (2 * m + 1)):RetO PP dY [uV x] H O (iV k):=by
 have hp:=Nat.two_pow_pos k
 have h0:0 < x:=by rw [e];exact Nat.mul_pos hp (by omega)
 have hpk:2 ^ k < 2 ^ 64:=Nat.pow_lt_pow_right (by omega) hk
 have t2:=U6 k hk
 have t1:=Wh (2 ^ k) 285870213051353865
 refine fF (vs:=[uV x]) (by kernel_rfl) ⟨rfl,trivial⟩ ?_
 simp only [cL]
 refine aa _ (Vu x 0) (aj (fun hb=>?_) (fun _=>?_))
 ·have:x=0:=by simpa using hb
  omega
 ·refine aa _ (Wg hx h0) (aa _ (VK hx (by omega)) ?_)
  rw [Up hx e]
  generalize hM:2 ^ k * 285870213051353865 % 2 ^ 64=M at t1 t2
  have hM64:M < 2 ^ 64:=by rw [← hM];exact Nat.mod_lt _ (by omega)
  have hi:M / 2 ^ 58 < 64:=by omega
  refine aa _ t1 (aa _ (V6 M) ?_)
  have hpi:ak (.pidx 64 1) [.pointer (some ⟨0,0,none⟩),uV (M / 2 ^ 58)]=some (.pointer (some ⟨0,M / 2 ^ 58,none⟩)):=by
   show (if (0:Int)≤((M / 2 ^ 58:Nat):Int)∧((M / 2 ^ 58:Nat):Int) < (64:Nat) then some (Value.pointer (some (Addr.add ⟨0,0,none⟩ (((M / 2 ^ 58:Nat):Int).toNat * 1)))) else none)=_
   rw [if_pos ⟨by omega,by omega⟩,Int.toNat_natCast,Nat.mul_one,Addr.add]
   by_cases h:M / 2 ^ 58=0
   ·rw [if_pos h,h]
   ·rw [if_neg h];simp
  have hrd:H.read (.pointer (some ⟨0,M / 2 ^ 58,none⟩)) 1=some [Value.int .u8 k]:=by
   have:=(hgl 0 (bruijn.map fun n=>Value.int .u8 n) rfl).2 (M / 2 ^ 58) 1 (by rw [List.length_map];show _≤64;omega)
   rw [this,← List.map_drop,← List.map_take,t2];rfl
  refine aa _ hpi (cY hrd rfl ⟨rfl,trivial⟩ (aa (iV k) ?_ (ah ⟨rfl,rfl⟩)))
  show some (Value.int .i64 (IntKind.i64.wrap (k:Int)))=_
  rw [gC (by omega) (by omega)]
theorem Wj {H:Heap} (O:Own):RetO PP dY [uV 0] H O (iV 64):=by
 refine fF (vs:=[uV 0]) (by kernel_rfl) ⟨rfl,trivial⟩ ?_
 simp only [cL]
 exact aa _ (Vu 0 0) (aj (fun _=>ah ⟨rfl,rfl⟩) (fun hb=>by simp at hb))
def Ez (ws:List Nat):List (List Value):=ws.map fun w=>[uV w]
def VM (p:Value) (ws:List Nat) (O:Own):Prop :=
 ∃ r s A,p=.pointer (some ⟨r,0,none⟩)∧O=(r,.cells #[iV 500,s] bg (0,0))::A∧OSl ye 1 s (Ez ws) A
theorem yb {r:Nat} {s:Value} {A:Own} {H:Heap}:Reads H ((r,.cells #[iV 500,s] bg (0,0))::A) (.pointer (some ⟨r,0,none⟩)) 1 [iV 500] :=
 .inr ⟨⟨r,0,none⟩,_,_,rfl,rfl,List.mem_cons_self,rfl,rfl⟩
theorem D3 {r:Nat} {s:Value} {A:Own} {H:Heap}:Reads H ((r,.cells #[iV 500,s] bg (0,0))::A) (be (.pointer (some ⟨r,0,none⟩)) 1) 1 [s] :=
 .inr ⟨⟨r,1,none⟩,_,_,rfl,rfl,List.mem_cons_self,rfl,rfl⟩
theorem RP {H:Heap}:Triple PP Eo [iV 500] H [] fun v H' O'=>∃ p,v=.tuple #[p,iV 0]∧VM p (List.replicate 8 0) O':=by
 refine Gj (vs:=[iV 500]) (by kernel_rfl) ⟨rfl,trivial⟩ ?_
 simp only [wJ]
 refine aa _ (aI _ _) (ae (aa _ (aI _ _) (ae (aa _ (aI _ _) ?_))))
 refine aj (fun hb=>by simp at hb) (fun _=>?_)
 refine aa (iV 564) (by kernel_rfl) ?_
 refine aa (iV 563) (by kernel_rfl) ?_
 refine aa (iV (8:Nat)) (by kernel_rfl) ?_
 refine Rr (n:=8) (elem:=ye) (z:=uV 0) (by kernel_rfl) (by kernel_rfl) (by kernel_rfl) (by kernel_rfl) rfl (by omega) fun s A hs=>?_
 refine af fun r0=>?_
 exact fun _=>⟨H,_,Ghost.refl _ _,_,rfl,r0,s,A,rfl,by simp [BV.obj,g],hs⟩
theorem S8 {H:Heap} {r:Nat} {s:Value} {A:Own} (hs:s.oneCell'=true):RetO PP sf [.pointer (some ⟨r,0,none⟩)] H ((r,.cells #[iV 500,s] bg (0,0))::A) (.bool false):=by
 refine xg (vs:=[.pointer (some ⟨r,0,none⟩)]) (by kernel_rfl) ⟨rfl,trivial⟩ ?_
 simp only [lX]
 refine aa (.bool false) rfl ?_
 refine aK rfl (ae (aK rfl (ae (ae ?_))))
 refine ⟨[iV 500],rfl,⟨rfl,trivial⟩,fun _=>yb,?_⟩
 refine ae (aa _ (aC _ _) (ae (aa _ (aC _ _) ?_)))
 exact ah ⟨rfl,rfl⟩
end Go.Proofs.YtdhobpmnkfmcfaaGreatDoor
namespace Go.Proofs.YtdhobpmnkfmcfaaGreatDoor
open Go Go.Sx
set_option maxRecDepth 100000
set_option maxHeartbeats 1000000
theorem Jj {x y:Int} (h1:-9223372036854775808≤x - y) (h2:x - y < 9223372036854775808):ak (.bin .sub .int) [iV x,iV y]=some (iV (x - y)):=by
 simp only [ak,fh,eE,if_true]
 rw [gC (by omega) (by omega)]
abbrev idV (q r:Nat):Value:=iV (((64 * q + r:Nat):Int) + 1)
theorem SZ {q r:Nat} (hq:q < 8) (hr:r < 64):ak (.bin .sub .int) [idV q r,iV 1]=some (iV ((64 * q + r:Nat):Int)):=by
 rw [Jj (by omega) (by omega)]
 congr 2;omega
theorem Vr {q r:Nat} (hq:q < 8) (hr:r < 64):ak (.bin .quo .int) [iV ((64 * q + r:Nat):Int),iV 64]=some (iV (q:Int)):=by
 show some (Value.int .i64 (IntKind.i64.wrap (((64 * q + r) / 64:Nat):Int)))=_
 rw [gC (by omega) (by omega),show (64 * q + r) / 64=q by omega]
theorem Vq {q r:Nat} (hr:r < 64):ak (.bin .rem .int) [iV ((64 * q + r:Nat):Int),iV 64]=some (iV (r:Int)):=by
 show some (Value.int .i64 (((64 * q + r) % 64:Nat):Int))=_
 rw [show (64 * q + r) % 64=r by omega]
theorem wU {ws:List Nat} {q:Nat} (h:q < ws.length):(Ez ws)[q]?=some [uV ws[q]]:=by simp [Ez,h]
theorem NR (ws:List Nat) (q w:Nat):(Ez ws).set q [uV w]=Ez (ws.set q w):=by simp [Ez,List.map_set]
theorem Wm {H:Heap} {r0:Nat} {s:Value} {A:Own} {ws:List Nat} (hs:OSl ye 1 s (Ez ws) A) (hl:ws.length=8) {q r:Nat} (hq:q < 8) (hr:r < 64) {a:Addr} (ha:ak (.idx 1) [s,iV (q:Int)]=some (.pointer (some a))) :
  RetO PP uL [.pointer (some ⟨r0,0,none⟩),idV q r] H ((r0,.cells #[iV 500,s] bg (0,0))::A) (.tuple #[.pointer (some a),uV (2 ^ r)]):=by
 refine yP (vs:=[.pointer (some ⟨r0,0,none⟩),idV q r]) (by kernel_rfl) ⟨rfl,rfl,trivial⟩ ?_
 simp only [nE]
 refine aK rfl (aK rfl ?_)
 refine ⟨[s],rfl,⟨hs.one,trivial⟩,fun _=>D3,?_⟩
 refine aa _ (SZ hq hr) ?_
 refine aa _ (Vr hq hr) ?_
 refine aa _ ha ?_
 refine aa _ (SZ hq hr) ?_
 refine aa _ (Vq hr) ?_
 refine aa _ (V7 hr) ?_
 exact ah ⟨rfl,rfl⟩
theorem UO {H:Heap} {r0:Nat} {s:Value} {A:Own} {ws:List Nat} (hs:OSl ye 1 s (Ez ws) A) (hl:ws.length=8) {q r:Nat} (hq:q < 8) (hr:r < 64) (h5:64 * q + r < 500) {a:Addr} (ha:ak (.idx 1) [s,iV (q:Int)]=some (.pointer (some a))) :
  RetO PP qp [.pointer (some ⟨r0,0,none⟩),idV q r] H ((r0,.cells #[iV 500,s] bg (0,0))::A) (.tuple #[.pointer (some a),uV (2 ^ r),iV 0]):=by
 refine vY (vs:=[.pointer (some ⟨r0,0,none⟩),idV q r]) (by kernel_rfl) ⟨rfl,rfl,trivial⟩ ?_
 simp only [lj]
 refine ai (S8 hs.one) rfl ⟨rfl,trivial⟩ fun H1 l1=>?_
 refine aj (fun hb=>by cases hb) (fun _=>?_)
 refine aa _ (aI _ _) ?_
 refine aK rfl (ae (aK rfl (ae (ae ?_))))
 refine ⟨[iV 500],rfl,⟨rfl,trivial⟩,fun _=>yb,?_⟩
 refine ae (ae ?_)
 refine aa _ (bN _ _) ?_
 refine ae ?_
 refine aa _ (aP _ _) ?_
 refine aj (fun hb=>?_) (fun _=>?_)
 ·simp at hb;omega
 ·refine ai (Wm hs hl hq hr ha) rfl ⟨rfl,rfl,trivial⟩ fun H2 l2=>?_
  exact ah ⟨rfl,rfl⟩
theorem T9 {w r:Nat} (h:w.testBit r=true):w ||| 2 ^ r=w:=by
 refine Nat.eq_of_testBit_eq fun j=>?_
 rw [Nat.testBit_or,Nat.testBit_two_pow]
 by_cases e:r=j
 ·subst e;rw [h];rfl
 ·rw [decide_eq_false e,Bool.or_false]
theorem UW {w r:Nat}:(w &&& 2 ^ r != 0)=w.testBit r:=by
 have e:w &&& 2 ^ r=if w.testBit r then 2 ^ r else 0:=by
  refine Nat.eq_of_testBit_eq fun j=>?_
  rw [Nat.testBit_and,Nat.testBit_two_pow]
  by_cases e:r=j
  ·subst e;cases w.testBit r <;> simp
  ·rw [decide_eq_false e,Bool.and_false];split
   ·rw [Nat.testBit_two_pow,decide_eq_false e]
   ·simp
 rw [e]
 have:=Nat.two_pow_pos r
 cases w.testBit r <;> simp
def DV (ws:List Nat) (q r:Nat):List Nat:=ws.set q (ws.getD q 0 ||| 2 ^ r)
theorem UT {H:Heap} {p:Value} {O:Own} {ws:List Nat} (h:VM p ws O) (hl:ws.length=8) (hw:∀ w ∈ ws,w < 2 ^ 64) {q r:Nat} (hr:r < 64) (h5:64 * q + r < 500) :
  Triple PP qq [p,idV q r] H O fun v H' O'=>(∃ e,v=iV e)∧VM p (DV ws q r) O':=by
 obtain ⟨r0,s,A,rfl,rfl,hs⟩:=h
 have hq:q < 8:=by omega
 have hql:q < ws.length:=by omega
 have hwq:=hw _ (List.getElem_mem hql)
 have hgd:ws.getD q 0=ws[q]:=by rw [List.getD_eq_getElem?_getD,List.getElem?_eq_getElem hql];rfl
 obtain ⟨a,ha,hst⟩:=hs.store (O:=(r0,.cells #[iV 500,s] bg (0,0))::A) (O2:=[(r0,.cells #[iV 500,s] bg (0,0))]) (by simpa using List.perm_append_comm (l₁:=[(r0,Obj.cells #[iV 500,s] bg (0,0))]) (l₂:=A)) (k:=.i64) (wU hql)
 obtain ⟨a',ha',_,hrd,_⟩:=hs.idx (O:=(r0,.cells #[iV 500,s] bg (0,0))::A) (fun p hp=>List.mem_cons_of_mem _ hp) H (k:=.i64) (wU hql)
 obtain rfl:a'=a:=by rw [ha] at ha';simpa using ha'.symm
 have hrd:∀ H',Reads H' ((r0,.cells #[iV 500,s] bg (0,0))::A) (.pointer (some a')) 1 [uV ws[q]]:=fun H'=>by
  obtain ⟨a2,h2,_,h3,_⟩:=hs.idx (O:=(r0,.cells #[iV 500,s] bg (0,0))::A) (fun p hp=>List.mem_cons_of_mem _ hp) H' (k:=.i64) (wU hql)
  obtain rfl:a2=a':=by rw [h2] at ha;simpa using ha
  exact h3
 refine vZ (vs:=[.pointer (some ⟨r0,0,none⟩),idV q r]) (by kernel_rfl) ⟨rfl,rfl,trivial⟩ ?_
 simp only [lk]
 refine ai (UO hs hl hq hr h5 ha) rfl ⟨rfl,rfl,rfl,trivial⟩ fun H1 l1=>?_
 refine aa _ (ba _ _) ?_
 refine aj (fun hb=>by cases hb) (fun _=>?_)
 refine aK rfl ?_
 refine ⟨[uV ws[q]],rfl,⟨rfl,trivial⟩,fun _=>hrd H1,?_⟩
 have hp2:2 ^ r < 2 ^ 64:=Nat.pow_lt_pow_right (by omega) hr
 refine aa _ (VK hwq hp2) ?_
 refine aa _ (Ug _ 0) ?_
 refine aj (fun hb=>?_) (fun _=>?_)
 ·rw [UW] at hb
  refine ah ⟨⟨11,rfl⟩,r0,s,A,rfl,rfl,?_⟩
  rw [DV,hgd,T9 hb,List.set_getElem_self]
  exact hs
 ·refine aK rfl ?_
  refine ⟨[uV ws[q]],rfl,⟨rfl,trivial⟩,fun _=>hrd H1,?_⟩
  refine aa _ (WH hwq hp2) ?_
  refine aK rfl (aK rfl ?_)
  obtain ⟨O1,hs1,hs2⟩:=hst 0 [uV (ws[q] ||| 2 ^ r)] (Nat.le_refl _) ⟨rfl,trivial⟩
  refine ⟨_,hs1,?_⟩
  refine fun _=>⟨_,_,Ghost.perm (List.perm_append_comm (l₁:=O1) (l₂:=[(r0,Obj.cells #[iV 500,s] bg (0,0))])),⟨0,rfl⟩,r0,s,O1,rfl,rfl,?_⟩
  rw [DV,hgd,← NR]
  exact hs2
theorem Qe {ws:List Nat} {q r:Nat} (hr:r < 64) (hw:∀ w ∈ ws,w < 2 ^ 64):∀ w ∈ DV ws q r,w < 2 ^ 64:=by
 intro w h
 rcases List.mem_or_eq_of_mem_set h with h | rfl
 ·exact hw w h
 ·refine Nat.or_lt_two_pow ?_ (Nat.pow_lt_pow_right (by omega) hr)
  rw [List.getD_eq_getElem?_getD]
  cases e:ws[q]? with
  | none=>simp
  | some x=>exact hw x (List.mem_of_getElem? e)
end Go.Proofs.YtdhobpmnkfmcfaaGreatDoor
namespace Go.Proofs.YtdhobpmnkfmcfaaGreatDoor
open Go Go.Sx
set_option maxRecDepth 100000
set_option maxHeartbeats 1000000
structure BitsOk (ws:List Nat) (inS:Nat→Bool):Prop where
 len:ws.length=8
 lt:∀ w ∈ ws,w < 2 ^ 64
 bit:∀ q r,q < 8→r < 64→(ws.getD q 0).testBit r=inS (64 * q + r)
theorem Ss:BitsOk (List.replicate 8 0) fun _=>false where
 len:=rfl
 lt:=fun w h=>by rw [List.eq_of_mem_replicate h];omega
 bit:=fun q r hq _=>by
  rw [List.getD_eq_getElem?_getD,List.getElem?_replicate,if_pos hq];simp
theorem BitsOk.claim {ws:List Nat} {inS:Nat→Bool} (h:BitsOk ws inS) {q r:Nat} (hq:q < 8) (hr:r < 64):BitsOk (DV ws q r) fun m=>inS m || m == 64 * q + r where
 len:=by rw [DV,List.length_set];exact h.len
 lt:=Qe hr h.lt
 bit:=fun q' r' hq' hr'=>by
  have hl:=h.len
  rw [DV,List.getD_eq_getElem?_getD,List.getElem?_set]
  by_cases e:q=q'
  ·subst e
   rw [if_pos rfl,if_pos (by omega),Option.getD_some,Nat.testBit_or,Nat.testBit_two_pow,h.bit q r' hq hr']
   congr 1
   rw [Bool.eq_iff_iff];simp;omega
  ·rw [if_neg e,← List.getD_eq_getElem?_getD,h.bit q' r' hq' hr']
   have:(64 * q' + r' == 64 * q + r)=false:=by simp;omega
   rw [this,Bool.or_false]
def Wx (inS:Nat→Bool) (v:Value):Prop :=
 (∃ m:Nat,m < 500∧inS m=false∧(∀ j,j < m→inS j=true)∧v=.tuple #[iV ((m:Int) + 1),iV 0])∨((∀ m,m < 500→inS m=true)∧v=.tuple #[iV 0,iV 7])
theorem Ui {x y:Int} (h1:-9223372036854775808≤x * y) (h2:x * y < 9223372036854775808):ak (.bin .mul .int) [iV x,iV y]=some (iV (x * y)):=by
 simp only [ak,fh,eE,if_true]
 rw [gC (by omega) (by omega)]
theorem Qd {w j:Nat} (hj:j < 64):(2 ^ 64 - 1 ^^^ w).testBit j=!w.testBit j:=by
 rw [Nat.testBit_xor,Nat.testBit_two_pow_sub_one,decide_eq_true hj];cases w.testBit j <;> rfl
theorem VD {H:Heap} (hgl:GlobOk Dz H) {p:Value} {O:Own} {ws:List Nat} {inS:Nat→Bool} (h:VM p ws O) (hb:BitsOk ws inS) :
  Triple PP sg [p] H O fun v _ _=>Wx inS v:=by
 obtain ⟨r0,s,A,rfl,rfl,hs⟩:=h
 have hl:=hb.len
 have hlen:ak .len [s]=some (iV (8:Nat)):=by have:=hs.len;rwa [Ez,List.length_map,hl] at this
 refine xh (vs:=[.pointer (some ⟨r0,0,none⟩)]) (by kernel_rfl) ⟨rfl,trivial⟩ ?_
 simp only [lY]
 refine ai (S8 hs.one) rfl ⟨rfl,trivial⟩ fun H1 l1=>?_
 refine aj (fun hb=>by cases hb) (fun _=>?_)
 refine aK rfl (aK rfl ?_)
 refine ⟨[s],rfl,⟨hs.one,trivial⟩,fun _=>D3,?_⟩
 refine aa _ hlen ?_
 refine aX 8 (fun i H' O'=>Heap.le H H'∧O'=(r0,.cells #[iV 500,s] bg (0,0))::A∧∀ m,m < 64 * i→m < 500→inS m=true) ⟨l1,rfl,fun m h=>absurd h (by omega)⟩ ?_
 rintro i H' O' hi - ⟨hle,rfl,hall⟩
 refine aa _ (aI _ _) ?_
 refine aj (fun hlt=>?_) (fun hlt=>?_)
 ·have hi8:i < 8:=by simp at hlt;omega
  have hil:i < ws.length:=by omega
  have hwi:=hb.lt _ (List.getElem_mem hil)
  have hgd:ws.getD i 0=ws[i]:=by rw [List.getD_eq_getElem?_getD,List.getElem?_eq_getElem hil];rfl
  have hbit:=hb.bit i
  rw [hgd] at hbit
  generalize hwd:ws[i]=w at hwi hbit hgd
  have hget:(Ez ws)[i]?=some [uV w]:=by rw [wU hil,hwd]
  obtain ⟨a,ha,_⟩:=hs.idx (O:=(r0,.cells #[iV 500,s] bg (0,0))::A) (fun p hp=>List.mem_cons_of_mem _ hp) H' (k:=.i64) hget
  have hrd:∀ H',Reads H' ((r0,.cells #[iV 500,s] bg (0,0))::A) (.pointer (some a)) 1 [uV w]:=fun H'=>by
   obtain ⟨a2,h2,_,h3,_⟩:=hs.idx (O:=(r0,.cells #[iV 500,s] bg (0,0))::A) (fun p hp=>List.mem_cons_of_mem _ hp) H' (k:=.i64) hget
   obtain rfl:a2=a:=by rw [h2] at ha;simpa using ha
   exact h3
  refine aa _ ha ?_
  refine aw (hrd H') rfl ⟨rfl,trivial⟩ ?_
  refine aa _ (Ui (by omega) (by omega)) ?_
  refine aa _ (JX hwi) ?_
  have hcl:2 ^ 64 - 1 ^^^ w < 2 ^ 64:=Nat.xor_lt_two_pow (by omega) hwi
  have hcb:=fun j (hj:j < 64)=>Qd (w:=w) hj
  generalize hcd:2 ^ 64 - 1 ^^^ w=c at hcl hcb
  rcases Nat.eq_zero_or_pos c with h0 | h0
  ·subst h0
   have hfull:∀ m,m < 64 * (i + 1)→m < 500→inS m=true:=fun m hm h5=>by
    rcases Nat.lt_or_ge m (64 * i) with h | h
    ·exact hall m h h5
    ·have:=hcb (m - 64 * i) (by omega)
     rw [Nat.zero_testBit] at this
     have h2:=hbit (m - 64 * i) hi8 (by omega)
     rw [show 64 * i + (m - 64 * i)=m by omega] at h2
     rw [← h2];simpa using this.symm
   refine ai (Wj _) rfl ⟨rfl,trivial⟩ fun H2 l2=>?_
   refine aa _ (zl (by omega) (by omega)) ?_
   refine aa _ (zl (by omega) (by omega)) ?_
   refine aa _ (JX hwi) ?_
   rw [hcd]
   refine aa _ (Ug 0 0) ?_
   refine aK rfl (ae (aK rfl (ae (ae ?_))))
   refine ⟨[iV 500],rfl,⟨rfl,trivial⟩,fun _=>yb,?_⟩
   refine ae (ae ?_)
   refine aa _ (eY _ _) ?_
   refine ae ?_
   refine aa _ (aU _ _) ?_
   refine aj (fun hb=>by simp at hb) (fun _=>?_)
   exact aa _ (aA (by omega)) (aR (by simp [Eqs]) hi8 ⟨Heap.le_trans hle l2,rfl,hfull⟩)
  ·obtain ⟨k,m',hk,e⟩:=Pg h0 hcl
   have hlow:∀ m,m < 64 * i + k→m < 500→inS m=true:=fun m hm h5=>by
    rcases Nat.lt_or_ge m (64 * i) with h | h
    ·exact hall m h h5
    ·have:=hcb (m - 64 * i) (by omega)
     rw [Uo e (by omega)] at this
     have h2:=hbit (m - 64 * i) hi8 (by omega)
     rw [show 64 * i + (m - 64 * i)=m by omega] at h2
     rw [← h2];simpa using this.symm
   have hkf:inS (64 * i + k)=false:=by
    have:=hcb k hk
    rw [Vo e] at this
    rw [← hbit k hi8 hk];simpa using this.symm
   refine ai (W0 (hgl.le hle) _ hcl hk e) rfl ⟨rfl,trivial⟩ fun H2 l2=>?_
   refine aa _ (zl (by omega) (by omega)) ?_
   refine aa _ (zl (by omega) (by omega)) ?_
   refine aa _ (JX hwi) ?_
   rw [hcd]
   refine aa _ (Ug c 0) ?_
   refine aK rfl (ae (aK rfl (ae (ae ?_))))
   refine ⟨[iV 500],rfl,⟨rfl,trivial⟩,fun _=>yb,?_⟩
   refine ae (ae ?_)
   refine aa _ (eY _ _) ?_
   refine ae ?_
   refine aa _ (aU _ _) ?_
   refine aj (fun hy=>?_) (fun hn=>?_)
   ·have h5:64 * i + k < 500:=by simp at hy;omega
    refine aK rfl (aK rfl ?_)
    refine ⟨[s],rfl,⟨hs.one,trivial⟩,fun _=>D3,?_⟩
    refine aa _ ha ?_
    refine aw (hrd H2) rfl ⟨rfl,trivial⟩ ?_
    have hw1:w + 1 < 2 ^ 64:=by
     refine Nat.lt_of_le_of_ne (by omega) fun ew=>?_
     have hwm:w=2 ^ 64 - 1:=by omega
     rw [hwm,Nat.xor_self] at hcd
     omega
    refine aa _ (Wv (b:=1) hw1) ?_
    refine aa _ (WH hwi hw1) ?_
    refine aa _ ha ?_
    refine aK rfl ?_
    obtain ⟨a3,ha3,hst⟩:=hs.store (O:=(r0,.cells #[iV 500,s] bg (0,0))::A) (O2:=[(r0,.cells #[iV 500,s] bg (0,0))]) (by simpa using List.perm_append_comm (l₁:=[(r0,Obj.cells #[iV 500,s] bg (0,0))]) (l₂:=A)) (k:=.i64) hget
    obtain rfl:a3=a:=by rw [ha3] at ha;simpa using ha
    obtain ⟨O1,hs1,_⟩:=hst 0 [uV (w ||| (w + 1))] (Nat.le_refl _) ⟨rfl,trivial⟩
    refine ⟨_,hs1,?_⟩
    refine ah (.inl ⟨64 * i + k,h5,hkf,fun j hj=>hlow j hj (by omega),?_⟩)
    show Value.tuple #[iV _,iV 0]=_
    congr 3
   ·have hne:(c != 0)=true:=by simp;omega
    rw [hne,Bool.true_and] at hn
    have h5:500≤64 * i + k:=by simp at hn;omega
    refine aa _ (aA (by omega)) (aR (by simp [Eqs]) hi8 ⟨Heap.le_trans hle l2,rfl,fun m _ hm5=>hlow m (by omega) hm5⟩)
 ·have hi8:i=8:=by simp at hlt;omega
  subst hi8
  exact ah (.inr ⟨fun m hm=>hall m (by omega) hm,rfl⟩)
end Go.Proofs.YtdhobpmnkfmcfaaGreatDoor
namespace Go.Sx
open Go
set_option maxRecDepth 100000
set_option maxHeartbeats 1000000
theorem Qf {P:Program} {op:PrimOp} {args:List Value} {H:Heap} {O O2 Y:Own} {r:Nat} {cs cs':List Value} {e:TypeId} {v:Value} {shp:Shp} {K:List Value→List (List Value)→Heap→Own→Prop} {vs:List Value}
  (hO:O.Perm ([(r,.cells cs.toArray e (0,0))]++(Y++O2))) (hrun:∀ w F,Models w H ([(r,.cells cs.toArray e (0,0))]++(Y++F))→(op.sem args).run P w=.ok (.value v) (w.setRow r cs'.toArray)) (ho:shp.open v=some vs) (h1:Ones vs)
  (hk:K vs [] H ([(r,.cells cs'.toArray e (0,0))]++(Y++O2))):dZ (fun H1 O1 R=>bY P (op.sem args) H1 O1 R) false [] [] shp K H O:=by
 intro _
 refine ⟨H,[(r,.cells cs.toArray e (0,0))]++Y,O2,fun v' H' O'=>v'=v∧H'=H∧O'=[(r,.cells cs'.toArray e (0,0))]++Y,Ghost.perm (by simpa using hO),fun w F hm=>⟨v,w.setRow r cs'.toArray,H,_,hrun w F (by simpa using hm),⟨rfl,rfl,rfl⟩,Heap.le_refl H,?_⟩,?_⟩
 ·have:=yZ (vs:=cs) (vs':=cs') (O:=Y++F) (by simpa using hm)
  simpa using this
 ·rintro v' H' O' ⟨rfl,rfl,rfl⟩ _
  exact ⟨vs,[],_,ho,h1,trivial,rfl,by simpa using hk⟩
theorem Ny {P:Program} {t t2 ty e:TypeId} {i:TypeInfo} (ht:P.underlying t=some (.slice e)) (hi:P.info? e=some i) {H:Heap} {O O2 Y:Own} {r off dLen dCap m k:Nat} {cs src:List Value} {x:Value} {K:List Value→List (List Value)→Heap→Own→Prop}
  (hO:O.Perm ([(r,.cells cs.toArray e (0,0))]++(Y++O2))) (hl:∀ w':World,(Builtin.lenOf x).run P w'=.ok m w') (hk:k=min m dLen)
  (hcells:∀ w F,Models w H ([(r,.cells cs.toArray e (0,0))]++(Y++F))→(Builtin.firstCells i.size k x).run P w=.ok src.toArray w) (hfit:off + src.length≤cs.length) (h1:∀ v ∈ src,v.oneCell'=true)
  (hK:K [iV (k:Int)] [] H ([(r,.cells (cs.take off++src++cs.drop (off + src.length)).toArray e (0,0))]++(Y++O2))) :
  dZ (fun H1 O1 R=>bY P ((PrimOp.bi .copy #[t,t2] ty).sem [.slice (some ⟨r,off,none⟩) dLen dCap,x]) H1 O1 R) false [] [] .one K H O:=by
 refine Qf (r:=r) (cs:=cs) (e:=e) (O2:=O2) (Y:=Y) (cs':=cs.take off++src++cs.drop (off + src.length)) hO (v:=iV (k:Int)) (fun w F hm=>?_) rfl ⟨rfl,trivial⟩ hK
 have hrow:=(hm.own (r,.cells cs.toArray e (0,0)) (by simp)).1
 have:=B7 (P:=P) (t:=t) (t2:=t2) (ty:=ty) ht hi (w:=w) (off:=off) (dLen:=dLen) (dCap:=dCap) hrow hl hk (hcells w F hm) hfit h1
 simp only [PrimOp.sem,builtin]
 rw [Sem.run_bind,this]
 rfl
theorem Qh {P:Program} {t tn ty e:TypeId} {i:TypeInfo} {z:Value} {kn:IntKind} (ht:P.underlying t=some (.slice e)) (htn:P.underlying tn=some (.int kn)) (hi:P.info? e=some i) (hz:i.zero=some z) (hzs:z.cells.size=i.size) (hz1:∀ u ∈ z.cells.toList,u.oneCell'=true) (hs0:0 < i.size) (hby:i.bytes≤1000)
  {H:Heap} {O O2:Own} {r n cap m:Nat} {cs:List Value} {K:List Value→List (List Value)→Heap→Own→Prop} (hO:O.Perm ([(r,.cells cs.toArray e (0,0))]++O2)) (hfit:n * i.size≤cs.length) (h0:0 < m) (hg:cap < n + m) (hb:n + m≤2000000)
  (hK:∀ r2 c2 zs,zs.length=(c2 - n) * i.size→n + m≤c2→c2 < 2 ^ 63→(∀ u ∈ zs,Value.oneCell' u=true)→K [.slice (some ⟨r2,0,none⟩) (n + m) c2] [] H ([(r2,.cells (cs.take (n * i.size)++zs).toArray e (0,0))]++([(r,.cells cs.toArray e (0,0))]++O2))) :
  dZ (fun H1 O1 R=>bY P ((PrimOp.bi .append #[t,tn] ty).sem [.slice (some ⟨r,0,none⟩) n cap,iV (m:Int)]) H1 O1 R) false [] [] .one K H O:=by
 intro _
 refine ⟨H,[(r,.cells cs.toArray e (0,0))],O2,fun v' H' O'=>H'=H∧∃ r2 c2 zs,v'=.slice (some ⟨r2,0,none⟩) (n + m) c2∧zs.length=(c2 - n) * i.size∧n + m≤c2∧c2 < 2 ^ 63∧(∀ u ∈ zs,Value.oneCell' u=true)∧O'=[(r2,.cells (cs.take (n * i.size)++zs).toArray e (0,0))]++[(r,.cells cs.toArray e (0,0))],Ghost.perm hO,fun w F hm=>?_,?_⟩
 ·have hm':Models w.drew H ([(r,.cells cs.toArray e (0,0))]++F):=Models.same (w:=w) (by simpa using hm) rfl rfl
  have hold:(Builtin.firstCells i.size n (.slice (some ⟨r,0,none⟩) n cap)).run P w.drew=.ok (cs.take (n * i.size)).toArray w.drew:=by
   have:=DF (P:=P) hm' (size:=i.size) (k:=n) (off:=0) (n:=n) (cap:=cap) (by omega)
   rwa [List.drop_zero] at this
  have hns:Builtin.nextslicecap (n + m) cap * i.bytes≤281474976710656:=by
   have h1:=nextslicecap_le hg
   have h2:Builtin.nextslicecap (n + m) cap * i.bytes≤(2 * (n + m)) * 1000:=Nat.mul_le_mul h1 hby
   omega
  have hkb:m * i.bytes≤281474976710656:=by
   have h2:m * i.bytes≤2000000 * 1000:=Nat.mul_le_mul (by omega) hby
   omega
  have hrun:=Go.Lib.run_append_grow_zeros (P:=P) w t tn ty e i z .i64 kn ht htn hi hz (some ⟨r,0,none⟩) n cap (cs.take (n * i.size)) hold m h0 hs0 hg (by omega) hkb hns
  generalize hc2:grownCap w (n + m) cap e=c2 at hrun
  have hge:n + m≤c2:=by rw [← hc2];exact grownCap_ge _ _ _ _
  have hle:c2≤maxLen:=by rw [← hc2];exact grownCap_le_maxLen _ _ _ _ (by simp only [maxLen];omega)
  have hp:=hm'.push (.cells ((cs.take (n * i.size)).toArray++Builtin.zeroCells z.cells m++Builtin.zeroCells z.cells (c2 - (n + m))) e (0,0))
  have hzl:((Builtin.zeroCells z.cells m).toList++(Builtin.zeroCells z.cells (c2 - (n + m))).toList).length=(c2 - n) * i.size:=by
   rw [List.length_append,Array.length_toList,Array.length_toList,size_zeroCells,size_zeroCells,hzs,← Nat.add_mul]
   congr 1;omega
  have hcells:(cs.take (n * i.size)).toArray++Builtin.zeroCells z.cells m++Builtin.zeroCells z.cells (c2 - (n + m))=(cs.take (n * i.size)++((Builtin.zeroCells z.cells m).toList++(Builtin.zeroCells z.cells (c2 - (n + m))).toList)).toArray:=by
   apply Array.ext'
   simp
  rw [hcells] at hrun hp
  refine ⟨_,w.drew.alloc (.cells (cs.take (n * i.size)++((Builtin.zeroCells z.cells m).toList++(Builtin.zeroCells z.cells (c2 - (n + m))).toList)).toArray e (0,0)),H,_,?_,⟨rfl,w.heap.size,c2,_,rfl,hzl,hge,by simp only [maxLen] at hle;omega,?_,rfl⟩,Heap.le_refl H,?_⟩
  ·simp only [PrimOp.sem,builtin]
   rw [Sem.run_bind,hrun]
   rfl
  ·intro u hu
   rcases List.mem_append.1 hu with hu | hu
   ·exact BM hz1 u hu
   ·exact BM hz1 u hu
  ·exact hp
 ·rintro v' H' O' ⟨rfl,r2,c2,zs,rfl,hl,h1,h2,h3,rfl⟩ _
  exact ⟨[.slice (some ⟨r2,0,none⟩) (n + m) c2],[],_,rfl,⟨rfl,trivial⟩,trivial,rfl,by simpa using hK r2 c2 zs hl h1 h2 h3⟩
end Go.Sx
