/- A copy of a board: the reference's. -/
import Derived.Test.YtdhobpmnkfmcfaaGreatDoorC8
import Derived.Test.YtdhobpmnkfmcfaaGreatDoorFw2
import Derived.Test.YtdhobpmnkfmcfaaGreatDoorC1
import Derived.Test.YtdhobpmnkfmcfaaGreatDoorFw2
import Derived.Test.YtdhobpmnkfmcfaaGreatDoorFw2
import Derived.Lib.Overlaps
import Derived.Lib.AppendZerosOnto
namespace Go.Proofs.YtdhobpmnkfmcfaaGreatDoor
open Go Go.Sx
set_option maxRecDepth 100000
set_option maxHeartbeats 1000000
theorem dV {P:Program} {t ty e:TypeId} {size bytes:Nat} (ha:Jk P t e size bytes=true) {x:Value} {news:List (List Value)} {O:Own} {H:Heap} {K:List Value→List (List Value)→Heap→Own→Prop}
  (h:Sl H size x news) (hb:news.length * bytes≤140737488355328) (h63:news.length < 2 ^ 63) (hk:∀ v' O1' H',Heap.le H H'→OSl e size v' news O1'→K [v'] [] H' (O1'++O)) :
  dZ (fun H1 O1 R=>bW P ((PrimOp.bi .append #[t,t] ty).sem [.slice none 0 0,x]) H1 O1 R) false [] [] .one K H O :=
 aC (rows:=[]) (O1:=[]) (O2:=O) ha (List.Perm.refl _) (OSl.nil e size) (fun _ hl _=>h.le hl) (by simpa using hb) (by simpa using h63) fun v' O1' H' hl ho=>hk v' O1' H' hl (by simpa using ho)
theorem KZ {H:Heap} {v:Value} {l:List It} (h:ItsS H v l) (hB:Wu l):Triple PP lJ [v] H [] fun v' H' O'=>OItsS aA bc v' l O':=by
 have hone:=ItsR.one (h.r [])
 have hlen:=ItsR.len (h.r [])
 obtain⟨rows,hs,hrl,hit⟩:=h
 refine qZ (vs:=[v]) (by kernel_rfl) ⟨hone,trivial⟩ ?_
 simp only[lw]
 refine de l.length (fun i x H' O'=>Heap.le H H'∧∃ rows' A Ts,O'.Perm (A++List.flatten Ts)∧OSl bc 5 x rows' A∧rows'.length=i∧Ts.length=i ∧
  (∀ (j:Nat) (r:List Value) (x:It) (T:Own),rows'[j]?=some r→l[j]?=some x→Ts[j]?=some T→∃ s,r=[iV x.player,iV x.id,iV x.card,iV x.trig,s]∧OSl aA 2 s (x.tgs.map Tg.row) T))
  ⟨Heap.le_refl _,[],[],[],by simp,OSl.nil _ _,rfl,rfl,fun j r x T h=>by simp at h⟩ ?_
 rintro i x H' O' hi - ⟨hle,rows',A,Ts,hp,hA,hrl',htl,hspec⟩
 refine ab _ hlen (ab _ (aB _ _) (ai (fun hb=>?_) (fun hb=>?_)))
 ·have hlt:i < l.length:=by simpa using hb
  obtain⟨s,hrow,hst⟩:=hit i rows[i] l[i] (List.getElem?_eq_getElem (by omega)) (List.getElem?_eq_getElem hlt)
  obtain⟨a,h1,h2,h3,h4⟩:=(hs.le hle).idx (k:=.i64) (i:=i) (List.getElem?_eq_getElem (by omega))
  rw[hrow] at h2 h3 h4
  refine ab _ h1 (cG h2 h3 h4 (af fun r0=>aa (aa ?_)))
  have hb6:=hB.2 _ (List.getElem_mem hlt)
  refine dV (e:=aA) (size:=2) (bytes:=16) (by kernel_rfl) (hst.le hle) (by simp;omega) (by simp;omega) fun s' T H2 l2 hT=>?_
  refine aa (aa (af fun r1=>?_))
  refine aC (rows:=rows') (news:=[[iV l[i].player,iV l[i].id,iV l[i].card,iV l[i].trig,s']]) (O1:=A) (O2:=T++List.flatten Ts) (e:=bc) (size:=5) (bytes:=56) (by kernel_rfl) ((hp.append_left T).trans (List.perm_append_comm_assoc _ _ _)) hA
   (fun Hf _ hf=>Sl.block1 (hf _ List.mem_cons_self) rfl ⟨rfl,rfl,rfl,rfl,hT.one,trivial⟩) ?_ ?_ ?_
  ·have:=hB.1;simp;omega
  ·have:=hB.1;simp;omega
  intro v' A' H3 l3 hA'
  refine ab _ (az (by have:=hB.1;omega)) (aS (by simp[Eqs]) hlt ⟨Heap.le_trans hle (Heap.le_trans l2 l3),_,A',Ts++[T],?_,hA',by simp[hrl'],by simp[htl],?_⟩)
  ·refine List.Perm.append_left A' ?_
   rw[List.flatten_append]
   simpa using List.perm_append_comm
  ·intro j r x T' q1 q2 q3
   by_cases hj:j=i
   ·subst hj
    rw[List.getElem?_append_right (by omega),hrl',Nat.sub_self] at q1
    rw[List.getElem?_eq_getElem hlt] at q2
    rw[List.getElem?_append_right (by omega),htl,Nat.sub_self] at q3
    simp only[Option.some.injEq,List.getElem?_cons_zero] at q1 q2 q3
    subst q1;subst q2;subst q3
    exact⟨s',rfl,hT⟩
   ·have hjlt:j < Ts.length:=by
     have:=(List.getElem?_eq_some_iff.1 q3).1
     simp at this;omega
    rw[List.getElem?_append_left hjlt] at q3
    rw[List.getElem?_append_left (by omega)] at q1
    exact hspec j r x T' q1 q2 q3
 ·have hie:i=l.length:=by
   have:¬ ((i:Int) < (l.length:Int)):=by simpa using hb
   omega
  subst hie
  exact ah ⟨rows',A,Ts,hp,hA,hrl',htl,hspec⟩
theorem JC {H:Heap} {v:cn} {b:Bd} (h:BdS H v b) (hB:bdB b):Triple PP jc [.agg (al v b).toArray] H [] fun r H' O'=>∃ w,r=.agg (al w b).toArray∧OwnBS tys w b O':=by
 refine tD (vs:=al v b) (by kernel_rfl) (am (h.r [])) ?_
 simp only[oo]
 obtain⟨b1,⟨b2,b3,b4,b5⟩,⟨b6,b7,b8,b9⟩,b10,b11,b12,b13⟩:=hB
 refine af fun r0=>?_
 refine af fun _=>aa ?_
 refine dV (e:=aH) (size:=12) (bytes:=80) (by kernel_rfl) h.objs (by simp[aE];omega) (by simp[aE];omega) fun xo Oo H1 l1 po=>?_
 replace h:=h.le l1
 refine aa (aa ?_)
 refine dV (e:=aK) (size:=1) (bytes:=8) (by kernel_rfl) h.s0.lib (by simp[aE];omega) (by simp[aE];omega) fun x1 A0 H1 l1 p1=>?_
 replace h:=h.le l1
 refine aa (aa ?_)
 refine dV (e:=aK) (size:=1) (bytes:=8) (by kernel_rfl) h.s0.hand (by simp[aE];omega) (by simp[aE];omega) fun x2 B0 H1 l1 p2=>?_
 replace h:=h.le l1
 refine aa (aa ?_)
 refine dV (e:=aK) (size:=1) (bytes:=8) (by kernel_rfl) h.s0.field (by simp[aE];omega) (by simp[aE];omega) fun x3 C0 H1 l1 p3=>?_
 replace h:=h.le l1
 refine aa (aa ?_)
 refine dV (e:=aK) (size:=1) (bytes:=8) (by kernel_rfl) h.s0.grave (by simp[aE];omega) (by simp[aE];omega) fun x4 D0 H1 l1 p4=>?_
 replace h:=h.le l1
 refine aa (aa ?_)
 refine dV (e:=aK) (size:=1) (bytes:=8) (by kernel_rfl) h.s1.lib (by simp[aE];omega) (by simp[aE];omega) fun x5 A1 H1 l1 p5=>?_
 replace h:=h.le l1
 refine aa (aa ?_)
 refine dV (e:=aK) (size:=1) (bytes:=8) (by kernel_rfl) h.s1.hand (by simp[aE];omega) (by simp[aE];omega) fun x6 B1 H1 l1 p6=>?_
 replace h:=h.le l1
 refine aa (aa ?_)
 refine dV (e:=aK) (size:=1) (bytes:=8) (by kernel_rfl) h.s1.field (by simp[aE];omega) (by simp[aE];omega) fun x7 C1 H1 l1 p7=>?_
 replace h:=h.le l1
 refine aa (aa ?_)
 refine dV (e:=aK) (size:=1) (bytes:=8) (by kernel_rfl) h.s1.grave (by simp[aE];omega) (by simp[aE];omega) fun x8 D1 H1 l1 p8=>?_
 replace h:=h.le l1
 refine aa (aa (aa ?_))
 refine ar (KZ h.stack b10) fun xs H1 Os ps l1=>⟨_,rfl,⟨OItsS.one ps,trivial⟩,?_⟩
 replace h:=h.le l1
 refine ar (KZ h.queue b11) fun xq H1 Oq pq l1=>⟨_,rfl,⟨OItsS.one pq,trivial⟩,?_⟩
 replace h:=h.le l1
 refine aa (aa (aa ?_))
 refine dV (e:=aK) (size:=1) (bytes:=8) (by kernel_rfl) h.att (by simp[aE];omega) (by simp[aE];omega) fun xa Oa H1 l1 pa=>?_
 replace h:=h.le l1
 refine aa (aa ?_)
 refine dV (e:=bj) (size:=2) (bytes:=16) (by kernel_rfl) h.blocks (by simp[aE];omega) (by simp[aE];omega) fun xb Obk H1 l1 pb=>?_
 replace h:=h.le l1
 refine aa (aa (aa (aa ?_)))
 refine ah ⟨⟨xo,x1,x2,x3,x4,x5,x6,x7,x8,xs,xq,xa,xb⟩,rfl,Os,Oo++(A0++(B0++(C0++(D0++(A1++(B1++(C1++(D1++(Oq++(Oa++Obk)))))))))),?_,ps,fun v' l' A' h'=>⟨Oo,A0,B0,C0,D0,A1,B1,C1,D1,A',Oq,Oa,Obk,?_,⟨po,p1,p2,p3,p4,p5,p6,p7,p8,h',pq.weak,pa,pb⟩⟩⟩
 ·refine aX fun a _ _=>?_
  simp only[List.count_append,List.count_nil]
  omega
 ·refine aX fun a _ _=>?_
  simp only[List.count_append]
  omega
theorem EW {H:Heap} {v:cn} {b:Bd} (h:BdS H v b) (hB:bdB b):Triple PP jc [.agg (al v b).toArray] H [] fun r H' O'=>∃ w,r=.agg (al w b).toArray∧OwnB tys w b O' :=
 Triple.mono (JC h hB) fun _ _ _ _ ⟨w,e,h⟩=>⟨w,e,OwnBS.weak h⟩
theorem Fv (n:Int):ak (.bin .add .int) [iV n,iV 1]=some (iV (IntKind.i64.wrap (n + 1))):=rfl
theorem NQ (a:Addr):aO (.pointer (some a)) 0=.pointer (some a):=by simp[aO,Addr.add]
theorem jd {lab key:Nat} {v:Value} {l:List Int} {A R O:Own} {H:Heap} {Q:Value→Heap→Own→Prop} {eqs:List (List Value × List Value)} {k:Tree} (h:OSl aK 1 v (aE l) A) (hp:O.Perm (A++R)) (he:Eqs eqs)
  (hk:∀ H' O' A',Heap.le H H'→O'.Perm (A'++R)→k.den PP Q H' O') :
  (Tree.loop lab key [(.int .i64 0)] fun C l1 =>
   .pure [] .len [v] fun v2 =>
   .pure [] (.bin .lss .int) [(g l1 0),v2] fun v3 =>
   .br v3 (
    .pure [] (.idx 1) [v,(g l1 0)] fun v4 =>
    .load [] v4 1 fun l5 =>
    .pure [] (.bin .add .int) [(g l5 0),(.int .i64 1)] fun v6 =>
    .pure [] (.idx 1) [v,(g l1 0)] fun v7 =>
    .chk (.ptr [] v7)<|
    .store v7 [v6]<|
    .pure [] (.bin .add .int) [(g l1 0),(.int .i64 1)] fun v8 =>
    .cont lab C [v8] eqs) k).den PP Q H O:=by
 have hB:=h.lenB
 simp only[aE,List.length_map] at hB
 refine aQ l.length (fun i H' O'=>Heap.le H H'∧∃ (l':List Int) (A':Own),l'.length=l.length∧O'.Perm (A'++R)∧OSl aK 1 v (aE l') A') ⟨Heap.le_refl _,l,A,rfl,hp,h⟩ ?_
 rintro i H' O' hi - ⟨hle,l',A',hl',hp',hA⟩
 have hlen:=hA.len
 rw[aE,List.length_map,hl'] at hlen
 refine ab _ hlen (ab _ (aB _ _) (ai (fun hb=>?_) (fun hb=>hk H' O' A' hle hp')))
 have hlt:i < l.length:=by simpa using hb
 have hr:(aE l')[i]?=some [iV l'[i]]:=by simp[aE,hl',hlt]
 obtain⟨a,k1,_,k2,_⟩:=hA.idx (fun p h=>hp'.mem_iff.2 (List.mem_append_left _ h)) H' (k:=.i64) hr
 obtain⟨a2,j1,j2⟩:=hA.store hp' (k:=.i64) hr
 obtain⟨A2,hst,hA2⟩:=j2 0 [iV (IntKind.i64.wrap (l'[i] + 1))] (by simp) ⟨rfl,trivial⟩
 rw[NQ] at hst
 refine ab _ k1 (ap k2 rfl ⟨rfl,trivial⟩ (ab _ (Fv _) (ab _ j1 (aw rfl ⟨_,hst,?_⟩))))
 refine ab _ (az (by omega)) (aI he hlt ⟨hle,l'.set i (IntKind.i64.wrap (l'[i] + 1)),A2,by simp[hl'],List.Perm.refl _,?_⟩)
 have e:(aE l').set i (cj [iV l'[i]] 0 [iV (IntKind.i64.wrap (l'[i] + 1))])=aE (l'.set i (IntKind.i64.wrap (l'[i] + 1))):=by simp[aE,cj,List.map_set]
 rwa [e] at hA2
theorem ui:∀ {Ts:List Own} {i:Nat} (h:i < Ts.length),(List.flatten Ts).Perm (Ts[i]++List.flatten (Ts.eraseIdx i))∧∀ T,(List.flatten (Ts.set i T)).Perm (T++List.flatten (Ts.eraseIdx i))
 | [],_,h=>absurd h (Nat.not_lt_zero _)
 | a::r,0,_=>by simp
 | a::r,i + 1,h=>by
  have h':i < r.length:=by simpa using h
  obtain⟨h1,h2⟩:=ui h'
  refine⟨?_,fun T=>?_⟩
  ·simp only[List.flatten_cons,List.getElem_cons_succ,List.eraseIdx_cons_succ]
   exact (h1.append_left a).trans (List.perm_append_comm_assoc _ _ _)
  ·simp only[List.set_cons_succ,List.flatten_cons,List.eraseIdx_cons_succ]
   exact ((h2 T).append_left a).trans (List.perm_append_comm_assoc _ _ _)
theorem BU {lab key lab2 key2:Nat} {v:Value} {l:List It} {A R O:Own} {H:Heap} {Q:Value→Heap→Own→Prop} {eqs:List (List Value × List Value)} {eqs2:List Value→List (List Value × List Value)} {k:Tree} (h:OIts aA bc v l A) (hp:O.Perm (A++R)) (he:Eqs eqs) (he2:∀ x,Eqs (eqs2 x))
  (hk:∀ H' O' A',Heap.le H H'→O'.Perm (A'++R)→k.den PP Q H' O') :
  (Tree.loop lab key [(.int .i64 0)] fun C l1 =>
   .pure [] .len [v] fun v2 =>
   .pure [] (.bin .lss .int) [(g l1 0),v2] fun v3 =>
   .br v3 (
    .pure [] (.idx 5) [v,(g l1 0)] fun v77 =>
    .chk (.ptr [] v77)<|
    .load [] (aO v77 2) 1 fun l78 =>
    .pure [] (.bin .add .int) [(g l78 0),(.int .i64 1)] fun v79 =>
    .pure [] (.idx 5) [v,(g l1 0)] fun v80 =>
    .chk (.ptr [] v80)<|
    .chk (.ptr [] (aO v80 2))<|
    .store (aO v80 2) [v79]<|
    .loop lab2 key2 [(.int .i64 0)] fun C150 l81 =>
     .pure [] (.idx 5) [v,(g l1 0)] fun v82 =>
     .chk (.ptr [] v82)<|
     .load [] (aO v82 4) 1 fun l83 =>
     .pure [] .len [(g l83 0)] fun v84 =>
     .pure [] (.bin .lss .int) [(g l81 0),v84] fun v85 =>
     .br v85 (
      .pure [] (.idx 5) [v,(g l1 0)] fun v86 =>
      .chk (.ptr [] v86)<|
      .load [] (aO v86 4) 1 fun l87 =>
      .pure [] (.idx 2) [(g l87 0),(g l81 0)] fun v88 =>
      .chk (.ptr [] v88)<|
      .load [] v88 1 fun l89 =>
      .pure [] (.bin .add .int) [(g l89 0),(.int .i64 1)] fun v90 =>
      .pure [] (.idx 2) [(g l87 0),(g l81 0)] fun v91 =>
      .chk (.ptr [] v91)<|
      .chk (.ptr [] v91)<|
      .store v91 [v90]<|
      .pure [] (.bin .add .int) [(g l81 0),(.int .i64 1)] fun v92 =>
      .cont lab2 C150 [v92] (eqs2 l1)) (
      .pure [] (.bin .add .int) [(g l1 0),(.int .i64 1)] fun v93 =>
      .cont lab C [v93] eqs)) k).den PP Q H O:=by
 have hB:l.length < 2 ^ 63:=by
  obtain⟨rows,_,_,_,h1,h2,_⟩:=h
  rw[← h2];exact h1.lenB
 refine aQ l.length (fun i H' O'=>Heap.le H H'∧∃ (l':List It) (A':Own),l'.length=l.length∧O'.Perm (A'++R)∧OIts aA bc v l' A') ⟨Heap.le_refl _,l,A,rfl,hp,h⟩ ?_
 rintro i H' O' hi - ⟨hle,l',A',hl',hp',hA⟩
 have hlen:=ItsR.len (hA.r (fun p hp=>hp) H')
 rw[hl'] at hlen
 refine ab _ hlen (ab _ (aB _ _) (ai (fun hb=>?_) (fun hb=>hk H' O' A' hle hp')))
 have hlt:i < l.length:=by simpa using hb
 obtain⟨rows,B,Ts,hpB,hO,hrl,htl,hspec⟩:=hA
 have hp1:O'.Perm (B++(List.flatten Ts++R)):=hp'.trans ((hpB.append_right R).trans (List.Perm.of_eq (List.append_assoc _ _ _)))
 have hri:rows[i]?=some rows[i]:=List.getElem?_eq_getElem (by omega)
 obtain⟨s,hrow,hT⟩:=hspec i rows[i] l'[i] Ts[i] hri (List.getElem?_eq_getElem (by omega)) (List.getElem?_eq_getElem (by omega))
 obtain⟨a,k1,_,_,k3⟩:=hO.idx (fun p h=>hp1.mem_iff.2 (List.mem_append_left _ h)) H' (k:=.i64) hri
 have hr2:=k3 2 1 (by omega)
 rw[hrow] at hr2
 obtain⟨a2,j1,j2⟩:=hO.store hp1 (k:=.i64) hri
 obtain⟨B2,hst,hO2⟩:=j2 2 [iV (IntKind.i64.wrap (l'[i].card + 1))] (by simp) ⟨rfl,trivial⟩
 refine ab _ k1 (aw rfl (ap hr2 rfl ⟨rfl,trivial⟩ (ab _ (Fv _) (ab _ j1 (aw rfl (aw rfl ⟨_,hst,?_⟩))))))
 have hsp:cj rows[i] 2 [iV (IntKind.i64.wrap (l'[i].card + 1))]=[iV l'[i].player,iV l'[i].id,iV (IntKind.i64.wrap (l'[i].card + 1)),iV l'[i].trig,s]:=by rw[hrow];rfl
 rw[hsp] at hO2
 have tB:l'[i].tgs.length < 2 ^ 63:=by have:=hT.lenB;rwa [List.length_map] at this
 refine aQ l'[i].tgs.length (fun j H'' O''=>Heap.le H' H''∧∃ (l2:List It) (A2:Own),l2.length=l.length∧O''.Perm (A2++R)∧OIts aA bc v l2 A2∧(l2[i]?.map fun x=>x.tgs.length)=some l'[i].tgs.length) ?_ ?_
 ·refine⟨Heap.le_refl _,l'.set i { l'[i] with card:=IntKind.i64.wrap (l'[i].card + 1) },B2++List.flatten Ts,by simp[hl'],List.Perm.of_eq (List.append_assoc _ _ _).symm,⟨_,B2,Ts,List.Perm.refl _,hO2,by simp[hrl],by simp[htl],?_⟩,?_⟩
  ·intro j r x T h1 h2 h3
   by_cases hj:j=i
   ·subst hj
    rw[List.getElem?_set_self (by omega)] at h1 h2
    rw[List.getElem?_eq_getElem (by omega)] at h3
    simp only[Option.some.injEq] at h1 h2 h3
    subst h1;subst h2;subst h3
    exact⟨s,rfl,hT⟩
   ·rw[List.getElem?_set_ne (by omega)] at h1 h2
    exact hspec j r x T h1 h2 h3
  ·rw[List.getElem?_set_self (by omega)];rfl
 clear hO2 hst j1 j2 hr2 k3 k1 hspec hT hrow hri hO hpB hp1 hp'
 rintro j H2 O2 hj - ⟨hle2,l2,A2,hl2,hp2,⟨rows2,B3,Ts2,hpB,hO,hrl2,htl2,hspec⟩,htg⟩
 have hi2:l2[i]?=some l2[i]:=List.getElem?_eq_getElem (by omega)
 rw[hi2,Option.map_some,Option.some.injEq] at htg
 have hp1:O2.Perm (B3++(List.flatten Ts2++R)):=hp2.trans ((hpB.append_right R).trans (List.Perm.of_eq (List.append_assoc _ _ _)))
 have hri:rows2[i]?=some rows2[i]:=List.getElem?_eq_getElem (by omega)
 have hti:Ts2[i]?=some Ts2[i]:=List.getElem?_eq_getElem (by omega)
 obtain⟨s,hrow,hT⟩:=hspec i rows2[i] l2[i] Ts2[i] hri hi2 hti
 obtain⟨a,k1,_,_,k3⟩:=hO.idx (fun p h=>hp1.mem_iff.2 (List.mem_append_left _ h)) H2 (k:=.i64) hri
 have hr4:=k3 4 1 (by omega)
 rw[hrow] at hr4
 have tlen:=hT.len
 rw[List.length_map,htg] at tlen
 refine ab _ k1 (aw rfl (ap hr4 rfl ⟨hT.one,trivial⟩ (ab _ tlen (ab _ (aB _ _) (ai (fun hb=>?_) (fun hb=>?_))))))
 ·have hltj:j < l'[i].tgs.length:=by simpa using hb
  have hltj2:j < l2[i].tgs.length:=by omega
  obtain⟨hf1,hf2⟩:=ui (Ts:=Ts2) (i:=i) (by omega)
  have hp3:O2.Perm (Ts2[i]++(B3++(List.flatten (Ts2.eraseIdx i)++R))):=by
   refine hp1.trans (((hf1.append_right R).append_left B3).trans ?_)
   rw[List.append_assoc]
   exact List.perm_append_comm_assoc _ _ _
  have htr:(l2[i].tgs.map Tg.row)[j]?=some (Tg.row l2[i].tgs[j]):=by simp[hltj2]
  obtain⟨b,m1,_,_,m3⟩:=hT.idx (fun p h=>hp3.mem_iff.2 (List.mem_append_left _ h)) H2 (k:=.i64) htr
  have hr0:=m3 0 1 (by omega)
  rw[NQ] at hr0
  obtain⟨b2,n1,n2⟩:=hT.store hp3 (k:=.i64) htr
  obtain⟨T',hst,hT'⟩:=n2 0 [iV (IntKind.i64.wrap (l2[i].tgs[j].id + 1))] (by simp) ⟨rfl,trivial⟩
  rw[NQ] at hst
  refine ab _ k1 (aw rfl (ap hr4 rfl ⟨hT.one,trivial⟩ (ab _ m1 (aw rfl (ap hr0 rfl ⟨rfl,trivial⟩ (ab _ (Fv _) (ab _ n1 (aw rfl (aw rfl ⟨_,hst,?_⟩)))))))))
  have htgs:(l2[i].tgs.map Tg.row).set j (cj (Tg.row l2[i].tgs[j]) 0 [iV (IntKind.i64.wrap (l2[i].tgs[j].id + 1))])=(l2[i].tgs.set j { l2[i].tgs[j] with id:=IntKind.i64.wrap (l2[i].tgs[j].id + 1) }).map Tg.row:=by
   rw[List.map_set];rfl
  rw[htgs] at hT'
  refine ab _ (az (by omega)) (aI (he2 _) hltj ⟨hle2,l2.set i { l2[i] with tgs:=l2[i].tgs.set j { l2[i].tgs[j] with id:=IntKind.i64.wrap (l2[i].tgs[j].id + 1) } },B3++List.flatten (Ts2.set i T'),by simp[hl2],?_,⟨rows2,B3,Ts2.set i T',List.Perm.refl _,hO,by simp[hrl2],by simp[htl2],?_⟩,?_⟩)
  ·rw[List.append_assoc]
   refine List.Perm.trans (List.perm_append_comm_assoc _ _ _) (List.Perm.append_left B3 ?_)
   rw[← List.append_assoc]
   exact (hf2 T').symm.append_right R
  ·intro q r x T h1 h2 h3
   by_cases hq:q=i
   ·subst hq
    rw[List.getElem?_set_self (by omega)] at h2 h3
    rw[hri] at h1
    simp only[Option.some.injEq] at h1 h2 h3
    subst h1;subst h2;subst h3
    exact⟨s,hrow,hT'⟩
   ·rw[List.getElem?_set_ne (by omega)] at h2 h3
    exact hspec q r x T h1 h2 h3
  ·rw[List.getElem?_set_self (by omega)]
   simp[htg]
 ·refine ab _ (az (by omega)) (aI he hlt ⟨Heap.le_trans hle hle2,l2,A2,hl2,hp2,⟨rows2,B3,Ts2,hpB,hO,hrl2,htl2,hspec⟩⟩)
theorem aZ {w:cn} {b:Bd} {O:Own} (H:Heap) (h:OwnB tys w b O):Ones (al w b):=am (h.r (fun _ h=>h) H)
theorem Qw {H:Heap} {w:cn} {b:Bd} {O:Own} (h:OwnB tys w b O):Triple PP mP [.agg (al w b).toArray] H O fun r _ _=>r=.tuple #[]:=by
 refine sJ (vs:=al w b) (by kernel_rfl) (aZ H h) ?_
 simp only[mj]
 obtain⟨Oo,A0,B0,C0,D0,A1,B1,C1,D1,Os,Oq,Oa,Obk,hp,h⟩:=h
 refine af fun r0=>?_
 have hB:=h.objs.lenB
 rw[List.length_map] at hB
 refine aQ b.objs.length (fun i H' O'=>Heap.le H H'∧∃ (l':List Ob) (A':Own),l'.length=b.objs.length∧O'.Perm (A'++(A0++(B0++(C0++(D0++(A1++(B1++(C1++(D1++(Os++(Oq++(Oa++Obk))))))))))))∧OSl aH 12 w.o (l'.map Ob.row) A') ⟨Heap.le_refl _,b.objs,Oo,rfl,hp,h.objs⟩ ?_
 rintro i H' O' hi - ⟨hle,l',A',hl',hp',hA⟩
 have hlen:=hA.len
 rw[List.length_map,hl'] at hlen
 refine aa (ab _ hlen (ab _ (aB _ _) (ai (fun hb=>?_) (fun _=>?_))))
 ·have hlt:i < b.objs.length:=by simpa using hb
  have hr:(l'.map Ob.row)[i]?=some (Ob.row l'[i]):=by simp[hl',hlt]
  obtain⟨a,k1,_,_,k3⟩:=hA.idx (fun p h=>hp'.mem_iff.2 (List.mem_append_left _ h)) H' (k:=.i64) hr
  have hr5:=k3 5 1 (by omega)
  obtain⟨a2,j1,j2⟩:=hA.store hp' (k:=.i64) hr
  obtain⟨A2,hst,hA2⟩:=j2 5 [iV (IntKind.i64.wrap (l'[i].dmg + 1))] (by simp) ⟨rfl,trivial⟩
  refine aa (ab _ k1 (aw rfl (ap hr5 rfl ⟨rfl,trivial⟩ (ab _ (Fv _) (ab _ j1 (aw rfl (aw rfl ⟨_,hst,?_⟩)))))))
  refine ab _ (az (by omega)) (aI (by simp[Eqs]) hlt ⟨hle,l'.set i { l'[i] with dmg:=IntKind.i64.wrap (l'[i].dmg + 1) },A2,by simp[hl'],List.Perm.refl _,?_⟩)
  have e:(l'.map Ob.row).set i (cj (Ob.row l'[i]) 5 [iV (IntKind.i64.wrap (l'[i].dmg + 1))])=(l'.set i { l'[i] with dmg:=IntKind.i64.wrap (l'[i].dmg + 1) }).map Ob.row:=by rw[List.map_set];rfl
  rwa [e] at hA2
 clear hle hlen hi hA
 have mv:∀ {O X Y Z:Own},O.Perm (X++(Y++Z))→O.Perm (Y++(X++Z)):=fun h=>h.trans (List.perm_append_comm_assoc _ _ _)
 have asc:∀ {O X Y Z:Own},O.Perm (X++(Y++Z))→O.Perm ((X++Y)++Z):=fun h=>h.trans (List.Perm.of_eq (List.append_assoc _ _ _).symm)
 have ea:∀ {s:St} {v1 v2 v3 v4:Value} {X1 X2 X3 X4:Own},OSl aK 1 v1 (aE s.lib) X1→OSl aK 1 v2 (aE s.hand) X2→OSl aK 1 v3 (aE s.field) X3→OSl aK 1 v4 (aE s.grave) X4→v1.oneCell'=true∧v2.oneCell'=true∧v3.oneCell'=true∧v4.oneCell'=true:=fun a b c d=>⟨a.one,b.one,c.one,d.one⟩
 obtain⟨z1,z2,z3,z4⟩:=ea (s:=b.s0) h.l0 h.h0 h.f0 h.g0
 refine aa (aj (jt b.s0 z1 z2 z3 z4 _ _) rfl ⟨z1,z2,z3,z4,trivial⟩ fun HZ _=>?_)
 refine jd h.l0 (mv hp') (by simp[Eqs]) fun H1 O1 X1 _ p1=>?_
 replace p1:=asc p1
 refine jd h.h0 (mv p1) (by simp[Eqs]) fun H2 O2 X2 _ p2=>?_
 replace p2:=asc p2
 refine jd h.f0 (mv p2) (by simp[Eqs]) fun H3 O3 X3 _ p3=>?_
 replace p3:=asc p3
 refine jd h.g0 (mv p3) (by simp[Eqs]) fun H4 O4 X4 _ p4=>?_
 replace p4:=asc p4
 obtain⟨z1,z2,z3,z4⟩:=ea (s:=b.s1) h.l1 h.h1 h.f1 h.g1
 refine aa (aj (jt b.s1 z1 z2 z3 z4 _ _) rfl ⟨z1,z2,z3,z4,trivial⟩ fun HZ _=>?_)
 refine jd h.l1 (mv p4) (by simp[Eqs]) fun H5 O5 X5 _ p5=>?_
 replace p5:=asc p5
 refine jd h.h1 (mv p5) (by simp[Eqs]) fun H6 O6 X6 _ p6=>?_
 replace p6:=asc p6
 refine jd h.f1 (mv p6) (by simp[Eqs]) fun H7 O7 X7 _ p7=>?_
 replace p7:=asc p7
 refine jd h.g1 (mv p7) (by simp[Eqs]) fun H8 O8 X8 _ p8=>?_
 replace p8:=asc p8
 refine aa (aa ?_)
 refine af fun r1=>?_
 refine aa ?_
 refine BU h.stack (mv p8) (by simp[Eqs]) (by intro x;simp[Eqs]) fun H9 O9 X9 _ p9=>?_
 replace p9:=asc p9
 refine aa ?_
 refine BU h.queue (mv p9) (by simp[Eqs]) (by intro x;simp[Eqs]) fun H10 O10 X10 _ p10=>?_
 replace p10:=asc p10
 have hq:=mv p10
 have hBa:=h.att.lenB
 simp only[aE,List.length_map] at hBa
 generalize hR:(_++Obk:Own)=R at hq
 refine aQ b.att.length (fun i H' O'=>∃ (l':List Int) (A':Own),l'.length=b.att.length∧O'.Perm (A'++R)∧OSl aK 1 w.a (aE l') A') ⟨b.att,Oa,rfl,hq,h.att⟩ ?_
 rintro i H' O' hi - ⟨l',A',hl',hp',hA⟩
 have hlen:=hA.len
 rw[aE,List.length_map,hl'] at hlen
 refine aa (ab _ hlen (ab _ (aB _ _) (ai (fun hb=>?_) (fun _=>?_))))
 ·have hlt:i < b.att.length:=by simpa using hb
  have hr:(aE l')[i]?=some [iV l'[i]]:=by simp[aE,hl',hlt]
  obtain⟨a,k1,_,k2,_⟩:=hA.idx (fun p h=>hp'.mem_iff.2 (List.mem_append_left _ h)) H' (k:=.i64) hr
  obtain⟨a2,j1,j2⟩:=hA.store hp' (k:=.i64) hr
  obtain⟨A2,hst,hA2⟩:=j2 0 [iV (IntKind.i64.wrap (l'[i] + 1))] (by simp) ⟨rfl,trivial⟩
  rw[NQ] at hst
  refine aa (ab _ k1 (ap k2 rfl ⟨rfl,trivial⟩ (ab _ (Fv _) (ab _ j1 (aw rfl ⟨_,hst,?_⟩)))))
  refine ab _ (az (by omega)) (aI (by simp[Eqs]) hlt ⟨l'.set i (IntKind.i64.wrap (l'[i] + 1)),A2,by simp[hl'],List.Perm.refl _,?_⟩)
  have e:(aE l').set i (cj [iV l'[i]] 0 [iV (IntKind.i64.wrap (l'[i] + 1))])=aE (l'.set i (IntKind.i64.wrap (l'[i] + 1))):=by simp[aE,cj,List.map_set]
  rwa [e] at hA2
 subst hR
 have hq:=asc hp'
 have hq:=hq.trans List.perm_append_comm
 have hBb:=h.blocks.lenB
 rw[List.length_map] at hBb
 generalize hR:(A'++_:Own)=R at hq
 refine aQ b.blocks.length (fun i H' O'=>∃ (l':List Bl) (A':Own),l'.length=b.blocks.length∧O'.Perm (A'++R)∧OSl bj 2 w.b (l'.map Bl.row) A') ⟨b.blocks,Obk,rfl,hq,h.blocks⟩ ?_
 rintro i H2' O2' hi - ⟨l2,B2,hl2,hp2,hB2⟩
 have hlen:=hB2.len
 rw[List.length_map,hl2] at hlen
 refine aa (ab _ hlen (ab _ (aB _ _) (ai (fun hb=>?_) (fun _=>?_))))
 ·have hlt:i < b.blocks.length:=by simpa using hb
  have hr:(l2.map Bl.row)[i]?=some (Bl.row l2[i]):=by simp[hl2,hlt]
  obtain⟨a,k1,_,_,k3⟩:=hB2.idx (fun p h=>hp2.mem_iff.2 (List.mem_append_left _ h)) H2' (k:=.i64) hr
  have hr0:=k3 0 1 (by omega)
  rw[NQ] at hr0
  obtain⟨a2,j1,j2⟩:=hB2.store hp2 (k:=.i64) hr
  obtain⟨A2,hst,hA2⟩:=j2 0 [iV (IntKind.i64.wrap (l2[i].blocker + 1))] (by simp) ⟨rfl,trivial⟩
  rw[NQ] at hst
  refine aa (ab _ k1 (aw rfl (ap hr0 rfl ⟨rfl,trivial⟩ (ab _ (Fv _) (ab _ j1 (aw rfl (aw rfl ⟨_,hst,?_⟩)))))))
  refine ab _ (az (by omega)) (aI (by simp[Eqs]) hlt ⟨l2.set i { l2[i] with blocker:=IntKind.i64.wrap (l2[i].blocker + 1) },A2,by simp[hl2],List.Perm.refl _,?_⟩)
  have e:(l2.map Bl.row).set i (cj (Bl.row l2[i]) 0 [iV (IntKind.i64.wrap (l2[i].blocker + 1))])=(l2.set i { l2[i] with blocker:=IntKind.i64.wrap (l2[i].blocker + 1) }).map Bl.row:=by rw[List.map_set];rfl
  rwa [e] at hA2
 exact ah rfl
theorem Iz {α:Type} {f:α→List Value}:∀ {rows:List (List Value)},(∀ r ∈ rows,∃ x,r=f x)→∃ l:List α,rows=l.map f
 | [],_=>⟨[],rfl⟩
 | r::rs,h=>by
  obtain⟨l,hl⟩:=Iz (rows:=rs) fun x hx=>h x (by simp[hx])
  obtain⟨x,rfl⟩:=h r (by simp)
  exact⟨x::l,by rw[hl];rfl⟩
theorem HF {H:Heap} {size:Nat} {v:Value} {rows:List (List Value)} (h:Sl H size v rows) {r:List Value} (hr:r ∈ rows):r.length=size:=by
 obtain⟨i,hlt,rfl⟩:=List.getElem_of_mem hr
 obtain⟨_,_,_,h3,_⟩:=h.idx (k:=.i64) (List.getElem?_eq_getElem hlt)
 exact h3
theorem VV {r:List Value} {i:Nat} {c:Value} (h:r[i]?=some c):c=g r i:=by rw[Qh h]
theorem Sj:jk PP 5 aH=some [3,3,3,3,3,3,3,3,3,4,4,4]:=by kernel_rfl
theorem Si:jk PP 5 aA=some [3,3]:=by kernel_rfl
theorem Sm:jk PP 5 bj=some [3,3]:=by kernel_rfl
theorem ya:jk PP 5 bc=some [3,3,3,3,51]:=by kernel_rfl
theorem Sr:jk PP 6 34=some [23,3,3,3,3,3,26,26,26,26,4,4,4,3,3,3,3,3,3,3,26,26,26,26,4,4,4,3,3,30,30,26,31,3,3,32,3,3]:=by kernel_rfl
theorem bh {H:Heap} {c:Value} (h:Leaf PP H 3 c):∃ x,c=iV x:=let ⟨x,e,_⟩:=h.int Tryz.underlying3;⟨x,e⟩
theorem jB {H:Heap} {c:Value} (h:Leaf PP H 4 c):∃ x,c=.bool x:=h.bool Tryz.underlying4
theorem gX {H:Heap} {k:Nat} {t:TypeId} {ds:List Value} {ls:List TypeId} {n:Nat} (hl:jk PP n t=some ls) (hw:Wf PP H k t ds) (i:Nat) (l:TypeId) (hi:ls[i]?=some l):Leaf PP H l (g ds i):=by
 obtain⟨c,h1,h2⟩:=BD hl hw i l hi
 rw[← VV h1];exact h2
theorem Ui {H:Heap} {k:Nat} {r:List Value} (hw:Wf PP H k aH r) (hl:r.length=12):∃ o,r=Ob.row o:=by
 have a:=fun i l h=>gX Sj hw i l h
 obtain⟨x0,e0⟩:=bh (a 0 3 rfl)
 obtain⟨x1,e1⟩:=bh (a 1 3 rfl)
 obtain⟨x2,e2⟩:=bh (a 2 3 rfl)
 obtain⟨x3,e3⟩:=bh (a 3 3 rfl)
 obtain⟨x4,e4⟩:=bh (a 4 3 rfl)
 obtain⟨x5,e5⟩:=bh (a 5 3 rfl)
 obtain⟨x6,e6⟩:=bh (a 6 3 rfl)
 obtain⟨x7,e7⟩:=bh (a 7 3 rfl)
 obtain⟨x8,e8⟩:=bh (a 8 3 rfl)
 obtain⟨x9,e9⟩:=jB (a 9 4 rfl)
 obtain⟨x10,e10⟩:=jB (a 10 4 rfl)
 obtain⟨x11,e11⟩:=jB (a 11 4 rfl)
 match r,hl with
 | [_,_,_,_,_,_,_,_,_,_,_,_],_ =>
  refine⟨⟨x0,x1,x2,x3,x4,x5,x6,x7,x8,x9,x10,x11⟩,?_⟩
  simp only[g,List.getD_cons_zero,List.getD_cons_succ] at e0 e1 e2 e3 e4 e5 e6 e7 e8 e9 e10 e11
  rw[e0,e1,e2,e3,e4,e5,e6,e7,e8,e9,e10,e11];rfl
theorem KW {H:Heap} {k:Nat} {t:TypeId} (ht:jk PP 5 t=some [3,3]) {r:List Value} (hw:Wf PP H k t r) (hl:r.length=2):∃ x y:Int,r=[iV x,iV y]:=by
 obtain⟨x0,e0⟩:=bh (gX ht hw 0 3 rfl)
 obtain⟨x1,e1⟩:=bh (gX ht hw 1 3 rfl)
 match r,hl with
 | [_,_],_ =>
  refine⟨x0,x1,?_⟩
  simp only[g,List.getD_cons_zero,List.getD_cons_succ] at e0 e1
  rw[e0,e1]
theorem KX {H:Heap} {v:Value} (h:Leaf PP H 30 v):∃ l,ItsS H v l:=by
 obtain⟨rows,hs,n,hw⟩:=h.slice Tryz.underlying30
 have hc:PP.cellsOf 56=5:=by kernel_rfl
 rw[hc] at hs
 have key:∀ r ∈ rows,∃ (x:It) (s:Value),r=[iV x.player,iV x.id,iV x.card,iV x.trig,s]∧Sl H 2 s (x.tgs.map Tg.row):=by
  intro r hr
  have hl:=HF hs hr
  have hw:=hw r hr
  obtain⟨x0,e0⟩:=bh (gX ya hw 0 3 rfl)
  obtain⟨x1,e1⟩:=bh (gX ya hw 1 3 rfl)
  obtain⟨x2,e2⟩:=bh (gX ya hw 2 3 rfl)
  obtain⟨x3,e3⟩:=bh (gX ya hw 3 3 rfl)
  obtain⟨trows,ts,m,tw⟩:=(gX ya hw 4 51 rfl).slice Tryz.underlying51
  have hc2:PP.cellsOf 41=2:=by kernel_rfl
  rw[hc2] at ts
  obtain⟨tl,rfl⟩:=Iz (f:=Tg.row) (rows:=trows) fun r hr=>by
   obtain⟨x,y,e⟩:=KW Si (tw r hr) (HF ts hr)
   exact⟨⟨x,y⟩,e⟩
  match r,hl with
  | [_,_,_,_,s],_ =>
   refine⟨⟨x0,x1,x2,x3,tl⟩,s,?_,?_⟩
   ·simp only[g,List.getD_cons_zero,List.getD_cons_succ] at e0 e1 e2 e3
    rw[e0,e1,e2,e3]
   ·simpa [g] using ts
 have:∃ l:List It,rows.length=l.length∧∀ (i:Nat) (r:List Value) (x:It),rows[i]?=some r→l[i]?=some x→∃ s,r=[iV x.player,iV x.id,iV x.card,iV x.trig,s]∧Sl H 2 s (x.tgs.map Tg.row):=by
  clear hs hw
  induction rows with
  | nil=>exact⟨[],rfl,fun i r x h=>by simp at h⟩
  | cons r rs ih =>
   obtain⟨l,h1,h2⟩:=ih fun x hx=>key x (by simp[hx])
   obtain⟨x,s,h3,h4⟩:=key r (by simp)
   refine⟨x::l,by simp[h1],fun i r' x' e1 e2=>?_⟩
   cases i with
   | zero=>simp at e1 e2;subst e1;subst e2;exact⟨s,h3,h4⟩
   | succ i=>exact h2 i r' x' (by simpa using e1) (by simpa using e2)
 obtain⟨l,h1,h2⟩:=this
 exact⟨l,rows,hs,h1,h2⟩
theorem js {H:Heap} {v:Value} (h:Leaf PP H 26 v):∃ l,Sl H 1 v (aE l):=by
 obtain⟨rows,hs,n,hw⟩:=h.slice Tryz.underlying26
 have hc:PP.cellsOf 3=1:=by kernel_rfl
 rw[hc] at hs
 obtain⟨l,rfl⟩:=NW Tryz.underlying3 hw
 exact⟨l,hs⟩
theorem MI {H:Heap} {cs:List Value} (hlen:cs.length=38) (a:∀ i l,([23,3,3,3,3,3,26,26,26,26,4,4,4,3,3,3,3,3,3,3,26,26,26,26,4,4,4,3,3,30,30,26,31,3,3,32,3,3]:List TypeId)[i]?=some l→Leaf PP H l (g cs i)):∃ v b,cs=al v b∧BdS H v b:=by
 obtain⟨orows,os,on,ow⟩:=(a 0 23 rfl).slice Tryz.underlying23
 have hc:PP.cellsOf 82=12:=by kernel_rfl
 rw[hc] at os
 obtain⟨ol,rfl⟩:=Iz (f:=Ob.row) (rows:=orows) fun r hr=>Ui (ow r hr) (HF os hr)
 obtain⟨brows,bs,bn,bw⟩:=(a 32 31 rfl).slice Tryz.underlying31
 have hc2:PP.cellsOf 122=2:=by kernel_rfl
 rw[hc2] at bs
 obtain⟨bl,rfl⟩:=Iz (f:=Bl.row) (rows:=brows) fun r hr=>by
  obtain⟨x,y,e⟩:=KW Sm (bw r hr) (HF bs hr)
  exact⟨⟨x,y⟩,e⟩
 obtain⟨l0,hl0⟩:=js (a 6 26 rfl)
 obtain⟨h0,hh0⟩:=js (a 7 26 rfl)
 obtain⟨f0,hf0⟩:=js (a 8 26 rfl)
 obtain⟨g0,hg0⟩:=js (a 9 26 rfl)
 obtain⟨l1,hl1⟩:=js (a 20 26 rfl)
 obtain⟨h1,hh1⟩:=js (a 21 26 rfl)
 obtain⟨f1,hf1⟩:=js (a 22 26 rfl)
 obtain⟨g1,hg1⟩:=js (a 23 26 rfl)
 obtain⟨st,hst⟩:=KX (a 29 30 rfl)
 obtain⟨qu,hqu⟩:=KX (a 30 30 rfl)
 obtain⟨at_,hat⟩:=js (a 31 26 rfl)
 obtain⟨i1,e1⟩:=bh (a 1 3 rfl)
 obtain⟨i2,e2⟩:=bh (a 2 3 rfl)
 obtain⟨i3,e3⟩:=bh (a 3 3 rfl)
 obtain⟨i4,e4⟩:=bh (a 4 3 rfl)
 obtain⟨i5,e5⟩:=bh (a 5 3 rfl)
 obtain⟨i10,e10⟩:=jB (a 10 4 rfl)
 obtain⟨i11,e11⟩:=jB (a 11 4 rfl)
 obtain⟨i12,e12⟩:=jB (a 12 4 rfl)
 obtain⟨i13,e13⟩:=bh (a 13 3 rfl)
 obtain⟨i14,e14⟩:=bh (a 14 3 rfl)
 obtain⟨i15,e15⟩:=bh (a 15 3 rfl)
 obtain⟨i16,e16⟩:=bh (a 16 3 rfl)
 obtain⟨i17,e17⟩:=bh (a 17 3 rfl)
 obtain⟨i18,e18⟩:=bh (a 18 3 rfl)
 obtain⟨i19,e19⟩:=bh (a 19 3 rfl)
 obtain⟨i24,e24⟩:=jB (a 24 4 rfl)
 obtain⟨i25,e25⟩:=jB (a 25 4 rfl)
 obtain⟨i26,e26⟩:=jB (a 26 4 rfl)
 obtain⟨i27,e27⟩:=bh (a 27 3 rfl)
 obtain⟨i28,e28⟩:=bh (a 28 3 rfl)
 obtain⟨i33,e33⟩:=bh (a 33 3 rfl)
 obtain⟨i34,e34⟩:=bh (a 34 3 rfl)
 obtain⟨i35,e35,_⟩:=(a 35 32 rfl).int Tryz.underlying32
 obtain⟨i36,e36⟩:=bh (a 36 3 rfl)
 obtain⟨i37,e37⟩:=bh (a 37 3 rfl)
 refine⟨⟨g cs 0,g cs 6,g cs 7,g cs 8,g cs 9,g cs 20,g cs 21,g cs 22,g cs 23,g cs 29,g cs 30,g cs 31,g cs 32⟩,⟨ol,⟨i1,i2,i3,i4,i5,l0,h0,f0,g0,i10,i11,i12,i13,i14⟩,⟨i15,i16,i17,i18,i19,l1,h1,f1,g1,i24,i25,i26,i27,i28⟩,st,qu,at_,bl,i33,i34,i35,i36,i37⟩,?_,⟨os,⟨hl0,hh0,hf0,hg0⟩,⟨hl1,hh1,hf1,hg1⟩,hst,hqu,hat,bs⟩⟩
 simp only[al]
 rw[← e1,← e2,← e3,← e4,← e5,← e10,← e11,← e12,← e13,← e14,← e15,← e16,← e17,← e18,← e19,← e24,← e25,← e26,← e27,← e28,← e33,← e34,← e36,← e37]
 have e35':iV i35=g cs 35:=e35.symm
 rw[e35']
 refine List.ext_getElem (by simp[hlen]) fun i h1 h2=>?_
 have hi:i < 38:=by omega
 have:cs[i]=g cs i:=by rw[← VV (List.getElem?_eq_getElem h1)]
 rw[this]
 rcases i with _ | _ | _ | _ | _ | _ | _ | _ | _ | _ | _ | _ | _ | _ | _ | _ | _ | _ | _ | _ | _ | _ | _ | _ | _ | _ | _ | _ | _ | _ | _ | _ | _ | _ | _ | _ | _ | _ | i <;> first | rfl | omega
end Go.Proofs.YtdhobpmnkfmcfaaGreatDoor
namespace Go.Sx
open Go
theorem Cons.ghost {H H':Heap} {O O':Own} (h:Cons H O) (g:Ghost H O H' O'):Cons H' O':=by
 obtain⟨w,F,hm⟩:=h
 exact⟨w,F,(g w F hm).1⟩
theorem Cons.perm {H:Heap} {O O':Own} (h:Cons H O) (hp:O.Perm O'):Cons H O':=h.ghost (Ghost.perm hp)
theorem Triple.ghost {P:Program} {f:FuncId} {args:List Value} {H:Heap} {O:Own} {Q Q':Value→Heap→Own→Prop} (h:Triple P f args H O Q)
  (hq:∀ v H' O',Heap.le H H'→Cons H' O'→Q v H' O'→∃ H'' O'',Ghost H' O' H'' O''∧Q' v H'' O''):Triple P f args H O Q' :=
 fun w F hm=>(h w F hm).mono fun _ w' ⟨v,H',O',he,q,hle,hm'⟩ =>
  let ⟨H'',O'',g,q'⟩:=hq v H' O' hle ⟨w',F,hm'⟩ q
  ⟨v,H'',O'',he,q',Heap.le_trans hle (g _ _ hm').2,(g _ _ hm').1⟩
theorem Fp {te:TypeId}:∀ (l:List It) (rows:List (List Value)) (Ts:List Own) (H:Heap) (X:Own),rows.length=l.length→Ts.length=l.length →
  (∀ (i:Nat) (r:List Value) (x:It) (T:Own),rows[i]?=some r→l[i]?=some x→Ts[i]?=some T→∃ s,r=[iV x.player,iV x.id,iV x.card,iV x.trig,s]∧OSlE te 2 s (x.tgs.map Tg.row) T) →
  Cons H (List.flatten Ts++X)→∃ H',Ghost H (List.flatten Ts++X) H' X∧Heap.le H H' ∧
   ∀ (i:Nat) (r:List Value) (x:It),rows[i]?=some r→l[i]?=some x→∃ s,r=[iV x.player,iV x.id,iV x.card,iV x.trig,s]∧Sl H' 2 s (x.tgs.map Tg.row)
 | [],[],[],H,X,_,_,_,_=>⟨H,Ghost.refl _ _,Heap.le_refl _,fun i r x h=>by simp at h⟩
 | x::l,r::rows,T::Ts,H,X,h1,h2,hs,hc=>by
  obtain⟨s,e,hT⟩:=hs 0 r x T rfl rfl rfl
  rw[List.flatten_cons,List.append_assoc] at hc
  obtain⟨H1,g1,k1,l1⟩:=hT.freeze hc
  obtain⟨H2,g2,l2,k2⟩:=Fp l rows Ts H1 X (by simpa using h1) (by simpa using h2) (fun i r x T a b c=>hs (i + 1) r x T (by simpa using a) (by simpa using b) (by simpa using c)) (hc.ghost g1)
  refine⟨H2,?_,Heap.le_trans l1 l2,fun i r' x' a b=>?_⟩
  ·rw[List.flatten_cons,List.append_assoc];exact g1.trans g2
  ·cases i with
   | zero=>simp at a b;subst a;subst b;exact⟨s,e,k1.le l2⟩
   | succ i=>exact k2 i r' x' (by simpa using a) (by simpa using b)
 | [],_::_,_,_,_,h,_,_,_=>by simp at h
 | _::_,[],_,_,_,h,_,_,_=>by simp at h
 | [],[],_::_,_,_,_,h,_,_=>by simp at h
 | _::_,_::_,[],_,_,_,h,_,_=>by simp at h
theorem OIts.freeze {te ti:TypeId} {v:Value} {l:List It} {O1 X:Own} {H:Heap} (h:OIts te ti v l O1) (hc:Cons H (O1++X)):∃ H',Ghost H (O1++X) H' X∧ItsS H' v l∧Heap.le H H':=by
 obtain⟨rows,A,Ts,hp,h1,h2,h3,h4⟩:=h
 have hp':(O1++X).Perm (A++(List.flatten Ts++X)):=(hp.append_right X).trans (List.Perm.of_eq (List.append_assoc _ _ _))
 obtain⟨H1,g1,k1,l1⟩:=h1.freeze (hc.perm hp')
 obtain⟨H2,g2,l2,k2⟩:=Fp l rows Ts H1 X h2 h3 h4 ((hc.perm hp').ghost g1)
 exact⟨H2,(Ghost.perm hp').trans (g1.trans g2),⟨rows,k1.le l2,h2,k2⟩,Heap.le_trans l1 l2⟩
theorem OwnB.freeze {t:Tys} {w:cn} {b:Bd} {O X:Own} {H:Heap} (h:OwnB t w b O) (hc:Cons H (O++X)):∃ H',Ghost H (O++X) H' X∧BdS H' w b∧Heap.le H H':=by
 obtain⟨Oo,A0,B0,C0,D0,A1,B1,C1,D1,Os,Oq,Oa,Obk,hp,h⟩:=h
 have hp':(O++X).Perm (Oo++(A0++(B0++(C0++(D0++(A1++(B1++(C1++(D1++(Os++(Oq++(Oa++(Obk++X))))))))))))):=by
  refine (hp.append_right X).trans (List.Perm.of_eq ?_)
  simp only[List.append_assoc]
 replace hc:=hc.perm hp'
 obtain⟨H1,g1,k1,l1⟩:=h.objs.freeze hc
 replace hc:=hc.ghost g1
 obtain⟨H2,g2,k2,l2⟩:=h.l0.freeze hc
 replace hc:=hc.ghost g2
 obtain⟨H3,g3,k3,l3⟩:=h.h0.freeze hc
 replace hc:=hc.ghost g3
 obtain⟨H4,g4,k4,l4⟩:=h.f0.freeze hc
 replace hc:=hc.ghost g4
 obtain⟨H5,g5,k5,l5⟩:=h.g0.freeze hc
 replace hc:=hc.ghost g5
 obtain⟨H6,g6,k6,l6⟩:=h.l1.freeze hc
 replace hc:=hc.ghost g6
 obtain⟨H7,g7,k7,l7⟩:=h.h1.freeze hc
 replace hc:=hc.ghost g7
 obtain⟨H8,g8,k8,l8⟩:=h.f1.freeze hc
 replace hc:=hc.ghost g8
 obtain⟨H9,g9,k9,l9⟩:=h.g1.freeze hc
 replace hc:=hc.ghost g9
 obtain⟨H10,g10,k10,l10⟩:=h.stack.freeze hc
 replace hc:=hc.ghost g10
 obtain⟨H11,g11,k11,l11⟩:=h.queue.freeze hc
 replace hc:=hc.ghost g11
 obtain⟨H12,g12,k12,l12⟩:=h.att.freeze hc
 replace hc:=hc.ghost g12
 obtain⟨H13,g13,k13,l13⟩:=h.blocks.freeze hc
 have m12:=l13
 have m11:=Heap.le_trans l12 m12
 have m10:=Heap.le_trans l11 m11
 have m9:=Heap.le_trans l10 m10
 have m8:=Heap.le_trans l9 m9
 have m7:=Heap.le_trans l8 m8
 have m6:=Heap.le_trans l7 m7
 have m5:=Heap.le_trans l6 m6
 have m4:=Heap.le_trans l5 m5
 have m3:=Heap.le_trans l4 m4
 have m2:=Heap.le_trans l3 m3
 have m1:=Heap.le_trans l2 m2
 exact⟨H13,(Ghost.perm hp').trans (g1.trans (g2.trans (g3.trans (g4.trans (g5.trans (g6.trans (g7.trans (g8.trans (g9.trans (g10.trans (g11.trans (g12.trans g13)))))))))))),
  ⟨k1.le m1,⟨k2.le m2,k3.le m3,k4.le m4,k5.le m5⟩,⟨k6.le m6,k7.le m7,k8.le m8,k9.le m9⟩,k10.le m10,k11.le m11,k12.le m12,k13⟩,Heap.le_trans l1 m1⟩
theorem Triple.frozen {P:Program} {f:FuncId} {args:List Value} {H:Heap} {t:Tys} {b:Bd} (h:Triple P f args H [] fun r _ O'=>∃ w,r=.agg (al w b).toArray∧OwnB t w b O') :
  Triple P f args H [] fun r H' O'=>(∃ w,r=.agg (al w b).toArray∧BdS H' w b)∧O'=[]:=by
 refine h.ghost ?_
 rintro v H' O' _ hc ⟨w,rfl,ho⟩
 obtain⟨H'',g,k,_⟩:=ho.freeze (X:=[]) (by simpa using hc)
 exact⟨H'',[],by simpa using g,⟨w,rfl,k⟩,rfl⟩
theorem xK {P:Program} {v:Value} {H:Heap} {O O':Own} {Q:Value→Heap→Own→Prop} (hp:O.Perm O') (h:Q v H O'):(Tree.ret v []).den P Q H O:=fun _=>⟨H,O',Ghost.perm (by simpa using hp),h⟩
theorem RetO.frame {P:Program} {f:FuncId} {args:List Value} {H:Heap} {O:Own} {r:Value} (h:RetO P f args H O r) (X:Own):RetO P f args H (O++X) r :=
 (Triple.frame h X).mono fun _ _ _ _ ⟨O'',e,e1,e2⟩=>⟨e1,by rw[e,e2]⟩
theorem RetO.perm {P:Program} {f:FuncId} {args:List Value} {H:Heap} {O O':Own} {r:Value} (h:RetO P f args H O r) (hp:O.Perm O'):RetO P f args H O' r :=
 fun w F hm=>(h w F (hm.perm (hp.symm.append_right F))).mono fun _ _ ⟨v,H',O1,he,⟨q1,q2⟩,hle,hm'⟩=>⟨v,H',O',he,⟨q1,rfl⟩,hle,hm'.perm (by rw[q2];exact hp.append_right F)⟩
theorem KL {r:List Value} {n:Nat} (h:r.length=n):(List.range n).map (g r)=r:=by
 subst h
 refine List.ext_getElem (by simp) fun i h1 h2=>?_
 simp[g,h2]
theorem y9 {r ys:List Value} (h:r.length=ys.length):cj r 0 ys=ys:=by simp[cj,h]
theorem V0 {size:Nat}:∀ (k:Nat) (zs:List Value),zs.length=k * size→Ones zs→∃ rows:List (List Value),rows.length=k∧(∀ r ∈ rows,r.length=size)∧(∀ r ∈ rows,Ones r)∧rows.flatten=zs
 | 0,zs,h,_=>⟨[],rfl,by simp,by simp,by
   have:zs=[]:=List.eq_nil_of_length_eq_zero (by simpa using h)
   rw[this];rfl⟩
 | k + 1,zs,h,ho=>by
  rw[Nat.add_mul,Nat.one_mul] at h
  obtain⟨rows,h1,h2,h3,h4⟩:=V0 (size:=size) k (zs.drop size) (by rw[List.length_drop];omega) (ho.drop size)
  refine⟨zs.take size::rows,by simp[h1],?_,?_,by rw[List.flatten_cons,h4,List.take_append_drop]⟩
  ·intro r hr
   rcases List.mem_cons.1 hr with rfl | hr
   ·rw[List.length_take];omega
   ·exact h2 r hr
  ·intro r hr
   rcases List.mem_cons.1 hr with rfl | hr
   ·exact ho.take size
   ·exact h3 r hr
theorem BN {z:Array Value} {n:Nat} (h:∀ v ∈ z.toList,v.oneCell'=true):∀ v ∈ (Builtin.zeroCells z n).toList,v.oneCell'=true:=by
 intro v hv
 simp only[Builtin.zeroCells,Array.toList_map,List.mem_map,Array.toList_range,List.mem_range] at hv
 obtain⟨i,hi,rfl⟩:=hv
 have hpos:0 < z.size:=by
  rcases Nat.eq_zero_or_pos z.size with e | e
  ·rw[e] at hi;omega
  ·exact e
 have hlt:=Nat.mod_lt i hpos
 rw[getElem!_pos z (i % z.size) hlt]
 exact h _ (by simp)
theorem OSl.upto {e:TypeId} {size:Nat} {v:Value} {rows:List (List Value)} {O:Own} (h:OSl e size v rows O) {i:Nat} (hi:i≤rows.length) :
  ∃ u,ak (.slc size false true false) [v,.int .i64 i]=some u∧OSl e size u (rows.take i) O:=by
 rcases h with ⟨⟨a,rfl⟩,rfl,rfl⟩ | ⟨r,cs,cap,rfl,rfl,hcl,hlc,hcap,hl,ho,ht⟩
 ·have h0:i=0:=by simpa using hi
  subst h0
  refine⟨.slice a 0 0,?_,.inl ⟨⟨a,rfl⟩,rfl,rfl⟩⟩
  simp[ak,fm,ja,bL,cK,eP,o5,asI]
 ·have hb:bL rows.length cap none (some (.int .i64 (i:Int))) none=some (0,i,cap):=by
   have:i≤cap:=by omega
   simp[bL,cK,eP,o5,asI,this]
  refine⟨.slice (some ⟨r,0,none⟩) i cap,?_,.inr ⟨r,cs,cap,?_,rfl,hcl,?_,hcap,fun x hx=>hl x (List.mem_of_mem_take hx),fun x hx=>ho x (List.mem_of_mem_take hx),?_⟩⟩
  ·simp only[ak,fm,ja,hb,Option.map_some]
   simp[Addr.add]
  ·simp[Nat.min_eq_left hi]
  ·rw[List.length_take];omega
  ·have h1:(rows.take i).length=i:=by rw[List.length_take];omega
   have h2:=congrArg (fun l=>l.take (i * size)) ht
   simp only[List.take_take] at h2
   have h3:i * size≤rows.length * size:=Nat.mul_le_mul_right _ hi
   rw[Nat.min_eq_left h3] at h2
   rw[h1,h2]
   have h4:rows.flatten=(rows.take i).flatten++(rows.drop i).flatten:=by rw[← List.flatten_append,List.take_append_drop]
   have h5:=eE (rows:=rows.take i) (size:=size) fun x hx=>hl x (List.mem_of_mem_take hx)
   rw[h1] at h5
   rw[h4,← h5,List.take_left]
theorem zG {P:Program} {t ty e:TypeId} {size:Nat} {z:Value} (ht:P.underlying t=some (.slice e)) (hz:∀ w,(zeroValue e).run P w=.ok z w) (hzs:z.cells.size=size) (hz1:∀ v ∈ z.cells.toList,v.oneCell'=true)
  {v:Value} {rows:List (List Value)} {O O1 O2:Own} (h:OSl e size v rows O1) (hO:O.Perm (O1++O2)) {i:Nat} (hi:i≤rows.length) :
  ∃ u,ak (.slc size true false false) [v,.int .i64 i]=some u∧∀ (H:Heap) (K:List Value→List (List Value)→Heap→Own→Prop),
   (∀ rows' O1',rows'.take i=rows.take i→rows'.length=rows.length→OSl e size v rows' O1'→K [] [] H (O1'++O2)) →
   dZ (fun H1 O1 R=>bW P ((PrimOp.bi .clear #[t] ty).sem [u]) H1 O1 R) false [] [] (.tup []) K H O:=by
 rcases h with ⟨⟨a,rfl⟩,rfl,rfl⟩ | ⟨r,cs,cap,rfl,rfl,hcl,hlc,hcap,hl,ho,htk⟩
 ·have h0:i=0:=by simpa using hi
  subst h0
  refine⟨.slice a 0 0,?_,fun H K hk=>?_⟩
  ·simp[ak,fm,ja,bL,cK,eP,o5,asI]
  ·intro _
   refine⟨H,[],O2,fun v' H' O'=>v'=.tuple #[]∧H'=H∧O'=[],Ghost.perm (by simpa using hO),fun w F hm=>⟨.tuple #[],w,H,[],?_,⟨rfl,rfl,rfl⟩,Heap.le_refl H,by simpa using hm⟩,?_⟩
   ·have:(Builtin.clear_ #[t] ty #[.slice a 0 0]).run P w=.ok (.tuple #[]) w:=by cases a <;> simp[Builtin.clear_,run_underlying ht]
    simp only[PrimOp.sem,builtin,Sem.run_bind]
    rw[this];rfl
   ·rintro v' H' O' ⟨rfl,rfl,rfl⟩ _
    exact⟨[],[],[],rfl,trivial,trivial,rfl,hk [] [] rfl rfl (.inl ⟨⟨a,rfl⟩,rfl,rfl⟩)⟩
 ·have hb:bL rows.length cap (some (.int .i64 (i:Int))) none none=some (i,rows.length,cap):=by
   simp[bL,cK,eP,o5,asI,hi]
  have hmul:i * size≤rows.length * size:=Nat.mul_le_mul_right _ hi
  have hmul2:rows.length * size≤cap * size:=Nat.mul_le_mul_right _ hlc
  have hsub:(rows.length - i) * size=rows.length * size - i * size:=Nat.sub_mul _ _ _
  refine⟨.slice (some ⟨r,if cap=i then 0 else i * size,none⟩) (rows.length - i) (cap - i),?_,fun H K hk=>?_⟩
  ·simp only[ak,fm,ja,hb,Option.map_some]
   split
   ·rfl
   ·show some (Value.slice (some ((⟨r,0,none⟩:Addr).add (i * size))) (rows.length - i) (cap - i))=_
    rw[cL,Nat.zero_add]
  ·
   have hzl:(Builtin.zeroCells z.cells (rows.length - i)).toList.length=(rows.length - i) * size:=by
    have:=size_zeroCells z.cells (rows.length - i)
    rw[Array.length_toList,this,hzs]
   have hz1':=BN (n:=rows.length - i) hz1
   obtain⟨junk,j1,j2,j3,j4⟩:=V0 (rows.length - i) _ hzl (nO hz1')
   generalize hoff:(if cap=i then 0 else i * size)=off
   have hfit:off + (rows.length - i) * z.cells.size≤cs.length:=by
    rw[hzs,hsub,hcl,← hoff]
    split
    ·rename_i e;subst e;omega
    ·omega
   generalize hcs:cs.take off++(Builtin.zeroCells z.cells (rows.length - i)).toList++cs.drop (off + (Builtin.zeroCells z.cells (rows.length - i)).toList.length)=cs'
   have hlen':cs'.length=cs.length:=by
    rw[← hcs]
    simp only[List.length_append,List.length_take,List.length_drop,hzl]
    rw[hzs] at hfit
    omega
   intro _
   refine⟨H,[(r,.cells cs.toArray e (0,0))],O2,fun v' H' O'=>v'=.tuple #[]∧H'=H∧O'=[(r,.cells cs'.toArray e (0,0))],Ghost.perm hO,fun w F hm=>?_,?_⟩
   ·have hrow:=(hm.own (r,.cells cs.toArray e (0,0)) (by simp)).1
    have hrun:=HL (ty:=ty) (cap:=cap - i) (n:=rows.length - i) (off:=off) ht hz hrow hfit hz1'
    rw[hcs] at hrun
    refine⟨.tuple #[],w.setRow r cs'.toArray,H,_,?_,⟨rfl,rfl,rfl⟩,Heap.le_refl H,?_⟩
    ·simp only[PrimOp.sem,builtin,Sem.run_bind]
     rw[hrun];rfl
    ·exact zr (vs:=cs) (by simpa using hm)
   ·rintro v' H' O' ⟨rfl,rfl,rfl⟩ _
    refine⟨[],[],_,rfl,trivial,trivial,rfl,?_⟩
    have hrl:(rows.take i++junk).length=rows.length:=by rw[List.length_append,List.length_take,j1];omega
    refine hk (rows.take i++junk) _ ?_ hrl (.inr ⟨r,cs',cap,?_,rfl,by rw[hlen',hcl],by rw[hrl];exact hlc,hcap,?_,?_,?_⟩)
    ·rw[List.take_append_of_le_length (by rw[List.length_take];omega),List.take_take,Nat.min_self]
    ·rw[hrl]
    ·intro x hx
     rcases List.mem_append.1 hx with hx | hx
     ·exact hl x (List.mem_of_mem_take hx)
     ·exact j2 x hx
    ·intro x hx
     rcases List.mem_append.1 hx with hx | hx
     ·exact ho x (List.mem_of_mem_take hx)
     ·exact j3 x hx
    ·rw[hrl,List.flatten_append,j4]
     have ht5:(rows.take i).flatten=cs.take (i * size):=by
      have h5:=eE (rows:=rows.take i) (size:=size) fun x hx=>hl x (List.mem_of_mem_take hx)
      have h1:(rows.take i).length=i:=by rw[List.length_take];omega
      rw[h1] at h5
      have h4:rows.flatten=(rows.take i).flatten++(rows.drop i).flatten:=by rw[← List.flatten_append,List.take_append_drop]
      have h2:=congrArg (fun l=>l.take (i * size)) htk
      simp only[List.take_take] at h2
      rw[Nat.min_eq_left hmul,h4,← h5,List.take_left] at h2
      rw[← h5];exact h2.symm
     rw[ht5]
     rw[← hcs]
     by_cases hci:cap=i
     ·have hn:rows.length - i=0:=by omega
      have hz0:(Builtin.zeroCells z.cells (rows.length - i)).toList=[]:=List.eq_nil_of_length_eq_zero (by rw[hzl,hn];simp)
      have hoff0:off=0:=by rw[← hoff,if_pos hci]
      rw[hz0,hoff0]
      have:rows.length=i:=by omega
      simp[this]
     ·have hoff0:off=i * size:=by rw[← hoff,if_neg hci]
      rw[hoff0]
      have e1:(cs.take (i * size)++(Builtin.zeroCells z.cells (rows.length - i)).toList).length=rows.length * size:=by
       rw[List.length_append,List.length_take,hzl,hsub];omega
      rw[List.take_append_of_le_length (by omega),← e1,List.take_length]
theorem hU {P:Program} {f:FuncId} {args:List Value} {H:Heap} {O O1 O2:Own} {own:List BV} {shp:Shp} {K:List Value→List (List Value)→Heap→Own→Prop} {R:Value→Heap→Own→Prop}
  (hO:O.Perm (O1++O2)) (h:Triple P f args H (own.map BV.obj++O1) fun v H' O'=>∃ O3,O'=own.map BV.obj++O3∧R v H' O3) (hf:TT own (own.map (·.vs)))
  (hk:∀ v H' O3,R v H' O3→Heap.le H H'→∃ vs,shp.open v=some vs∧Ones vs∧K vs (own.map (·.vs)) H' (O3++O2)) :
  dZ (fun H1 O1 R=>Triple P f args H1 O1 R) false [] own shp K H O:=by
 intro _
 refine⟨H,O1,O2,_,Ghost.perm hO,h,?_⟩
 rintro v H' O' ⟨O3,rfl,hr⟩ hle
 obtain⟨vs,h1,h2,h3⟩:=hk v H' O3 hr hle
 exact⟨vs,own.map (·.vs),O3,h1,h2,hf,by rw[rl],h3⟩
theorem qE {P:Program} {f:FuncId} {args:List Value} {H:Heap} {O O1 O2:Own} {shp:Shp} {K:List Value→List (List Value)→Heap→Own→Prop} {R:Value→Heap→Own→Prop}
  (hO:O.Perm (O1++O2)) (h:Triple P f args H O1 R) (hk:∀ v H' O3,R v H' O3→Heap.le H H'→∃ vs,shp.open v=some vs∧Ones vs∧K vs [] H' (O3++O2)) :
  dZ (fun H1 O1 R=>Triple P f args H1 O1 R) false [] [] shp K H O:=by
 intro _
 refine⟨H,O1,O2,R,Ghost.perm hO,by simpa using h,?_⟩
 intro v H' O' hr hle
 obtain⟨vs,h1,h2,h3⟩:=hk v H' O' hr hle
 exact⟨vs,[],O',h1,h2,trivial,rfl,h3⟩
theorem LP {P:Program} {op:PrimOp} {args:List Value} {H:Heap} {O O2:Own} {r:Nat} {cs cs':List Value} {e:TypeId} {v:Value} {shp:Shp} {K:List Value→List (List Value)→Heap→Own→Prop} {vs:List Value}
  (hO:O.Perm ([(r,.cells cs.toArray e (0,0))]++O2)) (hrun:∀ w F,Models w H ([(r,.cells cs.toArray e (0,0))]++F)→(op.sem args).run P w=.ok (.value v) (w.setRow r cs'.toArray)) (ho:shp.open v=some vs) (h1:Ones vs)
  (hk:K vs [] H ([(r,.cells cs'.toArray e (0,0))]++O2)):dZ (fun H1 O1 R=>bW P (op.sem args) H1 O1 R) false [] [] shp K H O:=by
 intro _
 refine⟨H,[(r,.cells cs.toArray e (0,0))],O2,fun v' H' O'=>v'=v∧H'=H∧O'=[(r,.cells cs'.toArray e (0,0))],Ghost.perm hO,fun w F hm=>⟨v,w.setRow r cs'.toArray,H,_,hrun w F (by simpa using hm),⟨rfl,rfl,rfl⟩,Heap.le_refl H,?_⟩,?_⟩
 ·exact zr (vs:=cs) (by simpa using hm)
 ·rintro v' H' O' ⟨rfl,rfl,rfl⟩ _
  exact⟨vs,[],_,ho,h1,trivial,rfl,hk⟩
theorem tN {size:Nat} {rows:List (List Value)} {cs:List Value} (hl:∀ row ∈ rows,row.length=size) (ht:cs.take (rows.length * size)=rows.flatten) {i:Nat} (hi:i≤rows.length) :
  (rows.take i).flatten=cs.take (i * size)∧(rows.drop i).flatten=(cs.drop (i * size)).take ((rows.length - i) * size):=by
 have h5:=eE (rows:=rows.take i) (size:=size) fun x hx=>hl x (List.mem_of_mem_take hx)
 have h1:(rows.take i).length=i:=by rw[List.length_take];omega
 rw[h1] at h5
 have h4:rows.flatten=(rows.take i).flatten++(rows.drop i).flatten:=by rw[← List.flatten_append,List.take_append_drop]
 have hmul:i * size≤rows.length * size:=Nat.mul_le_mul_right _ hi
 have hsub:(rows.length - i) * size=rows.length * size - i * size:=Nat.sub_mul _ _ _
 constructor
 ·have h2:=congrArg (fun l=>l.take (i * size)) ht
  simp only[List.take_take] at h2
  rw[Nat.min_eq_left hmul,h4,← h5,List.take_left] at h2
  rw[← h5];exact h2.symm
 ·have h2:=congrArg (fun l=>l.drop (i * size)) ht
  simp only[List.drop_take] at h2
  rw[h4,← h5,List.drop_left,h5] at h2
  rw[hsub];exact h2.symm
theorem NN {P:Program} {t e:TypeId} {size bytes:Nat} (h:Jk P t e size bytes=true):P.underlying t=some (.slice e)∧∃ i,P.info? e=some i∧i.size=size:=by
 unfold Jk at h
 split at h
 ·rename_i e' i hu hi
  simp only[Bool.and_eq_true,beq_iff_eq] at h
  obtain⟨⟨⟨⟨rfl,hsz⟩,_⟩,_⟩,_⟩:=h
  exact⟨hu,i,hi,hsz⟩
 ·cases h
theorem RE {w:World} {H:Heap} {r:Nat} {cs:List Value} {e:TypeId} {F:Own} (hm:Models w H ([(r,.cells cs.toArray e (0,0))]++F)) {j:Nat} {u:Value} (h:cs[j]?=some u):w.cell? ⟨r,j,none⟩=some u:=by
 have hr:=(hm.own (r,.cells cs.toArray e (0,0)) (by simp)).1
 simp only[] at hr
 simp[World.cell?,hr,h]
theorem Sl.upto {H:Heap} {size:Nat} {v:Value} {rows:List (List Value)} (h:Sl H size v rows) {i:Nat} (hi:i≤rows.length):∃ u,ak (.slc size false true false) [v,.int .i64 i]=some u∧Sl H size u (rows.take i):=by
 obtain⟨a,cap,rfl,h1,h2,h3⟩:=h
 have hb:bL rows.length cap none (some (.int .i64 (i:Int))) none=some (0,i,cap):=by
  have:i≤cap:=by omega
  simp[bL,cK,eP,o5,asI,this]
 have hm:(rows.take i).length=i:=by rw[List.length_take];omega
 refine⟨.slice a i cap,?_,a,cap,by rw[hm],by rw[hm];omega,h2,fun hne=>?_⟩
 ·simp only[ak,fm,ja,hb,Option.map_some]
  cases a <;> simp[Addr.add]
 ·have hne2:rows ≠ []:=by rintro rfl;simp at hne
  obtain⟨ad,e,hA⟩:=h3 hne2
  refine⟨ad,e,fun j r hr=>hA j r ?_⟩
  rw[List.getElem?_take] at hr
  split at hr
  ·exact hr
  ·cases hr
theorem Sl.from {H:Heap} {size:Nat} {v:Value} {rows:List (List Value)} (h:Sl H size v rows) {i:Nat} (hi:i≤rows.length):∃ u,ak (.slc size true false false) [v,.int .i64 i]=some u∧Sl H size u (rows.drop i):=by
 obtain⟨a,cap,rfl,h1,h2,h3⟩:=h
 have hb:bL rows.length cap (some (.int .i64 (i:Int))) none none=some (i,rows.length,cap):=by
  simp[bL,cK,eP,o5,asI,hi]
 have hm:(rows.drop i).length=rows.length - i:=List.length_drop
 refine⟨.slice (if cap=i then a else a.map (·.add (i * size))) (rows.length - i) (cap - i),?_,_,cap - i,by rw[hm],by rw[hm];omega,by omega,fun hne=>?_⟩
 ·simp only[ak,fm,ja,hb,Option.map_some]
 ·have hne2:rows ≠ []:=by rintro rfl;simp at hne
  have hlt:i < rows.length:=by
   rcases Nat.lt_or_ge i rows.length with h | h
   ·exact h
   ·rw[List.drop_of_length_le h] at hne;exact absurd rfl hne
  obtain⟨ad,rfl,hA⟩:=h3 hne2
  refine⟨ad.add (i * size),?_,fun j r hr=>?_⟩
  ·rw[if_neg (by omega)];rfl
  ·rw[List.getElem?_drop] at hr
   have:=hA (i + j) r hr
   rw[D8,← Nat.add_mul];exact this
theorem Qj {α β:Type} {p:α→Bool} {q:β→Bool} {R:α→β→Prop} (hpq:∀ a b,R a b→p a=q b):∀ (l:List α) (r:List β),l.length=r.length→(∀ (i:Nat) (a:α) (b:β),l[i]?=some a→r[i]?=some b→R a b) →
  (l.filter p).length=(r.filter q).length∧∀ (i:Nat) (a:α) (b:β),(l.filter p)[i]?=some a→(r.filter q)[i]?=some b→R a b
 | [],[],_,_=>⟨rfl,fun i a b h=>by simp at h⟩
 | a::l,b::r,h,hR=>by
  have h0:=hR 0 a b rfl rfl
  have e:=hpq a b h0
  obtain⟨i1,i2⟩:=Qj hpq l r (by simpa using h) fun i a b x y=>hR (i + 1) a b (by simpa using x) (by simpa using y)
  cases hp:q b with
  | false=>rw[List.filter_cons_of_neg (by rw[e,hp];simp),List.filter_cons_of_neg (by rw[hp];simp)];exact⟨i1,i2⟩
  | true =>
   rw[List.filter_cons_of_pos (by rw[e,hp]),List.filter_cons_of_pos hp]
   refine⟨by simp[i1],fun i x y hx hy=>?_⟩
   cases i with
   | zero=>simp at hx hy;subst hx;subst hy;exact h0
   | succ i=>exact i2 i x y (by simpa using hx) (by simpa using hy)
 | [],_::_,h,_=>by simp at h
 | _::_,[],h,_=>by simp at h
def KindS (H:Heap) (v:Value) (ks:List Int):Prop:=∃ rows,Sl H 14 v rows∧rows.length=ks.length∧∀ (i:Nat) (r:List Value) (k:Int),rows[i]?=some r→ks[i]?=some k→g r 1=iV k
theorem KindS.le {H H':Heap} {v:Value} {ks:List Int} (h:KindS H v ks) (hl:Heap.le H H'):KindS H' v ks:=let ⟨rows,h1,h2,h3⟩:=h;⟨rows,h1.le hl,h2,h3⟩
theorem KindS.one {H:Heap} {v:Value} {ks:List Int} (h:KindS H v ks):v.oneCell'=true:=let ⟨_,h1,_⟩:=h;h1.one
def Fo (ks:List Int) (c:Int):Int:=if c < 0∨c ≥ (ks.length:Int) then 0 else ks.getD c.toNat 0
def eL (ks:List Int) (o:Ob):Bool:=o.card == -1 || Fo ks o.card == 2
theorem fD {H:Heap} {O:Own} {p:Value} {m:Nat} {vs:List Value} (h:H.read p m=some vs):Reads H O p m vs:=.inl h
theorem Td {P:Program} {t e:TypeId} (hu:P.underlying t=some (.slice e)) {size:Nat} (h0:0 < size) {H:Heap} {x:Value} {news:List (List Value)} (hs:Sl H size x news) {w:World} {O:Own} (hm:Models w H O) :
  Src P size t x news.length news.flatten w∧news.flatten.length=news.length * size∧(∀ row ∈ news,row.length=size)∧∀ row ∈ news,Ones row:=by
 obtain⟨xa,cap,rfl,h1,h2,h3⟩:=hs
 by_cases hne:news=[]
 ·subst hne
  refine⟨?_,by simp,by simp,by simp⟩
  cases xa with
  | none=>exact Src.ofNil w hu cap
  | some ad=>exact Src.ofSlice w hu ad 0 cap [] (by simp) (fun j u h=>by simp at h) (by simp)
 ·obtain⟨a,rfl,hA⟩:=h3 hne
  obtain⟨hnl,hcells⟩:=HD (H:=H) h0 (fun _=>hA) hm
  have hfl:=eE fun r hr=>(hnl r hr).1
  refine⟨Src.ofSlice w hu a _ cap _ hfl hcells fun u hu'=>?_,hfl,fun r hr=>(hnl r hr).1,fun r hr=>(hnl r hr).2⟩
  obtain⟨r,hr,hur⟩:=List.mem_flatten.1 hu'
  exact iP (hnl r hr).2 u hur
theorem Qg {P:Program} {t tx ty e:TypeId} {i:TypeInfo} {z:Value} {size:Nat} (ht:P.underlying t=some (.slice e)) (hi:P.info? e=some i) (hz:i.zero=some z) (hsz:i.size=size) (hzs:z.cells.size=size) (hby:jI P e=i.bytes) {w:World}
  {base:Option Addr} {len cap m:Nat} {olds news:List Value} {x:Value} (hold:(Builtin.firstCells i.size len (.slice base len cap)).run P w.drew=.ok olds.toArray w.drew) (hs:Src P size tx x m news w)
  (hg:cap < len + m) (hb:(len + m) * jI P e≤140737488355328) (h63:len + m < 2 ^ 63) :
  ∃ zs cc,zs.length=cc * size∧cc + (len + m) < 2 ^ 63∧(Builtin.append_ #[t,tx] ty #[.slice base len cap,x]).run P w=.ok (.slice (some ⟨w.heap.size,0,none⟩) (len + m) (cc + (len + m))) (w.drew.alloc (.cells (olds++news++zs).toArray e)):=by
 subst hsz
 have hge:=grownCap_ge w (len + m) cap e
 have hle:=grownCap_le_maxLen w (len + m) cap e (by unfold maxLen;omega)
 unfold maxLen at hle
 refine⟨(Builtin.zeroCells z.cells (grownCap w (len + m) cap e - (len + m))).toList,grownCap w (len + m) cap e - (len + m),?_,by omega,?_⟩
 ·rw[Array.length_toList,size_zeroCells,hzs]
 ·rw[run_append_grow_src (P:=P) w t tx ty e i z ht hi hz base len cap olds hold x m news hs hg (by omega) (growslice_fits hg (by rw[← hby];exact hb))]
  have e1:grownCap w (len + m) cap e - (len + m) + (len + m)=grownCap w (len + m) cap e:=by omega
  rw[e1]
  congr 3
  apply Array.ext'
  simp
theorem FW {P:Program} {t ty e:TypeId} {size:Nat} (ha:Jj P t e size=true) {ad:Addr} {rows news:List (List Value)} {x:Value} {H:Heap} (hr:Sl H size (.slice (some ad) rows.length rows.length) rows) (hx:Sl H size x news)
  (hb:(rows.length + news.length) * jI P e≤140737488355328) (h63:rows.length + news.length < 2 ^ 63) :
  bW P ((PrimOp.bi .append #[t,t] ty).sem [.slice (some ad) rows.length rows.length,x]) H [] fun v' H' O'=>O'=[]∧Heap.le H H'∧Sl H' size v' (rows++news):=by
 obtain⟨hu,i,z,hi,hsz,hz,hzs,h0,hby⟩:=NM ha
 intro w F hm
 simp only[List.nil_append] at hm
 obtain⟨src,s1,s2,s3⟩:=Td hu h0 hx hm
 by_cases hne:news=[]
 ·subst hne
  have hs':Src P i.size t x 0 [] w:=by rw[hsz];exact src
  have hrun:=Gq (ty:=ty) hu hi (base:=some ad) (cap:=rows.length) hs' (Nat.le_refl _)
  refine⟨_,w,H,[],?_,⟨rfl,Heap.le_refl H,by rw[List.append_nil];exact hr⟩,Heap.le_refl H,by simpa using hm⟩
  simp only[PrimOp.sem,builtin,Sem.run_bind]
  rw[hrun];rfl
 ·have hpos:0 < news.length:=List.length_pos_iff.2 hne
  obtain⟨osrc,o1,o2,o3⟩:=Td hu h0 hr hm
  obtain⟨zs,cc,z1,zc,hrun⟩:=Qg (ty:=ty) hu hi hz hsz hzs hby (w:=w) (base:=some ad) (len:=rows.length) (cap:=rows.length) (m:=news.length) (olds:=rows.flatten) (news:=news.flatten) (x:=x)
   (by rw[hsz];exact osrc.cellsD) src (by omega) hb h63
  have hm2:=Iu hm (rows.flatten++news.flatten++zs).toArray e
  have ho:OSl e size (.slice (some ⟨w.heap.size,0,none⟩) (rows.length + news.length) (cc + (rows.length + news.length))) (rows++news) [(w.heap.size,.cells (rows.flatten++news.flatten++zs).toArray e (0,0))]:=by
   refine .inr ⟨w.heap.size,rows.flatten++news.flatten++zs,cc + (rows.length + news.length),by rw[List.length_append],rfl,?_,?_,?_,?_,?_,?_⟩
   ·rw[List.length_append,List.length_append,o1,s1,z1,← Nat.add_mul,← Nat.add_mul];congr 1;omega
   ·rw[List.length_append];omega
   ·exact zc
   ·intro r hr'
    rcases List.mem_append.1 hr' with h | h
    ·exact o2 r h
    ·exact s2 r h
   ·intro r hr'
    rcases List.mem_append.1 hr' with h | h
    ·exact o3 r h
    ·exact s3 r h
   ·rw[List.flatten_append,List.length_append,Nat.add_mul,← o1,← s1,← List.length_append,List.take_left]
  obtain⟨H',g,k1,k2⟩:=ho.freeze (X:=[]) ⟨w.drew.alloc (.cells (rows.flatten++news.flatten++zs).toArray e),F,hm2⟩
  refine⟨_,w.drew.alloc (.cells (rows.flatten++news.flatten++zs).toArray e),H',[],?_,⟨rfl,k2,k1⟩,k2,(g _ F hm2).1⟩
  simp only[PrimOp.sem,builtin,Sem.run_bind]
  rw[hrun];rfl
theorem jH {P:Program} {t ty e:TypeId} {size:Nat} (ha:Jj P t e size=true) {ad:Addr} {rows news:List (List Value)} {x:Value} {H:Heap} {O:Own} {frz:List BV} {K:List Value→List (List Value)→Heap→Own→Prop}
  (hr:∀ Hf,Heap.le H Hf→(∀ b ∈ frz,Hf b.r=some b.obj.2)→Sl Hf size (.slice (some ad) rows.length rows.length) rows) (hx:Sl H size x news)
  (hb:(rows.length + news.length) * jI P e≤140737488355328) (h63:rows.length + news.length < 2 ^ 63) (hk:∀ v' H',Heap.le H H'→Sl H' size v' (rows++news)→K [v'] [] H' O) :
  dZ (fun H1 O1 R=>bW P ((PrimOp.bi .append #[t,t] ty).sem [.slice (some ad) rows.length rows.length,x]) H1 O1 R) false frz [] .one K H O:=by
 intro hc
 have hf:=ij hc
 have hl:=Heap.le_insAll frz H
 refine⟨H.insAll frz,[],O,_,Ghost.refl _ _,by simpa using FW (ty:=ty) ha (hr _ hl hf) (hx.le hl) hb h63,?_⟩
 rintro v' H' O' ⟨rfl,hle,hs⟩ _
 exact⟨[v'],[],[],rfl,⟨hs.one,trivial⟩,trivial,rfl,hk v' H' (Heap.le_trans hl hle) hs⟩
def JV (x:Int) (l:List Int):List Int:=l.takeWhile (fun y=>decide (y < x))++x::l.dropWhile (fun y=>decide (y < x))
def pC (l:List Int):List Int:=l.foldl (fun out x=>JV x out) []
theorem Ky {α:Type} {p:α→Bool}:∀ {l:List α} {k:Nat},k≤l.length→(∀ (j:Nat) (y:α),j < k→l[j]?=some y→p y=true)→(∀ y,l[k]?=some y→p y=false)→l.takeWhile p=l.take k∧l.dropWhile p=l.drop k
 | [],k,h,_,_=>by
  have:k=0:=by simpa using h
  subst this;exact⟨rfl,rfl⟩
 | a::l,0,_,_,h2=>by
  have:=h2 a rfl
  simp[List.takeWhile_cons,List.dropWhile_cons,this]
 | a::l,k + 1,h,h1,h2=>by
  have h0:=h1 0 a (by omega) rfl
  obtain⟨e1,e2⟩:=Ky (l:=l) (k:=k) (by simpa using h) (fun j y hj e=>h1 (j + 1) y (by omega) (by simpa using e)) fun y e=>h2 y (by simpa using e)
  simp[List.takeWhile_cons,List.dropWhile_cons,h0,e1,e2]
theorem Dx (x:Int) (l:List Int):(JV x l).Perm (x::l):=by
 rw[JV]
 refine List.perm_middle.trans (List.Perm.cons x ?_)
 rw[List.takeWhile_append_dropWhile]
theorem xm:∀ (l out:List Int),(l.foldl (fun out x=>JV x out) out).Perm (l++out)
 | [],out=>List.Perm.refl _
 | x::l,out=>by
  rw[List.foldl_cons]
  refine (xm l _).trans ?_
  exact ((Dx x out).append_left l).trans List.perm_middle
theorem uY (l:List Int):(pC l).Perm l:=by have:=xm l [];rw[List.append_nil] at this;exact this
theorem xn (l:List Int):(pC l).length=l.length:=(uY l).length_eq
theorem Dw {x:Int}:∀ {l:List Int},l.Pairwise (· < ·)→x ∉ l→(JV x l).Pairwise (· < ·)
 | [],_,_=>by simp[JV]
 | a::l,h,hx=>by
  rw[List.pairwise_cons] at h
  simp only[List.mem_cons,not_or] at hx
  have ih:=Dw h.2 hx.2
  by_cases hax:a < x
  ·have e:JV x (a::l)=a::JV x l:=by simp[JV,List.takeWhile_cons,List.dropWhile_cons,hax]
   rw[e,List.pairwise_cons]
   refine⟨fun y hy=>?_,ih⟩
   rcases List.mem_cons.1 ((Dx x l).mem_iff.1 hy) with rfl | hy
   ·exact hax
   ·exact h.1 y hy
  ·have e:JV x (a::l)=x::a::l:=by simp[JV,List.takeWhile_cons,List.dropWhile_cons,hax]
   rw[e,List.pairwise_cons,List.pairwise_cons]
   refine⟨fun y hy=>?_,h.1,h.2⟩
   rcases List.mem_cons.1 hy with rfl | hy
   ·omega
   ·have:=h.1 y hy;omega
theorem td:∀ {l out:List Int},out.Pairwise (· < ·)→(l++out).Nodup→(l.foldl (fun out x=>JV x out) out).Pairwise (· < ·)
 | [],_,h,_=>h
 | x::l,out,h,hn=>by
  rw[List.foldl_cons]
  have hn2:(l++x::out).Nodup:=List.perm_middle.nodup_iff.2 (by simpa using hn)
  have hx:x ∉ out:=by
   rw[List.nodup_append] at hn2
   exact (List.nodup_cons.1 hn2.2.1).1
  exact td (Dw h hx) (((Dx x out).symm.append_left l).nodup_iff.1 hn2)
theorem zX {l:List Int} (h:l.Nodup):(pC l).Pairwise (· < ·):=td (out:=[]) List.Pairwise.nil (by simpa using h)
theorem y7:∀ {l r:List Int},l.Pairwise (· < ·)→r.Pairwise (· < ·)→(∀ x,x ∈ l ↔ x ∈ r)→l=r
 | [],[],_,_,_=>rfl
 | [],b::r,_,_,h=>by have:=(h b).2 (by simp);cases this
 | a::l,[],_,_,h=>by have:=(h a).1 (by simp);cases this
 | a::l,b::r,hl,hr,h=>by
  rw[List.pairwise_cons] at hl hr
  have e:a=b:=by
   have h1:=(h a).1 (by simp)
   have h2:=(h b).2 (by simp)
   rcases List.mem_cons.1 h1 with e | h1
   ·exact e
   rcases List.mem_cons.1 h2 with e | h2
   ·exact e.symm
   have:=hl.1 b h2
   have:=hr.1 a h1
   omega
  subst e
  congr 1
  refine y7 hl.2 hr.2 fun x=>⟨fun hx=>?_,fun hx=>?_⟩
  ·rcases List.mem_cons.1 ((h x).1 (by simp[hx])) with e | h'
   ·have:=hl.1 x hx;omega
   ·exact h'
  ·rcases List.mem_cons.1 ((h x).2 (by simp[hx])) with e | h'
   ·have:=hr.1 x hx;omega
   ·exact h'
end Go.Sx
namespace Go.Sx
open Go
set_option maxRecDepth 100000
set_option maxHeartbeats 1000000
abbrev uV (n:Nat):Value:=.int .u64 (n:Int)
theorem NU {n:Nat} (h:n < 2 ^ 64):IntKind.u64.wrap (n:Int)=n:=by
 simp only[IntKind.wrap,IntKind.bits,IntKind.signed]
 simp
 omega
theorem Wg {a b:Nat} (ha:a < 2 ^ 64) (hb:b < 2 ^ 64):ak (.bin .and .int) [uV a,uV b]=some (uV (a &&& b)):=by
 show some (Value.int .u64 (IntKind.u64.wrap ((BitVec.ofNat 64 a &&& BitVec.ofNat 64 b).toNat:Int)))=_
 rw[BitVec.toNat_and,BitVec.toNat_ofNat,BitVec.toNat_ofNat,Nat.mod_eq_of_lt ha,Nat.mod_eq_of_lt hb,NU (Nat.and_lt_two_pow a hb)]
theorem W9 {a b:Nat} (ha:a < 2 ^ 64) (hb:b < 2 ^ 64):ak (.bin .or .int) [uV a,uV b]=some (uV (a ||| b)):=by
 show some (Value.int .u64 (IntKind.u64.wrap ((BitVec.ofNat 64 a ||| BitVec.ofNat 64 b).toNat:Int)))=_
 rw[BitVec.toNat_or,BitVec.toNat_ofNat,BitVec.toNat_ofNat,Nat.mod_eq_of_lt ha,Nat.mod_eq_of_lt hb,NU (Nat.or_lt_two_pow ha hb)]
theorem J5 {a:Nat} (ha:a < 2 ^ 64):ak .compl [uV a]=some (uV (2 ^ 64 - 1 ^^^ a)):=by
 show some (Value.int .u64 (IntKind.u64.wrap ((BitVec.ofNat 64 (2 ^ 64 - 1) ^^^ BitVec.ofNat 64 a).toNat:Int)))=_
 rw[BitVec.toNat_xor,BitVec.toNat_ofNat,BitVec.toNat_ofNat,Nat.mod_eq_of_lt ha,Nat.mod_eq_of_lt (by omega),NU (Nat.xor_lt_two_pow (by omega) ha)]
theorem WO {a:Nat} (ha:a < 2 ^ 64) (h0:0 < a):ak .neg [uV a]=some (uV (2 ^ 64 - a)):=by
 show some (Value.int .u64 (IntKind.u64.wrap (0 - (a:Int))))=_
 congr 2
 simp only[IntKind.wrap,IntKind.bits,IntKind.signed]
 simp
 omega
theorem WG {r:Nat} (h:r < 64):ak (.bin .shl .int) [uV 1,.int .i64 r]=some (uV (2 ^ r)):=by
 have e:ak (.bin .shl .int) [uV 1,.int .i64 r]=(if (r:Int) < 0 then none else some (Value.int .u64 (IntKind.u64.wrap ((1:Nat) * 2 ^ (min (r:Int).toNat 64))))):=rfl
 rw[e,if_neg (by omega),Int.toNat_natCast,Nat.min_eq_left (by omega)]
 congr 2
 rw[← NU (n:=2 ^ r) (Nat.pow_lt_pow_right (by omega) h)]
 congr 1
 simp
theorem UG (a b:Nat):ak (.bin .neq .int) [uV a,uV b]=some (.bool (a != b)):=by
 show some (Value.bool ((a:Int) != b))=_
 congr 2
 rw[Bool.eq_iff_iff];simp;omega
theorem VX (a b:Nat):ak (.bin .eql .int) [uV a,uV b]=some (.bool (a == b)):=by
 show some (Value.bool ((a:Int) == b))=_
 congr 2
 rw[Bool.eq_iff_iff];simp;omega
theorem W0 {a b:Nat} (h:a + b < 2 ^ 64):ak (.bin .add .int) [uV a,uV b]=some (uV (a + b)):=by
 show some (Value.int .u64 (IntKind.u64.wrap ((a:Int) + b)))=_
 rw[show (a:Int) + b=((a + b:Nat):Int) by omega,NU h]
theorem PC:∀ {n x:Nat},0 < x→x < 2 ^ n→∃ k m,k < n∧x=2 ^ k * (2 * m + 1)
 | 0,x,h0,h=>by simp at h;omega
 | n + 1,x,h0,h=>by
  rcases Nat.mod_two_eq_zero_or_one x with e | e
  ·obtain⟨k,m,h1,h2⟩:=PC (n:=n) (x:=x / 2) (by omega) (by rw[Nat.pow_succ] at h;omega)
   refine⟨k + 1,m,by omega,?_⟩
   have:x=2 * (x / 2):=by omega
   rw[this,h2,Nat.pow_succ];ac_rfl
  ·exact⟨0,x / 2,by omega,by omega⟩
theorem Kv {k m:Nat} (j:Nat):(2 ^ k * (2 * m + 1)).testBit j=(decide (k≤j) && (2 * m + 1).testBit (j - k)):=Nat.testBit_two_pow_mul
theorem RY {k m:Nat}:2 ^ k * (2 * m + 1) - 1=2 ^ k * (2 * m) + (2 ^ k - 1):=by
 have:=Nat.two_pow_pos k
 rw[Nat.mul_add];omega
theorem UO {x k m:Nat} (hx:x < 2 ^ 64) (h:x=2 ^ k * (2 * m + 1)):x &&& (2 ^ 64 - x)=2 ^ k:=by
 have hp:=Nat.two_pow_pos k
 have h0:0 < x:=by rw[h];exact Nat.mul_pos hp (by omega)
 refine Nat.eq_of_testBit_eq fun j=>?_
 rw[Nat.testBit_and,show 2 ^ 64 - x=2 ^ 64 - ((x - 1) + 1) by omega,Nat.testBit_two_pow_sub_succ (by omega),Nat.testBit_two_pow,h,Kv,RY,Nat.testBit_two_pow_mul_add _ (by omega),Nat.testBit_two_pow_sub_one]
 by_cases hj:j < k
 ·rw[if_pos hj,decide_eq_false (show ¬ k≤j by omega),decide_eq_false (show ¬ k=j by omega)];rfl
 ·rw[if_neg hj]
  obtain⟨d,rfl⟩:∃ d,j=k + d:=⟨j - k,by omega⟩
  rw[Nat.add_sub_cancel_left]
  cases d with
  | zero =>
   have:k < 64:=by
    refine Nat.lt_of_not_le fun hk=>?_
    have:=Nat.pow_le_pow_right (n:=2) (by omega) hk
    have h2:2 ^ k * 1≤2 ^ k * (2 * m + 1):=Nat.mul_le_mul_left _ (by omega)
    omega
   simp[this]
  | succ d =>
   rw[Nat.testBit_succ,Nat.testBit_succ,show (2 * m + 1) / 2=m by omega,show 2 * m / 2=m by omega]
   cases m.testBit d <;> simp
theorem UN {x k m j:Nat} (h:x=2 ^ k * (2 * m + 1)) (hj:j < k):x.testBit j=false:=by rw[h,Kv];simp;omega
theorem VR {x k m:Nat} (h:x=2 ^ k * (2 * m + 1)):x.testBit k=true:=by rw[h,Kv];simp
theorem KR (z:Value):∀ n,List.replicate n z=(List.replicate n [z]).flatten
 | 0=>rfl
 | n + 1=>by rw[List.replicate_succ,List.replicate_succ,List.flatten_cons,← KR z n];rfl
theorem OH (z:Value):∀ n,wy [z] n=List.replicate n z
 | 0=>rfl
 | n + 1=>by rw[wy,OH z n];rfl
theorem RV {P:Program} {t elem:TypeId} {z:Value} (hu:P.underlying t=some (.slice elem)) (hs:oQ P elem=some 1) (hz:zS P elem=some [.k z]) (hby:((P.info? elem).map fun i=>decide (i.bytes≤16)).getD false=true) (hzo:z.oneCell'=true)
  {n:Nat} (hn:n≤65536) {H:Heap} {O:Own} {K:List Value→List (List Value)→Heap→Own→Prop} (hk:∀ v A,OSl elem 1 v (List.replicate n [z]) A→K [v] [] H (A++O)) :
  dZ (fun H1 O1 R=>bW P ((PrimOp.makeSlice t).sem [iV n,iV n]) H1 O1 R) false [] [] .one K H O:=by
 obtain⟨zv,hzr,hzc,_,_⟩:=pV hz
 have hrun:∀ w,((PrimOp.makeSlice t).sem [iV n,iV n]).run P w=.ok (.value (.slice (some ⟨w.heap.size,0,none⟩) n n)) { w with heap:=w.heap.push (.cells (List.replicate n z).toArray elem (0,0)) }:=by
  intro w
  have hzc':zv.cells=#[z]:=by
   apply Array.ext'
   rw[hzc];rfl
  have hrep:((Array.range (n * 1)).map fun i=>(#[z]:Array Value)[i % (#[z]:Array Value).size]!)=(List.replicate n z).toArray:=by
   have:=mX [z] (by simp) n
   apply Array.ext'
   rw[← OH,← this]
   simp
  cases hi:P.info? elem with
  | none=>rw[hi] at hby;simp at hby
  | some i =>
   rw[hi] at hby
   simp only[Option.map_some,Option.getD_some,decide_eq_true_eq] at hby
   have w1:IntKind.i64.wrap (n:Int)=n:=gJ (by omega) (by omega)
   have hby':¬ ((i.bytes:Int) * (n:Int) > 2 ^ 48):=by
    have h1:i.bytes * n≤16 * 65536:=Nat.mul_le_mul hby hn
    have e:((i.bytes * n:Nat):Int)=(i.bytes:Int) * (n:Int):=Int.natCast_mul _ _
    omega
   have hcnd:¬ (((decide ((n:Int) < 0) || decide ((i.bytes:Int) * (n:Int) > 2 ^ 48)) || decide ((n:Int) < 0) || decide ((n:Int) > (n:Int)))=true):=by
    simp only[Bool.or_eq_true,decide_eq_true_eq]
    omega
   have hti:(typeInfo elem).run P w=.ok i w:=by simp[typeInfo,hi]
   have hA:(asInt (.int .i64 (n:Int))).run P w=.ok (n:Int) w:=rfl
   show ((do pure (Next.value (← Instr.makeSlice t (iV n) (iV n)))):Sem Next).run P w=_
   rw[Sem.run_bind]
   unfold Instr.makeSlice
   rw[Sem.run_bind,aG hu]
   simp only[Result.andThen_ok]
   rw[Sem.run_bind,hA,Result.andThen_ok,Sem.run_bind,hA,Result.andThen_ok,Sem.run_bind,hti,Result.andThen_ok]
   simp only[w1]
   rw[if_neg hcnd]
   by_cases h0:n * 1=0
   ·have hm0:n=0:=by omega
    subst hm0
    simp only[Sem.run_bind,run_askRoom,bC hs,Result.andThen_ok,Int.toNat_natCast,Nat.zero_mul,if_true,Sem.run_pure,show Array.range 0=#[] from rfl,Array.map_empty,newRow,run_newObj,List.replicate]
   ·simp only[Sem.run_bind,run_askRoom,bC hs,Result.andThen_ok,Int.toNat_natCast,h0,if_false,hzr,Sem.run_pure,hzc',hrep,newRow,run_newObj]
 intro hc
 refine⟨H,[],O,fun v H' O'=>H'=H∧∃ A,O'=A∧OSl elem 1 v (List.replicate n [z]) A,Ghost.refl _ _,?_,?_⟩
 ·intro w F hm
  have hp:=hm.push (.cells (List.replicate n z).toArray elem (0,0))
  refine⟨_,_,H,[(w.heap.size,.cells (List.replicate n z).toArray elem (0,0))],hrun w,⟨rfl,_,rfl,.inr ⟨w.heap.size,List.replicate n z,n,?_,rfl,?_,?_,?_,?_,?_,?_⟩⟩,Heap.le_refl H,?_⟩
  ·rw[List.length_replicate]
  ·rw[List.length_replicate,Nat.mul_one]
  ·rw[List.length_replicate];exact Nat.le_refl _
  ·omega
  ·intro row hr;rw[List.eq_of_mem_replicate hr];rfl
  ·intro row hr;rw[List.eq_of_mem_replicate hr];exact⟨hzo,trivial⟩
  ·rw[List.length_replicate,Nat.mul_one,List.take_of_length_le (by simp)]
   exact KR z n
  ·simpa using hp
 ·rintro v H' O' ⟨rfl,A,rfl,h⟩ _
  exact⟨[v],[],O',rfl,⟨h.one,trivial⟩,trivial,rfl,hk v O' h⟩
theorem D3 {P:Program} {t t2 ty e:TypeId} {i:TypeInfo} (ht:P.underlying t=some (.slice e)) (hi:P.info? e=some i) {H:Heap} {O O2:Own} {r off dLen dCap m k:Nat} {cs src:List Value} {x:Value} {K:List Value→List (List Value)→Heap→Own→Prop}
  (hO:O.Perm ([(r,.cells cs.toArray e (0,0))]++O2)) (hl:∀ w':World,(Builtin.lenOf x).run P w'=.ok m w') (hk:k=min m dLen)
  (hcells:∀ w F,Models w H ([(r,.cells cs.toArray e (0,0))]++F)→(Builtin.firstCells i.size k x).run P w=.ok src.toArray w) (hfit:off + src.length≤cs.length) (h1:∀ v ∈ src,v.oneCell'=true)
  (hK:K [iV (k:Int)] [] H ([(r,.cells (cs.take off++src++cs.drop (off + src.length)).toArray e (0,0))]++O2)) :
  dZ (fun H1 O1 R=>bW P ((PrimOp.bi .copy #[t,t2] ty).sem [.slice (some ⟨r,off,none⟩) dLen dCap,x]) H1 O1 R) false [] [] .one K H O:=by
 refine LP (r:=r) (cs:=cs) (e:=e) (O2:=O2) (cs':=cs.take off++src++cs.drop (off + src.length)) hO (v:=iV (k:Int)) (fun w F hm=>?_) rfl ⟨rfl,trivial⟩ hK
 have hrow:=(hm.own (r,.cells cs.toArray e (0,0)) (by simp)).1
 have:=B9 (P:=P) (t:=t) (t2:=t2) (ty:=ty) ht hi (w:=w) (off:=off) (dLen:=dLen) (dCap:=dCap) hrow hl hk (hcells w F hm) hfit h1
 simp only[PrimOp.sem,builtin]
 rw[Sem.run_bind,this]
 rfl
theorem DF {P:Program} {w:World} {H:Heap} {r:Nat} {cs:List Value} {e:TypeId} {F:Own} (hm:Models w H ([(r,.cells cs.toArray e (0,0))]++F)) {size k off n cap:Nat} (hfit:off + k * size≤cs.length) :
  (Builtin.firstCells size k (.slice (some ⟨r,off,none⟩) n cap)).run P w=.ok ((cs.drop off).take (k * size)).toArray w:=by
 refine run_firstCells_some w size k ⟨r,off,none⟩ n cap _ (by rw[List.length_take,List.length_drop];omega) fun j u hj=>?_
 rw[cL]
 rw[List.getElem?_take] at hj
 split at hj
 ·rw[List.getElem?_drop] at hj
  exact RE hm hj
 ·cases hj
theorem IV {P:Program} {w:World} {H:Heap} {O:Own} (hm:Models w H O) {r:Nat} {cs:List Value} {e:TypeId} (hr:H r=some (.cells cs.toArray e (0,0))) {size k n cap:Nat} (hfit:k * size≤cs.length) :
  (Builtin.firstCells size k (.slice (some ⟨r,0,none⟩) n cap)).run P w=.ok (cs.take (k * size)).toArray w:=by
 refine run_firstCells_some w size k ⟨r,0,none⟩ n cap _ (by rw[List.length_take];omega) fun j u hj=>?_
 rw[cL,Nat.zero_add]
 rw[List.getElem?_take] at hj
 split at hj
 ·have:=hm.pers r _ hr
  simp[World.cell?,this,hj]
 ·cases hj
theorem US {P:Program} {f:FuncId} {args:List Value} {fn:Func} {e:Array Value→Sem Value} {v:Value} (hf:P.funcs[f]?=some fn) (hn:(fn.name == "runtime.NumGoroutine")=false) (hb:fn.body.isNone=true)
  (h1:Extern.findNext fn=none) (h2:Extern.find fn=some e) {w:World} (hr:(e args.toArray).run P w=.ok v w):((PrimOp.intr f).sem args).run P w=.ok (.value v) w:=by
 simp only[PrimOp.sem,callFunc,Sem.run_bind,run_program,Result.andThen_ok,hf,hn,hb,h1,h2,if_true,Bool.false_eq_true,if_false]
 simp[hr]
theorem NE {P:Program} {f:FuncId} {fn:Func} {tS tR e:TypeId} {size:Nat} (hf:P.funcs[f]?=some fn) (hn:(fn.name == "runtime.NumGoroutine")=false) (hb:fn.body.isNone=true)
  (h1:Extern.findNext fn=none) (h2:Extern.find fn=some (Extern.SlicesOverlaps.overlaps #[tS,tS] #[tR])) (ht:P.underlying tS=some (.slice e)) (hsz:oQ P e=some size)
  {H:Heap} {O O2:Own} {r rb off la ca lb cb:Nat} {cs bs:List Value} {K:List Value→List (List Value)→Heap→Own→Prop} (hO:O.Perm ([(r,.cells cs.toArray e (0,0))]++O2)) (hrb:H rb=some (.cells bs.toArray e (0,0))) (hcs:cs.length ≠ 0)
  (hK:K [.bool false] [] H ([(r,.cells cs.toArray e (0,0))]++O2)) :
  dZ (fun H1 O1 R=>bW P ((PrimOp.intr f).sem [.slice (some ⟨rb,0,none⟩) la ca,.slice (some ⟨r,off,none⟩) lb cb]) H1 O1 R) false [] [] .one K H O:=by
 refine LP (r:=r) (cs:=cs) (e:=e) (O2:=O2) (cs':=cs) hO (v:=.bool false) (fun w F hm=>?_) rfl ⟨rfl,trivial⟩ hK
 obtain⟨hrow,hno⟩:=hm.own (r,.cells cs.toArray e (0,0)) (by simp)
 have hw:=hm.pers rb _ hrb
 have hne:rb ≠ r:=by rintro rfl;simp only[] at hno;rw[hno] at hrb;cases hrb
 rw[setRow_self w r cs.toArray e (0,0) hrow]
 refine US hf hn hb h1 h2 ?_
 have:=Go.Lib.run_overlaps_apart (P:=P) w tS tR e ht size (fun w=>bC hsz w) ⟨rb,0,none⟩ ⟨r,off,none⟩ la ca lb cb hne e e bs.length cs.length
 refine this ?_ ?_ hcs ?_ ?_
 ·simp[World.shape?,hw]
 ·simp only[] at hrow;simp[World.shape?,hrow]
 ·simp[World.frozen?,hw]
 ·simp[World.frozen?,hw]
end Go.Sx
namespace Go.Sx
open Go
structure Cd where
 kind:Int
 tg:List Int
 tr:List Nat
def EffsS (H:Heap) (v:Value) (tg:List Int):Prop:=∃ rows,Sl H 5 v rows∧rows.length=tg.length∧∀ (i:Nat) (r:List Value) (t:Int),rows[i]?=some r→tg[i]?=some t→g r 1=iV t
def TrigR (H:Heap) (r:List Value) (n:Nat):Prop:=∃ erows,Sl H 5 (g r 1) erows∧erows.length=n
def TrigsS (H:Heap) (v:Value) (tr:List Nat):Prop:=∃ rows,Sl H 2 v rows∧rows.length=tr.length∧∀ (i:Nat) (r:List Value) (n:Nat),rows[i]?=some r→tr[i]?=some n→TrigR H r n
structure CdR (H:Heap) (r:List Value) (c:Cd):Prop where
 kind:g r 1=iV c.kind
 eff:EffsS H (g r 11) c.tg
 trig:TrigsS H (g r 12) c.tr
def CardsS (H:Heap) (v:Value) (cs:List Cd):Prop:=∃ rows,Sl H 14 v rows∧rows.length=cs.length∧∀ (i:Nat) (r:List Value) (c:Cd),rows[i]?=some r→cs[i]?=some c→CdR H r c
theorem EffsS.le {H H':Heap} {v:Value} {l:List Int} (h:EffsS H v l) (hl:Heap.le H H'):EffsS H' v l:=let ⟨rows,h1,h2,h3⟩:=h;⟨rows,h1.le hl,h2,h3⟩
theorem TrigR.le {H H':Heap} {r:List Value} {n:Nat} (h:TrigR H r n) (hl:Heap.le H H'):TrigR H' r n:=let ⟨rows,h1,h2⟩:=h;⟨rows,h1.le hl,h2⟩
theorem TrigsS.le {H H':Heap} {v:Value} {l:List Nat} (h:TrigsS H v l) (hl:Heap.le H H'):TrigsS H' v l:=let ⟨rows,h1,h2,h3⟩:=h;⟨rows,h1.le hl,h2,fun i r n a b=>(h3 i r n a b).le hl⟩
theorem CdR.le {H H':Heap} {r:List Value} {c:Cd} (h:CdR H r c) (hl:Heap.le H H'):CdR H' r c:=⟨h.kind,h.eff.le hl,h.trig.le hl⟩
theorem CardsS.le {H H':Heap} {v:Value} {cs:List Cd} (h:CardsS H v cs) (hl:Heap.le H H'):CardsS H' v cs:=let ⟨rows,h1,h2,h3⟩:=h;⟨rows,h1.le hl,h2,fun i r c a b=>(h3 i r c a b).le hl⟩
def Dq (cs:List Cd):List Int:=cs.map (·.kind)
theorem CardsS.kinds {H:Heap} {v:Value} {cs:List Cd} (h:CardsS H v cs):KindS H v (Dq cs):=by
 obtain⟨rows,h1,h2,h3⟩:=h
 refine⟨rows,h1,by simp[Dq,h2],fun i r k a b=>?_⟩
 rw[Dq,List.getElem?_map] at b
 cases hc:cs[i]? with
 | none=>rw[hc] at b;cases b
 | some c =>
  rw[hc] at b
  obtain rfl:c.kind=k:=by simpa using b
  exact (h3 i r c a hc).kind
theorem CardsS.one {H:Heap} {v:Value} {cs:List Cd} (h:CardsS H v cs):v.oneCell'=true:=let ⟨_,h1,_⟩:=h;h1.one
theorem CardsS.len {H:Heap} {v:Value} {cs:List Cd} (h:CardsS H v cs):ak .len [v]=some (iV cs.length):=by
 obtain⟨rows,h1,h2,_⟩:=h
 have:=h1.len;rwa [h2] at this
theorem EffsS.one {H:Heap} {v:Value} {l:List Int} (h:EffsS H v l):v.oneCell'=true:=let ⟨_,h1,_⟩:=h;h1.one
theorem EffsS.len {H:Heap} {v:Value} {l:List Int} (h:EffsS H v l):ak .len [v]=some (iV l.length):=by
 obtain⟨rows,h1,h2,_⟩:=h
 have:=h1.len;rwa [h2] at this
theorem TrigsS.one {H:Heap} {v:Value} {l:List Nat} (h:TrigsS H v l):v.oneCell'=true:=let ⟨_,h1,_⟩:=h;h1.one
theorem TrigsS.len {H:Heap} {v:Value} {l:List Nat} (h:TrigsS H v l):ak .len [v]=some (iV l.length):=by
 obtain⟨rows,h1,h2,_⟩:=h
 have:=h1.len;rwa [h2] at this
theorem EffsS.nil (H:Heap):EffsS H (.slice none 0 0) []:=⟨[],Sl.nil H 5,rfl,fun i r t h=>by simp at h⟩
theorem TrigsS.nil (H:Heap):TrigsS H (.slice none 0 0) []:=⟨[],Sl.nil H 2,rfl,fun i r t h=>by simp at h⟩
def zCd:Cd:=⟨0,[],[]⟩
def BL (cs:List Cd) (c:Int):Cd:=if c < 0∨c ≥ (cs.length:Int) then zCd else cs.getD c.toNat zCd
def iC (c:Cd):Bool:=!(decide ((c.tg.length:Int) > 5) || decide ((c.tr.length:Int) > 3)) && c.tr.all fun n=>!decide ((n:Int) > 5)
def dh (cs:List Cd):Bool:=(cs.take 13).all iC && decide ((cs.length:Int)≤12)
theorem BC {cs:List Cd} (h:dh cs=true) (c:Int):iC (BL cs c)=true:=by
 rw[dh,Bool.and_eq_true,decide_eq_true_eq] at h
 obtain⟨h1,h2⟩:=h
 rw[BL]
 split
 ·rfl
 ·rename_i hn
  rw[List.take_of_length_le (by omega),List.all_eq_true] at h1
  refine h1 _ ?_
  have hlt:c.toNat < cs.length:=by omega
  rw[List.getD_eq_getElem?_getD,List.getElem?_eq_getElem hlt]
  exact List.getElem_mem hlt
def dU (tg:List Int):List Int:=tg.filter fun t=>t != 0
end Go.Sx
