/- Cards are drawn: the program's. -/
import Derived.Test.YtdhobpmnkfmcfaaGreatDoorRW
import Derived.Test.YtdhobpmnkfmcfaaGreatDoorKN
import Derived.Test.YtdhobpmnkfmcfaaGreatDoorC21
namespace Go.Proofs.YtdhobpmnkfmcfaaGreatDoor
open Go Go.Sx
set_option maxRecDepth 100000
set_option maxHeartbeats 1000000
def oU (b:Bd) (p id:Int):Bd:=dw (DK b p id) (eX b id).toNat (cL (b.objs.getD (eX b id).toNat zO) 1)
def eG:Nat→Bd→Int→Bd
 | 0,b,_=>b
 | n + 1,b,p=>match (au b p).lib.getLast? with
  | none=>bH b p { au b p with empty:=true }
  | some id=>eG n (oU b p id) p
def rG (b:Bd) (p n:Int):Bd × Int:=if (!ay b || (!aw p 0 1 || decide (n < 0)))=true then (zBd,2) else (eG n.toNat b p,0)
def wD (w:cP) (x1 x2 x3 x4:Value):cP:={ w with l0:=x1,h0:=x2,l1:=x3,h1:=x4 }
def mkD (b:Bd) (os:List Ob) (a1 a2 a3 a4:List Int):Bd:={ b with objs:=os,s0:={ b.s0 with lib:=a1,hand:=a2 },s1:={ b.s1 with lib:=a3,hand:=a4 } }
theorem uW {n:Nat} (h:n + 1 < 2 ^ 63):ak (.bin .sub .int) [iV ((n + 1:Nat):Int),iV 1]=some (iV (n:Int)):=by
 simp only [ak,fC,eP,if_true]
 rw [ij (by omega) (by omega)]
 congr 3
 omega
theorem zn {b:Bd} (h:ay b=true) {p:Int} (hp:p=0∨p=1) {l:List Int} {id:Int} (hl:(au b p).lib=l++[id]) :
  ∃ (k:Nat) (o:Ob),b.objs[k]?=some o∧o.id=id∧o.owner=p∧eX b id=k∧ay (DK b p id)=true∧be (DK b p id) id=0∧BO (DK b p id) id=k∧i64 id∧oU b p id=dw (DK b p id) k (cL o 1)∧ay (oU b p id)=true:=by
 obtain ⟨_,m2,_,m4⟩:=JO hp hl
 have hpl:=(aY h).1
 obtain ⟨k,o,e1,e2,e3⟩:=UC hpl m4
 obtain ⟨v1,_,v3,_⟩:=eC hpl e1
 rw [e2] at v3
 have hmv:=QK h hp hl
 have hidx:eX (DK b p id) id=k:=by rw [eX,m2];exact v3
 have hn:¬ ((k:Int) < 0):=by omega
 have hid:=yR v1
 have hd:oU b p id=dw (DK b p id) k (cL o 1):=by
  simp only [oU,v3,Int.toNat_natCast,List.getD_eq_getElem?_getD,e1,Option.getD_some]
 refine ⟨k,o,e1,e2,e3,v3,hmv,by simp [be,hmv,hidx,hn],by rw [BO,if_pos hmv,hidx,if_neg hn],by rw [← e2];omega,hd,?_⟩
 rw [hd]
 exact Qa (o:=o) hmv (by rw [m2];exact e1) rfl rfl rfl (Ja 1 v1)
theorem UM {H:Heap} {v:cP} {b:Bd} (h:BdS H v b) (hB:bdB b) (p n:Int) (hn1000:n≤1000):Triple PP CG [.agg (ap v b).toArray,iV p,iV n] H [] fun r _ O'=>∃ w,r=.tuple #[.agg (ap w (rG b p n).1).toArray,iV (rG b p n).2]∧OwnB tys w (rG b p n).1 O':=by
 refine Gm (vs:=ap v b++[iV p,iV n]) (by kernel_rfl) (az (ao (h.r [])) ⟨rfl,rfl,trivial⟩) ?_
 simp only [wn]
 refine af fun r0=>af fun r1=>?_
 refine aa ?_
 refine ai (dY (h.r [])) rfl ⟨rfl,trivial⟩ fun H1 l1=>ab _ (aN _) (aj (fun hb=>?_) (fun hb=>?_))
 ·have e:rG b p n=(zBd,2):=by rw [rG,if_pos (by rw [wR hb];rfl)]
  refine aa (aa ?_)
  exact ah ⟨BJ,by rw [e];rfl,by rw [e];exact OwnB.zero tys⟩
 have hval:ay b=true:=rx hb
 replace h:=h.le l1
 refine ai (dt p 0 1 H1 []) rfl ⟨rfl,trivial⟩ fun H2 l2=>?_
 refine ab _ (aN _) (ae (ab _ (aJ _ _) (ae (ab _ (aS _ _) ?_))))
 refine aj (fun hb=>?_) (fun hb=>?_)
 ·have e:rG b p n=(zBd,2):=by
   have hb:(!aw p 0 1 || decide (n < 0))=true:=hb
   rw [rG,if_pos (by rw [hb];simp)]
  refine aa (aa ?_)
  exact ah ⟨BJ,by rw [e];rfl,by rw [e];exact OwnB.zero tys⟩
 have hb:(!aw p 0 1 || decide (n < 0))=false:=hb
 have e:rG b p n=(eG n.toNat b p,0):=by rw [rG,if_neg (by rw [hb,hval];simp)]
 simp only [Bool.or_eq_false_iff,Bool.not_eq_false',decide_eq_false_iff_not] at hb
 obtain ⟨hb1,hb2⟩:=hb
 have hp:p=0∨p=1:=by simp only [aw,decide_eq_true_eq] at hb1;omega
 obtain ⟨n0,rfl⟩:∃ n0:Nat,n=n0:=⟨n.toNat,by omega⟩
 rw [Int.toNat_natCast] at e
 rw [e]
 clear e
 replace h:=h.le l2
 refine aa ?_
 refine ax (KD h hB) ?_
 rintro _ H3 O3 ⟨w,rfl,ho⟩ l3
 refine ⟨ap w b,rfl,bq H3 ho,?_⟩
 rw [List.append_nil]
 obtain ⟨_,⟨m2,m3,_,_⟩,⟨m6,m7,_,_⟩,_⟩:=hB
 refine aa ?_
 rcases hp with rfl | rfl
 ·refine ⟨.i64,0,rfl,fun _=>?_,fun e=>absurd rfl e⟩
  refine iU (fun vs H' O'=>∃ (m:Nat) (x1 x2 x3 x4:Value) (os:List Ob) (a1 a2 a3 a4:List Int),vs=[iV m,x1,x2,x3,x4]∧m≤1000∧OwnB tys (wD w x1 x2 x3 x4) (mkD b os a1 a2 a3 a4) O'∧ay (mkD b os a1 a2 a3 a4)=true∧eG n0 b 0=eG m (mkD b os a1 a2 a3 a4) 0∧a1.length + a2.length≤4000000)
   (fun vs _ _=>match g vs 0 with | .int _ k=>k.toNat | _=>0) ⟨n0,_,_,_,_,b.objs,b.s0.lib,b.s0.hand,b.s1.lib,b.s1.hand,rfl,by omega,ho,hval,rfl,by omega⟩ ?_
  rintro vs H' O' - - - ⟨m,x1,x2,x3,x4,os,a1,a2,a3,a4,rfl,hm,hown,hv,hgo,hlen⟩
  refine ab _ (bG _ _) (aj (fun hb=>?_) (fun hb=>?_))
  ·have hb:=of_decide_eq_true hb
   obtain ⟨m',rfl⟩:∃ m':Nat,m=m' + 1:=⟨m - 1,by omega⟩
   have hR:=hown.r (fun p hp=>hp) H'
   have hl1:ak .len [x1]=some (iV a1.length):=by have:=hR.s0.lib.len;rwa [aI,List.length_map] at this
   refine aa ?_
   refine ab _ hl1 (ab _ (aA _ _) (aj (fun hb=>?_) (fun hb=>?_)))
   ·have h0:a1=[]:=by
     have:a1.length=0:=by simpa using hb
     exact List.eq_nil_of_length_eq_zero this
    subst h0
    have e:eG n0 b 0=bH (mkD b os [] a2 a3 a4) 0 { au (mkD b os [] a2 a3 a4) 0 with empty:=true }:=by rw [hgo];rfl
    rw [e]
    refine aa (aa (aa (aa ?_)))
    refine ah ⟨wD w x1 x2 x3 x4,rfl,?_⟩
    obtain ⟨Oo,A0,B0,C0,D0,A1,B1,C1,D1,Os,Oq,Oa,Obk,hq,hh⟩:=hown
    exact ⟨Oo,A0,B0,C0,D0,A1,B1,C1,D1,Os,Oq,Oa,Obk,hq,⟨hh.objs,hh.l0,hh.h0,hh.f0,hh.g0,hh.l1,hh.h1,hh.f1,hh.g1,hh.stack,hh.queue,hh.att,hh.blocks⟩⟩
   ·obtain ⟨l,id,rfl⟩:∃ l id,a1=l++[id]:=by
     have hne:a1 ≠ []:=by rintro rfl;simp at hb
     exact ⟨a1.dropLast,a1.getLast hne,(List.dropLast_concat_getLast hne).symm⟩
    obtain ⟨k,ob,e1,e2,e3,e4,hmv,hE,hI,hid,hd,hdv⟩:=zn hv (p:=0) (.inl rfl) (l:=l) (id:=id) rfl
    have hll:(l++[id]).length=l.length + 1:=by simp
    rw [hll]
    have hls:l.length + 1 < 2 ^ 63:=by rw [hll] at hlen;omega
    refine aa ?_
    refine ab _ (uW hls) ?_
    obtain ⟨a,i1,i2,_,i3,i4⟩:=hR.s0.lib.idx .i64 l.length [iV id] (by show (aI (l++[id]))[l.length]?=_;simp [aI])
    refine ab _ i1 (ar i2 i3 i4 ?_)
    refine aa ?_
    refine ab _ (uW hls) ?_
    obtain ⟨A,R,hp1,hA,back⟩:=OwnB.pick_l0 hown
    have hA:OSl aO 1 x1 (aI (l++[id])) A:=hA
    obtain ⟨u,su,hu⟩:=hA.upto (i:=l.length) (by simp [aI])
    have hu:OSl aO 1 u (aI l) A:=by
     have:(aI (l++[id])).take l.length=aI l:=by simp [aI]
     rwa [this] at hu
    have ho1:=OwnB.perm (back u l A hu) hp1
    refine ab _ su ?_
    refine aa ?_
    refine af fun r2=>?_
    obtain ⟨A2,R2,hp2,hA2,back2⟩:=OwnB.pick_h0 ho1
    have hA2:OSl aO 1 x2 (aI a2) A2:=hA2
    refine aH (rows:=aI a2) (news:=[[iV id]]) (O1:=A2) (O2:=R2) (e:=aO) (size:=1) (bytes:=8) (by kernel_rfl) hp2 hA2 (fun Hf _ hf=>Sl.block1 (hf _ List.mem_cons_self) rfl ⟨rfl,trivial⟩) (by simp [aI];omega) (by simp [aI];omega) ?_
    intro y A' H6 l6 hA'
    have hA3:OSl aO 1 y (aI (a2++[id])) A':=by rw [aI,List.map_append];exact hA'
    have ho2:=back2 y (a2++[id]) A' hA3
    have emid:DK (mkD b os (l++[id]) a2 a3 a4) 0 id=mkD b os l (a2++[id]) a3 a4:=by
     simp only [DK,Tt,bH,au,mkD,if_true,List.dropLast_concat]
    rw [emid] at hmv hE hI hd
    have ho2:OwnB tys (wD w u y x3 x4) (mkD b os l (a2++[id]) a3 a4) (A'++R2):=ho2
    refine aa (aa (aa ?_))
    refine ai (AZ (ho2.r (fun p hp=>hp) H6) hid) rfl ⟨rfl,rfl,trivial⟩ fun H7 l7=>?_
    rw [hI]
    refine aa (aa ?_)
    have e1':(mkD b os l (a2++[id]) a3 a4).objs[k]?=some ob:=e1
    obtain ⟨a5,k1,k2,_,k3,k4⟩:=(ho2.r (fun p hp=>hp) H7).objs.idx .i64 k (Ob.row ob) (by rw [List.getElem?_map,e1'];rfl)
    have k1:ak (.idx 12) [w.o,iV k]=some (.pointer (some a5)):=k1
    refine ab _ k1 (ar k2 k3 k4 ?_)
    refine ai (LR ob 1 H7 _) rfl (vs:=(cL ob 1).row) (bD _) fun H8 l8=>?_
    obtain ⟨a6,q1,O1,q2,O2,q3,q4⟩:=OwnB.store_ob ho2 (X:=[]) (O':=A'++R2) (by simp) e1' (cL ob 1)
    have q1:ak (.idx 12) [w.o,iV k]=some (.pointer (some a6)):=q1
    rw [List.append_nil] at q3
    refine ab _ q1 ?_
    refine aC rfl ?_
    refine ⟨_,q2,?_⟩
    refine ab _ (uW (by omega)) ?_
    refine eL (by simp [Eqs]) ⟨m',u,y,x3,x4,os.set k (cL ob 1),l,(a2++[id]),a3,a4,rfl,by omega,OwnB.perm q4 q3,by rw [hd] at hdv;exact hdv,?_,by rw [hll] at hlen;simp only [List.length_append,List.length_cons,List.length_nil];omega⟩ ?_
    ·rw [hgo,eG]
     have egl:(au (mkD b os (l++[id]) a2 a3 a4) 0).lib.getLast?=some id:=by
      show (l++[id]).getLast?=some id
      simp
     rw [egl]
     show eG m' (oU _ 0 id) 0=_
     rw [hd];rfl
    ·show ((m':Int)).toNat < (((m' + 1:Nat):Int)).toNat
     omega
  ·have hm0:m=0:=by have:=of_decide_eq_false hb;omega
   subst hm0
   have e:eG n0 b 0=mkD b os a1 a2 a3 a4:=by rw [hgo];rfl
   rw [e]
   refine aa (aa (aa ?_))
   exact ah ⟨wD w x1 x2 x3 x4,rfl,hown⟩
 ·refine ⟨.i64,1,rfl,fun e=>absurd e (by omega),fun _=>⟨.i64,1,rfl,fun _=>?_,fun e=>absurd rfl e⟩⟩
  refine iU (fun vs H' O'=>∃ (m:Nat) (x1 x2 x3 x4:Value) (os:List Ob) (a1 a2 a3 a4:List Int),vs=[iV m,x1,x2,x3,x4]∧m≤1000∧OwnB tys (wD w x1 x2 x3 x4) (mkD b os a1 a2 a3 a4) O'∧ay (mkD b os a1 a2 a3 a4)=true∧eG n0 b 1=eG m (mkD b os a1 a2 a3 a4) 1∧a3.length + a4.length≤4000000)
   (fun vs _ _=>match g vs 0 with | .int _ k=>k.toNat | _=>0) ⟨n0,_,_,_,_,b.objs,b.s0.lib,b.s0.hand,b.s1.lib,b.s1.hand,rfl,by omega,ho,hval,rfl,by omega⟩ ?_
  rintro vs H' O' - - - ⟨m,x1,x2,x3,x4,os,a1,a2,a3,a4,rfl,hm,hown,hv,hgo,hlen⟩
  refine ab _ (bG _ _) (aj (fun hb=>?_) (fun hb=>?_))
  ·have hb:=of_decide_eq_true hb
   obtain ⟨m',rfl⟩:∃ m':Nat,m=m' + 1:=⟨m - 1,by omega⟩
   have hR:=hown.r (fun p hp=>hp) H'
   have hl1:ak .len [x3]=some (iV a3.length):=by have:=hR.s1.lib.len;rwa [aI,List.length_map] at this
   refine aa ?_
   refine ab _ hl1 (ab _ (aA _ _) (aj (fun hb=>?_) (fun hb=>?_)))
   ·have h0:a3=[]:=by
     have:a3.length=0:=by simpa using hb
     exact List.eq_nil_of_length_eq_zero this
    subst h0
    have e:eG n0 b 1=bH (mkD b os a1 a2 [] a4) 1 { au (mkD b os a1 a2 [] a4) 1 with empty:=true }:=by rw [hgo];rfl
    rw [e]
    refine aa (aa (aa (aa ?_)))
    refine ah ⟨wD w x1 x2 x3 x4,rfl,?_⟩
    obtain ⟨Oo,A0,B0,C0,D0,A1,B1,C1,D1,Os,Oq,Oa,Obk,hq,hh⟩:=hown
    exact ⟨Oo,A0,B0,C0,D0,A1,B1,C1,D1,Os,Oq,Oa,Obk,hq,⟨hh.objs,hh.l0,hh.h0,hh.f0,hh.g0,hh.l1,hh.h1,hh.f1,hh.g1,hh.stack,hh.queue,hh.att,hh.blocks⟩⟩
   ·obtain ⟨l,id,rfl⟩:∃ l id,a3=l++[id]:=by
     have hne:a3 ≠ []:=by rintro rfl;simp at hb
     exact ⟨a3.dropLast,a3.getLast hne,(List.dropLast_concat_getLast hne).symm⟩
    obtain ⟨k,ob,e1,e2,e3,e4,hmv,hE,hI,hid,hd,hdv⟩:=zn hv (p:=1) (.inr rfl) (l:=l) (id:=id) rfl
    have hll:(l++[id]).length=l.length + 1:=by simp
    rw [hll]
    have hls:l.length + 1 < 2 ^ 63:=by rw [hll] at hlen;omega
    refine aa ?_
    refine ab _ (uW hls) ?_
    obtain ⟨a,i1,i2,_,i3,i4⟩:=hR.s1.lib.idx .i64 l.length [iV id] (by show (aI (l++[id]))[l.length]?=_;simp [aI])
    refine ab _ i1 (ar i2 i3 i4 ?_)
    refine aa ?_
    refine ab _ (uW hls) ?_
    obtain ⟨A,R,hp1,hA,back⟩:=OwnB.pick_l1 hown
    have hA:OSl aO 1 x3 (aI (l++[id])) A:=hA
    obtain ⟨u,su,hu⟩:=hA.upto (i:=l.length) (by simp [aI])
    have hu:OSl aO 1 u (aI l) A:=by
     have:(aI (l++[id])).take l.length=aI l:=by simp [aI]
     rwa [this] at hu
    have ho1:=OwnB.perm (back u l A hu) hp1
    refine ab _ su ?_
    refine aa ?_
    refine af fun r2=>?_
    obtain ⟨A2,R2,hp2,hA2,back2⟩:=OwnB.pick_h1 ho1
    have hA2:OSl aO 1 x4 (aI a4) A2:=hA2
    refine aH (rows:=aI a4) (news:=[[iV id]]) (O1:=A2) (O2:=R2) (e:=aO) (size:=1) (bytes:=8) (by kernel_rfl) hp2 hA2 (fun Hf _ hf=>Sl.block1 (hf _ List.mem_cons_self) rfl ⟨rfl,trivial⟩) (by simp [aI];omega) (by simp [aI];omega) ?_
    intro y A' H6 l6 hA'
    have hA3:OSl aO 1 y (aI (a4++[id])) A':=by rw [aI,List.map_append];exact hA'
    have ho2:=back2 y (a4++[id]) A' hA3
    have emid:DK (mkD b os a1 a2 (l++[id]) a4) 1 id=mkD b os a1 a2 l (a4++[id]):=by
     simp only [DK,Tt,bH,au,mkD,show ¬ ((1:Int)=0) by omega,if_false,List.dropLast_concat]
    rw [emid] at hmv hE hI hd
    have ho2:OwnB tys (wD w x1 x2 u y) (mkD b os a1 a2 l (a4++[id])) (A'++R2):=ho2
    refine aa (aa (aa ?_))
    refine ai (AZ (ho2.r (fun p hp=>hp) H6) hid) rfl ⟨rfl,rfl,trivial⟩ fun H7 l7=>?_
    rw [hI]
    refine aa (aa ?_)
    have e1':(mkD b os a1 a2 l (a4++[id])).objs[k]?=some ob:=e1
    obtain ⟨a5,k1,k2,_,k3,k4⟩:=(ho2.r (fun p hp=>hp) H7).objs.idx .i64 k (Ob.row ob) (by rw [List.getElem?_map,e1'];rfl)
    have k1:ak (.idx 12) [w.o,iV k]=some (.pointer (some a5)):=k1
    refine ab _ k1 (ar k2 k3 k4 ?_)
    refine ai (LR ob 1 H7 _) rfl (vs:=(cL ob 1).row) (bD _) fun H8 l8=>?_
    obtain ⟨a6,q1,O1,q2,O2,q3,q4⟩:=OwnB.store_ob ho2 (X:=[]) (O':=A'++R2) (by simp) e1' (cL ob 1)
    have q1:ak (.idx 12) [w.o,iV k]=some (.pointer (some a6)):=q1
    rw [List.append_nil] at q3
    refine ab _ q1 ?_
    refine aC rfl ?_
    refine ⟨_,q2,?_⟩
    refine ab _ (uW (by omega)) ?_
    refine eL (by simp [Eqs]) ⟨m',x1,x2,u,y,os.set k (cL ob 1),a1,a2,l,(a4++[id]),rfl,by omega,OwnB.perm q4 q3,by rw [hd] at hdv;exact hdv,?_,by rw [hll] at hlen;simp only [List.length_append,List.length_cons,List.length_nil];omega⟩ ?_
    ·rw [hgo,eG]
     have egl:(au (mkD b os a1 a2 (l++[id]) a4) 1).lib.getLast?=some id:=by
      show (l++[id]).getLast?=some id
      simp
     rw [egl]
     show eG m' (oU _ 1 id) 1=_
     rw [hd];rfl
    ·show ((m':Int)).toNat < (((m' + 1:Nat):Int)).toNat
     omega
  ·have hm0:m=0:=by have:=of_decide_eq_false hb;omega
   subst hm0
   have e:eG n0 b 1=mkD b os a1 a2 a3 a4:=by rw [hgo];rfl
   rw [e]
   refine aa (aa (aa ?_))
   exact ah ⟨wD w x1 x2 x3 x4,rfl,hown⟩
end Go.Proofs.YtdhobpmnkfmcfaaGreatDoor
namespace Go.Proofs.YtdhobpmnkfmcfaaGreatDoor
open Go Go.Sx
set_option maxRecDepth 100000
set_option maxHeartbeats 1000000
end Go.Proofs.YtdhobpmnkfmcfaaGreatDoor
namespace Go.Proofs.YtdhobpmnkfmcfaaGreatDoor
open Go Go.Sx
set_option maxRecDepth 100000
set_option maxHeartbeats 1000000
theorem Ic {b:Bd} (h:fw b=true):bdB b:=by
 simp only [fw,im,nW,Bool.and_eq_true,Bool.not_eq_true',decide_eq_true_eq,decide_eq_false_iff_not,List.all_eq_true] at h
 obtain ⟨⟨a1,a2,a3,a4⟩,⟨a5,a6,a7,a8⟩,⟨a9,a10⟩,⟨a11,a12⟩,⟨a13,a14⟩,a15⟩:=h
 refine ⟨by omega,⟨by omega,by omega,by omega,by omega⟩,⟨by omega,by omega,by omega,by omega⟩,⟨by omega,fun x hx=>?_⟩,⟨by omega,fun x hx=>?_⟩,by omega,by omega⟩
 ·have:=a10 x hx;omega
 ·have:=a12 x hx;omega
theorem vR {P:Program} {f:FuncId} {args:List Value} {H:Heap} {O O1 O2:Own} {r:Value} {shp:Shp} {K:List Value→List (List Value)→Heap→Own→Prop} {vs:List Value}
  (hO:O.Perm (O1++O2)) (h:Triple P f args H O1 fun v _ _=>v=r) (ho:shp.open r=some vs) (h1:Ones vs) (hk:∀ H' O3,Heap.le H H'→K vs [] H' (O3++O2)) :
  dN (fun H1 O1 R=>Triple P f args H1 O1 R) false [] [] shp K H O:=by
 intro _
 refine ⟨H,O1,O2,_,Ghost.perm hO,h,fun v H' O' hr hle=>?_⟩
 subst hr
 exact ⟨vs,[],O',ho,h1,trivial,rfl,hk H' O' hle⟩
end Go.Proofs.YtdhobpmnkfmcfaaGreatDoor
namespace Go.Proofs.YtdhobpmnkfmcfaaGreatDoor
open Go Go.Sx
set_option maxRecDepth 100000
set_option maxHeartbeats 1000000
theorem DY (H:Heap):BdS H BJ zBd :=
 ⟨Sl.nil H 12,⟨Sl.nil H 1,Sl.nil H 1,Sl.nil H 1,Sl.nil H 1⟩,⟨Sl.nil H 1,Sl.nil H 1,Sl.nil H 1,Sl.nil H 1⟩,⟨[],Sl.nil H 5,rfl,fun i r x h=>by simp at h⟩,⟨[],Sl.nil H 5,rfl,fun i r x h=>by simp at h⟩,Sl.nil H 1,Sl.nil H 2⟩
def Sz (b:Bd) (o:Ob):Bd:=if 0≤eX b o.id then dw b (eX b o.id).toNat o else b
theorem Wz {H:Heap} {v:cP} {b:Bd} (h:BdS H v b) (hB:bdB b) (o:Ob):Triple PP lH [.agg (ap v b).toArray,.agg o.row.toArray] H [] fun r _ O'=>∃ w,r=.agg (ap w (Sz b o)).toArray∧OwnB tys w (Sz b o) O':=by
 refine w8 (vs:=ap v b++o.row) (by kernel_rfl) (az (ao (h.r [])) (bD o)) ?_
 simp only [lk]
 refine af fun r0=>af fun r1=>af fun r2=>?_
 refine aa ?_
 refine ax (GQ h hB) ?_
 rintro _ H3 O3 ⟨w,rfl,ho⟩ l3
 refine ⟨ap w b,rfl,bq H3 ho,?_⟩
 refine aa (aa (aa ?_))
 refine ai (yj (ho.r (fun p hp=>List.mem_append_left _ hp) H3) o.id) rfl ⟨rfl,trivial⟩ fun H4 l4=>ab _ (di _ _) (aj (fun hb=>?_) (fun hb=>?_))
 ·have hb:=of_decide_eq_true hb
  obtain ⟨k,x,e1,e2,e3⟩:=oQ (b:=b) (id:=o.id) (by omega)
  have e:Sz b o=dw b k o:=by simp [Sz,e3]
  rw [e,e3]
  obtain ⟨a',q1,O1,q2,O2,q3,q4⟩:=OwnB.store_ob ho (X:=[]) (O':=O3++[]) (by simp) e1 o
  refine aa (aa ?_)
  refine ab _ q1 (aC rfl ⟨_,q2,?_⟩)
  refine aa (aa (aa ?_))
  exact ah ⟨w,rfl,OwnB.perm q4 (by simpa using q3)⟩
 ·have hb:=of_decide_eq_false hb
  have e:Sz b o=b:=by rw [Sz,if_neg (by omega)]
  rw [e]
  refine aa (aa (aa ?_))
  exact ah ⟨w,rfl,OwnB.perm ho (by simp)⟩
theorem Xt {H:Heap} {v:cP} {b:Bd} (h:BdS H v b) (hB:bdB b) (o:Ob):Triple PP lH [.agg (ap v b).toArray,.agg o.row.toArray] H [] fun r H' O'=>(∃ w,r=.agg (ap w (Sz b o)).toArray∧BdS H' w (Sz b o))∧O'=[] :=
 Triple.frozen (Wz h hB o)
theorem LO {H:Heap} {wx vw vf vs:cP} {x want src was:Bd} {O1:Own} (hx:OwnB tys wx x O1) (hw:BdS H vw want) (hf:BdS H vf src) (hs:BdS H vs was) (e no:Int) :
  Triple PP nJ [.agg (ap wx x).toArray,iV e,.agg (ap vw want).toArray,iV no,.agg (ap vf src).toArray,.agg (ap vs was).toArray] H O1 fun r _ _=>r=.bool (((x == want) && (e == no)) && (src == was)):=by
 refine uA (vs:=ap wx x++([iV e]++(ap vw want++([iV no]++(ap vf src++ap vs was))))) (by kernel_rfl)
  (az (bq H hx) (az ⟨rfl,trivial⟩ (az (ao (hw.r [])) (az ⟨rfl,trivial⟩ (az (ao (hf.r [])) (ao (hs.r []))))))) ?_
 simp only [jB]
 refine af fun r0=>af fun r1=>af fun r2=>af fun r3=>?_
 refine aa (aa ?_)
 refine ai (GP (hx.r (fun p hp=>hp) H) (hw.r O1)) rfl ⟨rfl,trivial⟩ fun H1 l1=>?_
 refine ae (ae (ab _ (aA _ _) (ae (ab _ (aX _ _) ?_))))
 refine aj (fun hb=>?_) (fun hb=>?_)
 ·refine aa (aa ?_)
  refine ai (GP ((hf.le l1).r O1) ((hs.le l1).r O1)) rfl ⟨rfl,trivial⟩ fun H2 l2=>?_
  refine aa ?_
  refine vR (O2:=[]) (by simp) (Rz hx) rfl trivial fun H3 O3 l3=>aj (fun hc=>?_) (fun hc=>?_)
  ·have l:=Heap.le_trans l1 (Heap.le_trans l2 l3)
   refine aa (aa ?_)
   refine ai (GP ((hf.le l).r _) ((hs.le l).r _)) rfl ⟨rfl,trivial⟩ fun H4 l4=>ah ?_
   rw [show ((x == want) && (e == no))=true from hb,Bool.true_and];rfl
  ·refine ah ?_
   rw [show (src == was)=false from hc,Bool.and_false]
 ·refine aa ?_
  refine vR (O2:=[]) (by simp) (Rz hx) rfl trivial fun H3 O3 l3=>ah ?_
  rw [show ((x == want) && (e == no))=false from hb,Bool.false_and]
theorem Hr {α:Type} {p q:α→Bool}:∀ {l:List α} {i:Int},(∀ x ∈ l,p x=q x)→gx p l i=gx q l i
 | [],_,_=>rfl
 | a::l,i,h=>by
  simp only [gx,h a (by simp),Hr (l:=l) fun x hx=>h x (by simp [hx])]
theorem Nk {b:Bd} (h:ay b=true) (id:Int):∀ x ∈ b.stack,onR id x=sA id x:=by
 intro x hx
 have hf:=List.all_eq_true.1 (aY h).2.2.2 x hx
 have ht:=Ko hf
 simp only [onR,sA]
 by_cases hn:x.trig < 0
 ·simp [ht hn]
 ·have:¬ x.trig=-1:=by omega
  simp [hn,this]
theorem U5 {b:Bd} (h:ay b=true) (id:Int):ia (onR id) b id=ia (sA id) b id:=by
 simp only [ia,Hr (Nk h id)]
theorem GL {id:Int}:∀ {l:List (Int × Int × List Int)} {s:Int × Int × Int},mb id l=some s→∃ x ∈ l,id ∈ x.2.2
 | [],_,h=>by simp [mb] at h
 | a::l,s,h=>by
  simp only [mb] at h
  split at h
  ·rename_i hi
   have:=IF a.2.2 id 0 (by omega)
   rw [decide_eq_true hi] at this
   exact ⟨a,by simp,by simpa using this.symm⟩
  ·obtain ⟨x,hx,hm⟩:=GL h
   exact ⟨x,by simp [hx],hm⟩
theorem SO {b:Bd} (h:ay b=true) {id:Int} {s:Int × Int × Int} (hs:ia (sA id) b id=some s):¬ eX b id < 0:=by
 have hm:id ∈ (aZ b).map (·.1):=by
  rw [rC]
  simp only [Wh,Wg,List.mem_append,List.mem_map]
  unfold ia at hs
  split at hs
  ·rename_i s' e
   obtain ⟨x,hx,hm⟩:=GL e
   simp only [ii,List.mem_cons,List.not_mem_nil,or_false] at hx
   rcases hx with rfl | rfl | rfl | rfl | rfl | rfl | rfl | rfl <;> simp [hm]
  ·split at hs
   ·rename_i hi
    have:=AQ (sA id) b.stack 0 (by omega)
    rw [decide_eq_true hi] at this
    obtain ⟨x,hx,hp⟩:=List.any_eq_true.1 this.symm
    simp only [sA,Bool.and_eq_true,decide_eq_true_eq,beq_iff_eq] at hp
    right;right
    exact ⟨x,by simp [fe,hx,hp.1],hp.2⟩
   ·cases hs
 obtain ⟨o,ho,e,_⟩:=AK (aY h).1 id hm
 intro hn
 rcases mB (fun x:Ob=>x.id == id) b.objs 0 (by omega) with ⟨_,h2⟩ | ⟨k,x,_,_,e3⟩
 ·have:=h2 o ho
  simp [e] at this
 ·have:eX b id=k:=by rw [eX,e3];omega
  omega
theorem SC {b:Bd} (h:ay b=true) (id:Int):tU b id=Jl (ia (onR id) b id)∧be b id=GH (ia (onR id) b id):=by
 rw [U5 h]
 by_cases hi:eX b id < 0
 ·have he:be b id=9:=by simp [be,h,hi]
  cases e:ia (sA id) b id with
  | none=>exact ⟨by simp [tU,he,Jl],by simp [he,GH]⟩
  | some s=>exact absurd hi (SO h e)
 ·have he:be b id=0:=by simp [be,h,hi]
  obtain ⟨k,o,e1,e2,_⟩:=oQ hi
  obtain ⟨s,hs⟩:=GK h e1
  rw [e2] at hs
  exact ⟨by simp [tU,he],by simp [he,GH,hs]⟩
end Go.Proofs.YtdhobpmnkfmcfaaGreatDoor
namespace Go.Proofs.YtdhobpmnkfmcfaaGreatDoor
open Go Go.Sx
set_option maxRecDepth 100000
set_option maxHeartbeats 1000000
theorem WA (o:Ob) (H:Heap) (O:Own):RetO PP pD [.agg o.row.toArray] H O (.agg (S3 o).row.toArray):=by
 refine vn (vs:=o.row) (by kernel_rfl) (bD o) ?_
 simp only [ki]
 refine af fun r0=>af fun r1=>?_
 repeat (first | refine aa ?_ | refine ae ?_)
 exact ah ⟨rfl,rfl⟩
theorem Vh (o:Ob) (z:Int) (H:Heap) (O:Own):RetO PP nF [.agg o.row.toArray,iV z] H O (.agg (cL o z).row.toArray):=by
 refine uv (vs:=o.row++[iV z]) (by kernel_rfl) (az (bD o) ⟨rfl,trivial⟩) ?_
 simp only [jw]
 refine af fun r0=>af fun r1=>?_
 refine aa ?_
 refine ai (WA o H O) rfl (vs:=(S3 o).row) (bD _) fun H1 l1=>?_
 refine aa ?_
 refine ab _ (aA _ _) ?_
 repeat (first | refine aa ?_ | refine ae ?_)
 exact ah ⟨rfl,rfl⟩
theorem BB {l:List Int} {i:Nat} (h:i < l.length) (id:Int):du (l.take (i + 1)) id=du (l.take i) id++(if l[i] != id then [l[i]] else []):=by
 rw [List.take_add_one,List.getElem?_eq_getElem h,du,List.filter_append]
 congr 1
 simp only [Option.toList_some,List.filter_cons,List.filter_nil]
theorem KU (l:List Int) (id:Int):(du l id).length≤l.length:=List.length_filter_le _ _
theorem N7 {H:Heap} {v:Value} {l:List Int} (h:Sl H 1 v (aI l)) (hl:l.length≤1000000) (id:Int):Triple PP gR [v,iV id] H [] fun v' _ O'=>OSl aO 1 v' (aI (du l id)) O':=by
 refine re (vs:=[v,iV id]) (by kernel_rfl) ⟨h.one,rfl,trivial⟩ ?_
 simp only [gB]
 have hlen:ak .len [v]=some (iV l.length):=by have:=h.len;rwa [aI,List.length_map] at this
 refine dF l.length (fun i x H' O'=>Heap.le H H'∧OSl aO 1 x (aI (du (l.take i) id)) O') ⟨Heap.le_refl _,OSl.nil _ _⟩ ?_
 rintro i x H' O' hi - ⟨hle,hx⟩
 refine ab _ hlen (ab _ (aJ _ _) (aj (fun hb=>?_) (fun hb=>?_)))
 ·have hlt:i < l.length:=by simpa using hb
  obtain ⟨a,h1,h2,h3,h4⟩:=(h.le hle).idx (k:=.i64) (i:=i) (r:=[iV l[i]]) (by simp [aI,hlt])
  refine ab _ h1 (cT h2 h3 h4 (ab _ (bf _ _) (aj (fun hc=>?_) (fun hc=>?_))))
  ·refine ab _ h1 (cT h2 h3 h4 (af fun r0=>?_))
   have hw:(du (l.take i) id).length≤1000000:=Nat.le_trans (KU _ _) (by rw [List.length_take];omega)
   refine aH (rows:=aI (du (l.take i) id)) (news:=[[iV l[i]]]) (O1:=O') (O2:=[]) (e:=aO) (size:=1) (bytes:=8) (by kernel_rfl) (by simp) hx (fun Hf _ hf=>Sl.block1 (hf _ List.mem_cons_self) rfl ⟨rfl,trivial⟩) (by simp [aI];omega) (by simp [aI];omega) ?_
   intro v' A' H6 l6 hA'
   refine ab _ (aE (by omega)) (aV (by simp [Eqs]) hlt ⟨Heap.le_trans hle l6,?_⟩)
   rw [List.append_nil,BB hlt,if_pos hc,aI,List.map_append];exact hA'
  ·refine ab _ (aE (by omega)) (aV (by simp [Eqs]) hlt ⟨hle,?_⟩)
   have hc:(l[i] != id)=false:=hc
   rw [BB hlt,if_neg (by rw [hc];simp),List.append_nil];exact hx
 ·have hge:l.length≤i:=by simpa using hb
  rw [List.take_of_length_le hge] at hx
  exact ah hx
theorem Triple.frozenS {P:Program} {f:FuncId} {args:List Value} {H:Heap} {e:TypeId} {size:Nat} {rows:List (List Value)} (h:Triple P f args H [] fun v _ O'=>OSl e size v rows O') :
  Triple P f args H [] fun v H' O'=>Sl H' size v rows∧O'=[]:=by
 refine h.ghost ?_
 intro v H' O' _ hc ho
 obtain ⟨H'',g,k,_⟩:=ho.freeze (X:=[]) (by simpa using hc)
 exact ⟨H'',[],by simpa using g,k,rfl⟩
theorem kL {H:Heap} {v:Value} {l:List Int} (h:Sl H 1 v (aI l)) (hl:l.length≤1000000) (id:Int):Triple PP gR [v,iV id] H [] fun v' H' O'=>Sl H' 1 v' (aI (du l id))∧O'=[] :=
 Triple.frozenS (N7 h hl id)
def M1 (b:Bd) (id:Int):Bd:={ xi b id with stack:=b.stack.filter fun x=>!onR id x }
def prR (id:Int) (row:List Value):Bool:=(asI (g row 3) == some (-1)) && asI (g row 1) == some id
theorem Ln {b:Bd} (h:ay b=true) (id:Int):M1 b id=xi b id:=by
 have:(b.stack.filter fun x=>!onR id x)=b.stack.filter fun x=>!sA id x:=List.filter_congr fun x hx=>by rw [Nk h id x hx]
 simp only [M1,xi,this]
theorem fO {α:Type} {p:α→Bool} {l:List α} {i:Nat} (h:i < l.length):(l.take (i + 1)).filter p=(l.take i).filter p++(if p l[i] then [l[i]] else []):=by
 rw [List.take_add_one,List.getElem?_eq_getElem h,List.filter_append]
 congr 1
 simp only [Option.toList_some,List.filter_cons,List.filter_nil]
theorem yu {P:Program} {lab key:Nat} {x0:Value} {body:(List Value→Heap→Own→Prop)→List Value→Tree} {H:Heap} {O:Own} {Q:Value→Heap→Own→Prop} (n:Nat) (R:Nat→Value→Heap→Own→Prop)
  (h0:Cons H O→∃ H1 O1,Ghost H O H1 O1∧R 0 x0 H1 O1) (step:∀ i x H' O',i≤n→Heap.le H H'→R i x H' O'→(body (NX (IY n R) (MY n) (n - i)) [x,iV i]).den P Q H' O') :
  (Tree.loop lab key [x0,iV 0] body).den P Q H O:=by
 refine ⟨IY n R,MY n,fun hc=>?_,?_⟩
 ·obtain ⟨H1,O1,g,r⟩:=h0 hc
  exact ⟨H1,O1,g,0,x0,rfl,Nat.zero_le _,r⟩
 ·rintro vs H' O' _ _ hle ⟨i,x,rfl,hi,hr⟩
  exact step i x H' O' hi hle hr
theorem Xu {H:Heap} {v:cP} {b:Bd} (h:BdS H v b) (hB:bdB b) (id:Int):Triple PP qg [.agg (ap v b).toArray,iV id] H [] fun r H' O'=>(∃ w,r=.agg (ap w (M1 b id)).toArray∧BdS H' w (M1 b id))∧O'=[]:=by
 refine xc (vs:=ap v b++[iV id]) (by kernel_rfl) (az (ao (h.r [])) ⟨rfl,trivial⟩) ?_
 simp only [lm]
 have hB':=hB
 obtain ⟨b1,⟨b2,b3,b4,b5⟩,⟨b6,b7,b8,b9⟩,⟨b10,b10'⟩,b11,b12,b13⟩:=hB
 refine af fun r0=>af fun r1=>?_
 refine aa ?_
 refine ax (Triple.frozen (GQ h hB')) ?_
 rintro _ H1 _ ⟨⟨w,rfl,hw⟩,rfl⟩ l1
 refine ⟨ap w b,rfl,ao (hw.r []),?_⟩
 repeat (first | refine aa ?_ | refine ae ?_)
 refine ax (kL hw.s0.lib b2 id) ?_
 rintro x0 K0 _ ⟨z0,rfl⟩ j0
 refine ⟨[x0],rfl,⟨z0.one,trivial⟩,?_⟩
 replace hw:=hw.le j0
 refine ax (kL hw.s0.hand b3 id) ?_
 rintro x1 K1 _ ⟨z1,rfl⟩ j1
 refine ⟨[x1],rfl,⟨z1.one,trivial⟩,?_⟩
 replace hw:=hw.le j1
 replace z0:=z0.le j1
 refine ax (kL hw.s0.field b4 id) ?_
 rintro x2 K2 _ ⟨z2,rfl⟩ j2
 refine ⟨[x2],rfl,⟨z2.one,trivial⟩,?_⟩
 replace hw:=hw.le j2
 replace z0:=z0.le j2
 replace z1:=z1.le j2
 refine ax (kL hw.s0.grave b5 id) ?_
 rintro x3 K3 _ ⟨z3,rfl⟩ j3
 refine ⟨[x3],rfl,⟨z3.one,trivial⟩,?_⟩
 replace hw:=hw.le j3
 replace z0:=z0.le j3
 replace z1:=z1.le j3
 replace z2:=z2.le j3
 repeat (first | refine aa ?_ | refine ae ?_)
 refine ax (kL hw.s1.lib b6 id) ?_
 rintro x4 K4 _ ⟨z4,rfl⟩ j4
 refine ⟨[x4],rfl,⟨z4.one,trivial⟩,?_⟩
 replace hw:=hw.le j4
 replace z0:=z0.le j4
 replace z1:=z1.le j4
 replace z2:=z2.le j4
 replace z3:=z3.le j4
 refine ax (kL hw.s1.hand b7 id) ?_
 rintro x5 K5 _ ⟨z5,rfl⟩ j5
 refine ⟨[x5],rfl,⟨z5.one,trivial⟩,?_⟩
 replace hw:=hw.le j5
 replace z0:=z0.le j5
 replace z1:=z1.le j5
 replace z2:=z2.le j5
 replace z3:=z3.le j5
 replace z4:=z4.le j5
 refine ax (kL hw.s1.field b8 id) ?_
 rintro x6 K6 _ ⟨z6,rfl⟩ j6
 refine ⟨[x6],rfl,⟨z6.one,trivial⟩,?_⟩
 replace hw:=hw.le j6
 replace z0:=z0.le j6
 replace z1:=z1.le j6
 replace z2:=z2.le j6
 replace z3:=z3.le j6
 replace z4:=z4.le j6
 replace z5:=z5.le j6
 refine ax (kL hw.s1.grave b9 id) ?_
 rintro x7 K7 _ ⟨z7,rfl⟩ j7
 refine ⟨[x7],rfl,⟨z7.one,trivial⟩,?_⟩
 replace hw:=hw.le j7
 replace z0:=z0.le j7
 replace z1:=z1.le j7
 replace z2:=z2.le j7
 replace z3:=z3.le j7
 replace z4:=z4.le j7
 replace z5:=z5.le j7
 replace z6:=z6.le j7
 have hsl:=ItsR.len (hw.r []).stack
 have hsone:=ItsR.one (hw.r []).stack
 obtain ⟨rows,hs,hrl,hit⟩:=hw.stack
 refine aa (aa (aa (aa ?_)))
 refine dF b.stack.length (fun i x H' O'=>Heap.le K7 H'∧OSl bg 5 x ((rows.take i).filter fun r=>!prR id r) O') ⟨Heap.le_refl _,OSl.nil _ _⟩ ?_
 rintro i x H' O' hi - ⟨hle,hx⟩
 refine aa ?_
 refine ab _ hsl (ab _ (aJ _ _) (aj (fun hb=>?_) (fun hb=>?_)))
 ·have hlt:i < b.stack.length:=by simpa using hb
  have hlt2:i < rows.length:=by omega
  obtain ⟨s,hrow,hst⟩:=hit i rows[i] b.stack[i] (List.getElem?_eq_getElem hlt2) (List.getElem?_eq_getElem hlt)
  obtain ⟨a,h1,h2,h3,h4⟩:=(hs.le hle).idx (k:=.i64) (i:=i) (List.getElem?_eq_getElem hlt2)
  have hpr:prR id rows[i]=onR id b.stack[i]:=by
   rw [hrow]
   show ((some b.stack[i].trig == some (-1)) && (some b.stack[i].id == some id))=onR id b.stack[i]
   simp [onR]
  have hft:=fO (p:=fun r=>!prR id r) hlt2
  simp only [hpr] at hft
  rw [hrow] at h2 h3 h4
  refine aa ?_
  refine ab _ h1 (cT h2 h3 h4 (af fun r2=>?_))
  refine aa (aa (ab _ (bf _ _) (aa (ae (ae (ae (ab _ (bf _ _) (ae (ab _ (aS _ _) ?_)))))))))
  have hcond:(b.stack[i].trig != -1 || b.stack[i].id != id)=!onR id b.stack[i]:=by
   simp only [onR,bne,Bool.not_and]
  refine aj (fun hc=>?_) (fun hc=>?_)
  ·have hc:(b.stack[i].trig != -1 || b.stack[i].id != id)=true:=hc
   rw [hcond] at hc
   have hw1:((rows.take i).filter fun r=>!prR id r).length≤1000000:=Nat.le_trans (List.length_filter_le _ _) (by rw [List.length_take];omega)
   refine aa ?_
   refine af fun r3=>?_
   refine aH (rows:=(rows.take i).filter fun r=>!prR id r) (news:=[[iV b.stack[i].player,iV b.stack[i].id,iV b.stack[i].card,iV b.stack[i].trig,s]]) (O1:=O') (O2:=[]) (e:=bg) (size:=5) (bytes:=56) (by kernel_rfl) (by simp) hx
    (fun Hf _ hf=>Sl.block1 (hf _ List.mem_cons_self) rfl h4) (by simp;omega) (by simp;omega) ?_
   intro v' A' H6 l6 hA'
   refine ab _ (aE (by omega)) (aV (by simp [Eqs]) hlt ⟨Heap.le_trans hle l6,?_⟩)
   rw [List.append_nil,hft,if_pos hc,hrow];exact hA'
  ·have hc:(b.stack[i].trig != -1 || b.stack[i].id != id)=false:=hc
   rw [hcond] at hc
   refine ab _ (aE (by omega)) (aV (by simp [Eqs]) hlt ⟨hle,?_⟩)
   rw [hft,if_neg (by rw [hc];simp),List.append_nil];exact hx
 have hge:b.stack.length≤i:=by simpa using hb
 rw [List.take_of_length_le (by omega)] at hx
 clear hb
 have hbl:ak .len [w.b]=some (iV b.blocks.length):=by have:=hw.blocks.len;rwa [List.length_map] at this
 refine yu b.blocks.length (fun j y H2 O2=>Heap.le H' H2∧Sl H2 5 x (rows.filter fun r=>!prR id r)∧OSl bm 2 y (((b.blocks.take j).filter fun x=>!jU id x).map Bl.row) O2) (fun hc=>?_) ?_
 ·obtain ⟨H2,g,k,l2⟩:=hx.freeze (X:=[]) (by simpa using hc)
  exact ⟨H2,[],by simpa using g,l2,k,OSl.nil _ _⟩
 rintro j y H2 O2 hj - ⟨hle2,hxs,hy⟩
 refine aa ?_
 refine ab _ hbl (ab _ (aJ _ _) (aj (fun hb=>?_) (fun hb=>?_)))
 ·have hlt:j < b.blocks.length:=by simpa using hb
  obtain ⟨a,h1,h2,h3,h4⟩:=(hw.blocks.le (Heap.le_trans hle hle2)).idx (k:=.i64) (i:=j) (r:=Bl.row b.blocks[j]) (by simp [hlt])
  have hft:=fO (p:=fun x=>!jU id x) hlt
  refine aa ?_
  refine ab _ h1 (cT h2 h3 h4 (af fun r2=>?_))
  refine aa (aa (ab _ (bf _ _) (aa (ae (ae (ae (ab _ (bf _ _) (ae (ab _ (aX _ _) ?_)))))))))
  have hcond:(b.blocks[j].blocker != id && b.blocks[j].attacker != id)=!jU id b.blocks[j]:=by
   simp only [jU,bne,Bool.not_or]
  refine aj (fun hc=>?_) (fun hc=>?_)
  ·have hc:(b.blocks[j].blocker != id && b.blocks[j].attacker != id)=true:=hc
   rw [hcond] at hc
   have hw1:((b.blocks.take j).filter fun x=>!jU id x).length≤1000000:=Nat.le_trans (List.length_filter_le _ _) (by rw [List.length_take];omega)
   refine aa ?_
   refine af fun r3=>?_
   refine aH (rows:=((b.blocks.take j).filter fun x=>!jU id x).map Bl.row) (news:=[Bl.row b.blocks[j]]) (O1:=O2) (O2:=[]) (e:=bm) (size:=2) (bytes:=16) (by kernel_rfl) (by simp) hy
    (fun Hf _ hf=>Sl.block1 (hf _ List.mem_cons_self) rfl h4) (by simp;omega) (by simp;omega) ?_
   intro v' A' H6 l6 hA'
   refine ab _ (aE (by omega)) (aV (by simp [Eqs]) hlt ⟨Heap.le_trans hle2 l6,hxs.le l6,?_⟩)
   rw [List.append_nil,hft,if_pos hc,List.map_append];exact hA'
  ·have hc:(b.blocks[j].blocker != id && b.blocks[j].attacker != id)=false:=hc
   rw [hcond] at hc
   refine ab _ (aE (by omega)) (aV (by simp [Eqs]) hlt ⟨hle2,hxs,?_⟩)
   rw [hft,if_neg (by rw [hc];simp),List.append_nil];exact hy
 have hge2:b.blocks.length≤j:=by simpa using hb
 rw [List.take_of_length_le hge2] at hy
 have lz:=Heap.le_trans hle hle2
 refine aa ?_
 refine ax (kL (hw.att.le lz) b12 id) ?_
 rintro x8 K8 _ ⟨z8,rfl⟩ j8
 refine ⟨[x8],rfl,⟨z8.one,trivial⟩,?_⟩
 have lz8:=Heap.le_trans lz j8
 repeat (first | refine aa ?_ | refine ae ?_)
 intro hc
 obtain ⟨H9,g9,k9,l9⟩:=hy.freeze (X:=[]) (hc.perm (by simp))
 have lz9:=Heap.le_trans lz8 l9
 obtain ⟨f1,f2⟩:=Rj (p:=fun r=>!prR id r) (q:=fun x=>!onR id x) (R:=fun r (x:It)=>∃ s,r=[iV x.player,iV x.id,iV x.card,iV x.trig,s]∧Sl H9 2 s (x.tgs.map Tg.row)) (fun r x ⟨s,e,_⟩=>by
  rw [e]
  show (!((some x.trig == some (-1)) && (some x.id == some id)))=!onR id x
  simp [onR]) rows b.stack hrl fun i r x a c=>by
   obtain ⟨s,e,k⟩:=hit i r x a c
   exact ⟨s,e,k.le lz9⟩
 refine ⟨H9,[],(Ghost.perm (by simp)).trans g9,⟨⟨w.o,x0,x1,x2,x3,x4,x5,x6,x7,x,w.q,x8,y⟩,rfl,?_⟩,rfl⟩
 exact ⟨hw.objs.le lz9,⟨z0.le lz9,z1.le lz9,z2.le lz9,z3.le lz9⟩,⟨z4.le lz9,z5.le lz9,z6.le lz9,z7.le lz9⟩,⟨_,hxs.le (Heap.le_trans j8 l9),f1,f2⟩,hw.queue.le lz9,z8.le l9,k9⟩
theorem WB {H:Heap} {v:cP} {b:Bd} (h:BdS H v b) (hB:bdB b) (o:Ob) (ho:o.owner=0∨o.owner=1) (z:Int):Triple PP qf [.agg (ap v b).toArray,.agg o.row.toArray,iV z] H [] fun r H' O'=>(∃ w,r=.agg (ap w (rU b o.owner z o.id)).toArray∧BdS H' w (rU b o.owner z o.id))∧O'=[]:=by
 refine w9 (vs:=ap v b++(o.row++[iV z])) (by kernel_rfl) (az (ao (h.r [])) (az (bD o) ⟨rfl,trivial⟩)) ?_
 simp only [ll]
 obtain ⟨b1,⟨b2,b3,b4,b5⟩,⟨b6,b7,b8,b9⟩,_⟩:=hB
 refine af fun r0=>af fun r1=>af fun r2=>?_
 refine aa ?_
 have el:g (ap v b++(o.row++[iV z])) 40=iV o.owner:=rfl
 rw [el]
 rcases ho with ho | ho
 ·rw [ho]
  refine ⟨.i64,0,rfl,fun _=>?_,fun e=>absurd rfl e⟩
  refine ab _ (aA _ _) (aj (fun hb=>?_) (fun n0=>?_))
  ·have hz:z=0:=by simpa using hb
   subst hz
   refine aa (aa ?_)
   refine dZ (e:=aO) (size:=1) (bytes:=8) (by kernel_rfl) h.s0.lib (by simp [aI];omega) (by simp [aI];omega) fun xa Oa H1 lA pa=>?_
   refine af fun r3=>?_
   refine aH (rows:=aI b.s0.lib) (news:=[[iV o.id]]) (O1:=Oa) (O2:=[]) (e:=aO) (size:=1) (bytes:=8) (by kernel_rfl) (by simp) pa (fun Hf _ hf=>Sl.block1 (hf _ List.mem_cons_self) rfl ⟨rfl,trivial⟩) (by simp [aI];omega) (by simp [aI];omega) ?_
   intro v' A' H6 l6 hA'
   have hA2:OSl aO 1 v' (aI (b.s0.lib++[o.id])) A':=by rw [aI,List.map_append];exact hA'
   refine aa (aa (aa (aa ?_)))
   intro hc
   obtain ⟨H9,g9,kz,l9⟩:=hA2.freeze (X:=[]) (hc.perm (by simp))
   have lz:=Heap.le_trans lA (Heap.le_trans l6 l9)
   exact ⟨H9,[],(Ghost.perm (by simp)).trans g9,⟨{ v with l0:=v' },rfl,⟨(h.le lz).objs,⟨kz,(h.le lz).s0.hand,(h.le lz).s0.field,(h.le lz).s0.grave⟩,(h.le lz).s1,(h.le lz).stack,(h.le lz).queue,(h.le lz).att,(h.le lz).blocks⟩⟩,rfl⟩
  refine ab _ (aA _ _) (aj (fun hb=>?_) (fun n1=>?_))
  ·have hz:z=1:=by simpa using hb
   subst hz
   refine aa (aa ?_)
   refine dZ (e:=aO) (size:=1) (bytes:=8) (by kernel_rfl) h.s0.hand (by simp [aI];omega) (by simp [aI];omega) fun xa Oa H1 lA pa=>?_
   refine af fun r3=>?_
   refine aH (rows:=aI b.s0.hand) (news:=[[iV o.id]]) (O1:=Oa) (O2:=[]) (e:=aO) (size:=1) (bytes:=8) (by kernel_rfl) (by simp) pa (fun Hf _ hf=>Sl.block1 (hf _ List.mem_cons_self) rfl ⟨rfl,trivial⟩) (by simp [aI];omega) (by simp [aI];omega) ?_
   intro v' A' H6 l6 hA'
   have hA2:OSl aO 1 v' (aI (b.s0.hand++[o.id])) A':=by rw [aI,List.map_append];exact hA'
   refine aa (aa (aa (aa ?_)))
   intro hc
   obtain ⟨H9,g9,kz,l9⟩:=hA2.freeze (X:=[]) (hc.perm (by simp))
   have lz:=Heap.le_trans lA (Heap.le_trans l6 l9)
   exact ⟨H9,[],(Ghost.perm (by simp)).trans g9,⟨{ v with h0:=v' },rfl,⟨(h.le lz).objs,⟨(h.le lz).s0.lib,kz,(h.le lz).s0.field,(h.le lz).s0.grave⟩,(h.le lz).s1,(h.le lz).stack,(h.le lz).queue,(h.le lz).att,(h.le lz).blocks⟩⟩,rfl⟩
  refine ab _ (aA _ _) (aj (fun hb=>?_) (fun n2=>?_))
  ·have hz:z=2:=by simpa using hb
   subst hz
   refine aa (aa ?_)
   refine dZ (e:=aO) (size:=1) (bytes:=8) (by kernel_rfl) h.s0.field (by simp [aI];omega) (by simp [aI];omega) fun xa Oa H1 lA pa=>?_
   refine af fun r3=>?_
   refine aH (rows:=aI b.s0.field) (news:=[[iV o.id]]) (O1:=Oa) (O2:=[]) (e:=aO) (size:=1) (bytes:=8) (by kernel_rfl) (by simp) pa (fun Hf _ hf=>Sl.block1 (hf _ List.mem_cons_self) rfl ⟨rfl,trivial⟩) (by simp [aI];omega) (by simp [aI];omega) ?_
   intro v' A' H6 l6 hA'
   have hA2:OSl aO 1 v' (aI (b.s0.field++[o.id])) A':=by rw [aI,List.map_append];exact hA'
   refine aa (aa (aa (aa ?_)))
   intro hc
   obtain ⟨H9,g9,kz,l9⟩:=hA2.freeze (X:=[]) (hc.perm (by simp))
   have lz:=Heap.le_trans lA (Heap.le_trans l6 l9)
   exact ⟨H9,[],(Ghost.perm (by simp)).trans g9,⟨{ v with f0:=v' },rfl,⟨(h.le lz).objs,⟨(h.le lz).s0.lib,(h.le lz).s0.hand,kz,(h.le lz).s0.grave⟩,(h.le lz).s1,(h.le lz).stack,(h.le lz).queue,(h.le lz).att,(h.le lz).blocks⟩⟩,rfl⟩
  refine ab _ (aA _ _) (aj (fun hb=>?_) (fun n3=>?_))
  ·have hz:z=3:=by simpa using hb
   subst hz
   refine aa (aa ?_)
   refine dZ (e:=aO) (size:=1) (bytes:=8) (by kernel_rfl) h.s0.grave (by simp [aI];omega) (by simp [aI];omega) fun xa Oa H1 lA pa=>?_
   refine af fun r3=>?_
   refine aH (rows:=aI b.s0.grave) (news:=[[iV o.id]]) (O1:=Oa) (O2:=[]) (e:=aO) (size:=1) (bytes:=8) (by kernel_rfl) (by simp) pa (fun Hf _ hf=>Sl.block1 (hf _ List.mem_cons_self) rfl ⟨rfl,trivial⟩) (by simp [aI];omega) (by simp [aI];omega) ?_
   intro v' A' H6 l6 hA'
   have hA2:OSl aO 1 v' (aI (b.s0.grave++[o.id])) A':=by rw [aI,List.map_append];exact hA'
   refine aa (aa (aa (aa ?_)))
   intro hc
   obtain ⟨H9,g9,kz,l9⟩:=hA2.freeze (X:=[]) (hc.perm (by simp))
   have lz:=Heap.le_trans lA (Heap.le_trans l6 l9)
   exact ⟨H9,[],(Ghost.perm (by simp)).trans g9,⟨{ v with g0:=v' },rfl,⟨(h.le lz).objs,⟨(h.le lz).s0.lib,(h.le lz).s0.hand,(h.le lz).s0.field,kz⟩,(h.le lz).s1,(h.le lz).stack,(h.le lz).queue,(h.le lz).att,(h.le lz).blocks⟩⟩,rfl⟩
  refine aa (aa (aa ?_))
  have e:rU b 0 z o.id=b:=by
   have n0:¬ z=0:=by simpa using n0
   have n1:¬ z=1:=by simpa using n1
   have n2:¬ z=2:=by simpa using n2
   have n3:¬ z=3:=by simpa using n3
   simp only [rU,Vm,n0,n1,n2,n3,if_false]
   rfl
  rw [e]
  exact ah ⟨⟨v,rfl,h⟩,rfl⟩
 ·rw [ho]
  refine ⟨.i64,1,rfl,fun e=>absurd e (by omega),fun _=>⟨.i64,1,rfl,fun _=>?_,fun e=>absurd rfl e⟩⟩
  refine ab _ (aA _ _) (aj (fun hb=>?_) (fun n0=>?_))
  ·have hz:z=0:=by simpa using hb
   subst hz
   refine aa (aa ?_)
   refine dZ (e:=aO) (size:=1) (bytes:=8) (by kernel_rfl) h.s1.lib (by simp [aI];omega) (by simp [aI];omega) fun xa Oa H1 lA pa=>?_
   refine af fun r3=>?_
   refine aH (rows:=aI b.s1.lib) (news:=[[iV o.id]]) (O1:=Oa) (O2:=[]) (e:=aO) (size:=1) (bytes:=8) (by kernel_rfl) (by simp) pa (fun Hf _ hf=>Sl.block1 (hf _ List.mem_cons_self) rfl ⟨rfl,trivial⟩) (by simp [aI];omega) (by simp [aI];omega) ?_
   intro v' A' H6 l6 hA'
   have hA2:OSl aO 1 v' (aI (b.s1.lib++[o.id])) A':=by rw [aI,List.map_append];exact hA'
   refine aa (aa (aa (aa ?_)))
   intro hc
   obtain ⟨H9,g9,kz,l9⟩:=hA2.freeze (X:=[]) (hc.perm (by simp))
   have lz:=Heap.le_trans lA (Heap.le_trans l6 l9)
   exact ⟨H9,[],(Ghost.perm (by simp)).trans g9,⟨{ v with l1:=v' },rfl,⟨(h.le lz).objs,(h.le lz).s0,⟨kz,(h.le lz).s1.hand,(h.le lz).s1.field,(h.le lz).s1.grave⟩,(h.le lz).stack,(h.le lz).queue,(h.le lz).att,(h.le lz).blocks⟩⟩,rfl⟩
  refine ab _ (aA _ _) (aj (fun hb=>?_) (fun n1=>?_))
  ·have hz:z=1:=by simpa using hb
   subst hz
   refine aa (aa ?_)
   refine dZ (e:=aO) (size:=1) (bytes:=8) (by kernel_rfl) h.s1.hand (by simp [aI];omega) (by simp [aI];omega) fun xa Oa H1 lA pa=>?_
   refine af fun r3=>?_
   refine aH (rows:=aI b.s1.hand) (news:=[[iV o.id]]) (O1:=Oa) (O2:=[]) (e:=aO) (size:=1) (bytes:=8) (by kernel_rfl) (by simp) pa (fun Hf _ hf=>Sl.block1 (hf _ List.mem_cons_self) rfl ⟨rfl,trivial⟩) (by simp [aI];omega) (by simp [aI];omega) ?_
   intro v' A' H6 l6 hA'
   have hA2:OSl aO 1 v' (aI (b.s1.hand++[o.id])) A':=by rw [aI,List.map_append];exact hA'
   refine aa (aa (aa (aa ?_)))
   intro hc
   obtain ⟨H9,g9,kz,l9⟩:=hA2.freeze (X:=[]) (hc.perm (by simp))
   have lz:=Heap.le_trans lA (Heap.le_trans l6 l9)
   exact ⟨H9,[],(Ghost.perm (by simp)).trans g9,⟨{ v with h1:=v' },rfl,⟨(h.le lz).objs,(h.le lz).s0,⟨(h.le lz).s1.lib,kz,(h.le lz).s1.field,(h.le lz).s1.grave⟩,(h.le lz).stack,(h.le lz).queue,(h.le lz).att,(h.le lz).blocks⟩⟩,rfl⟩
  refine ab _ (aA _ _) (aj (fun hb=>?_) (fun n2=>?_))
  ·have hz:z=2:=by simpa using hb
   subst hz
   refine aa (aa ?_)
   refine dZ (e:=aO) (size:=1) (bytes:=8) (by kernel_rfl) h.s1.field (by simp [aI];omega) (by simp [aI];omega) fun xa Oa H1 lA pa=>?_
   refine af fun r3=>?_
   refine aH (rows:=aI b.s1.field) (news:=[[iV o.id]]) (O1:=Oa) (O2:=[]) (e:=aO) (size:=1) (bytes:=8) (by kernel_rfl) (by simp) pa (fun Hf _ hf=>Sl.block1 (hf _ List.mem_cons_self) rfl ⟨rfl,trivial⟩) (by simp [aI];omega) (by simp [aI];omega) ?_
   intro v' A' H6 l6 hA'
   have hA2:OSl aO 1 v' (aI (b.s1.field++[o.id])) A':=by rw [aI,List.map_append];exact hA'
   refine aa (aa (aa (aa ?_)))
   intro hc
   obtain ⟨H9,g9,kz,l9⟩:=hA2.freeze (X:=[]) (hc.perm (by simp))
   have lz:=Heap.le_trans lA (Heap.le_trans l6 l9)
   exact ⟨H9,[],(Ghost.perm (by simp)).trans g9,⟨{ v with f1:=v' },rfl,⟨(h.le lz).objs,(h.le lz).s0,⟨(h.le lz).s1.lib,(h.le lz).s1.hand,kz,(h.le lz).s1.grave⟩,(h.le lz).stack,(h.le lz).queue,(h.le lz).att,(h.le lz).blocks⟩⟩,rfl⟩
  refine ab _ (aA _ _) (aj (fun hb=>?_) (fun n3=>?_))
  ·have hz:z=3:=by simpa using hb
   subst hz
   refine aa (aa ?_)
   refine dZ (e:=aO) (size:=1) (bytes:=8) (by kernel_rfl) h.s1.grave (by simp [aI];omega) (by simp [aI];omega) fun xa Oa H1 lA pa=>?_
   refine af fun r3=>?_
   refine aH (rows:=aI b.s1.grave) (news:=[[iV o.id]]) (O1:=Oa) (O2:=[]) (e:=aO) (size:=1) (bytes:=8) (by kernel_rfl) (by simp) pa (fun Hf _ hf=>Sl.block1 (hf _ List.mem_cons_self) rfl ⟨rfl,trivial⟩) (by simp [aI];omega) (by simp [aI];omega) ?_
   intro v' A' H6 l6 hA'
   have hA2:OSl aO 1 v' (aI (b.s1.grave++[o.id])) A':=by rw [aI,List.map_append];exact hA'
   refine aa (aa (aa (aa ?_)))
   intro hc
   obtain ⟨H9,g9,kz,l9⟩:=hA2.freeze (X:=[]) (hc.perm (by simp))
   have lz:=Heap.le_trans lA (Heap.le_trans l6 l9)
   exact ⟨H9,[],(Ghost.perm (by simp)).trans g9,⟨{ v with g1:=v' },rfl,⟨(h.le lz).objs,(h.le lz).s0,⟨(h.le lz).s1.lib,(h.le lz).s1.hand,(h.le lz).s1.field,kz⟩,(h.le lz).stack,(h.le lz).queue,(h.le lz).att,(h.le lz).blocks⟩⟩,rfl⟩
  refine aa (aa (aa ?_))
  have e:rU b 1 z o.id=b:=by
   have n0:¬ z=0:=by simpa using n0
   have n1:¬ z=1:=by simpa using n1
   have n2:¬ z=2:=by simpa using n2
   have n3:¬ z=3:=by simpa using n3
   simp only [rU,Vm,n0,n1,n2,n3,if_false]
   rfl
  rw [e]
  exact ah ⟨⟨v,rfl,h⟩,rfl⟩
theorem WG {b:Bd} (h:bdB b) (id:Int):bdB (M1 b id):=by
 have:=Uo h id
 exact ⟨this.1,this.2.1,this.2.2.1,⟨Nat.le_trans (List.length_filter_le _ _) h.2.2.2.1.1,fun x hx=>h.2.2.2.1.2 x (List.mem_filter.1 hx).1⟩,this.2.2.2.2⟩
theorem La {b:Bd} (h:bdB b) (k:Nat) (o:Ob):bdB (dw b k o):=⟨by simpa [dw] using h.1,h.2⟩
def OD (b:Bd) (k:Nat) (o:Ob) (z:Int):Bd:=rU (dw (M1 b o.id) k o) o.owner z o.id
theorem Qs {H:Heap} {v:cP} {b:Bd} (h:BdS H v b) (hB:bdB b) {k:Nat} {o:Ob} (hk:b.objs[k]?=some o) (hidx:eX b o.id=k) (ho:o.owner=0∨o.owner=1) (z:Int) :
  Triple PP kq [.agg (ap v b).toArray,iV o.id,iV z] H [] fun r H' O'=>(∃ w,r=.agg (ap w (OD b k (cL o z) z)).toArray∧BdS H' w (OD b k (cL o z) z))∧O'=[]:=by
 refine ve (vs:=ap v b++[iV o.id,iV z]) (by kernel_rfl) (az (ao (h.r [])) ⟨rfl,rfl,trivial⟩) ?_
 simp only [kb]
 refine af fun r0=>af fun r1=>?_
 refine aa (aa ?_)
 refine ai (yj (h.r []) o.id) rfl ⟨rfl,trivial⟩ fun H1 l1=>?_
 rw [hidx]
 replace h:=h.le l1
 obtain ⟨a,h1,h2,_,h3,h4⟩:=(h.r []).objs.idx .i64 k (Ob.row o) (by rw [List.getElem?_map,hk];rfl)
 refine ab _ h1 (ar h2 h3 h4 ?_)
 refine ai (Vh o z H1 []) rfl (vs:=(cL o z).row) (bD _) fun H2 l2=>af fun r2=>?_
 replace h:=h.le l2
 refine aa (aa (aa (aa ?_)))
 refine ax (Xu h hB o.id) ?_
 rintro _ H3 _ ⟨⟨w1,rfl,hw1⟩,rfl⟩ l3
 refine ⟨ap w1 (M1 b o.id),rfl,ao (hw1.r []),?_⟩
 have hB1:=WG hB o.id
 refine ax (Xt hw1 hB1 (cL o z)) ?_
 have hset:Sz (M1 b o.id) (cL o z)=dw (M1 b o.id) k (cL o z):=by
  have:eX (M1 b o.id) (cL o z).id=k:=hidx
  simp only [Sz,this,Int.toNat_natCast]
  rw [if_pos (by omega)]
 rw [hset]
 rintro _ H4 _ ⟨⟨w2,rfl,hw2⟩,rfl⟩ l4
 refine ⟨ap w2 (dw (M1 b o.id) k (cL o z)),rfl,ao (hw2.r []),?_⟩
 refine ax (WB hw2 (La hB1 _ _) (cL o z) ho z) ?_
 rintro _ H5 _ ⟨⟨w3,rfl,hw3⟩,rfl⟩ l5
 refine ⟨ap w3 _,rfl,ao (hw3.r []),?_⟩
 refine aa (aa ?_)
 exact ah ⟨⟨w3,rfl,hw3⟩,rfl⟩
end Go.Proofs.YtdhobpmnkfmcfaaGreatDoor
namespace Go.Proofs.YtdhobpmnkfmcfaaGreatDoor
open Go Go.Sx
set_option maxRecDepth 100000
set_option maxHeartbeats 1000000
theorem Uu {b:Bd} (h:bdB b) {p:Int} (hp:p=0∨p=1) (hlen:(au b p).lib.length + (au b p).hand.length≤1000000) {l:List Int} {id:Int} (hl:(au b p).lib=l++[id]):bdB (DK b p id):=by
 obtain ⟨b1,⟨b2,b3,b4,b5⟩,⟨b6,b7,b8,b9⟩,b10⟩:=h
 rw [hl] at hlen
 simp only [List.length_append,List.length_cons,List.length_nil] at hlen
 rcases hp with rfl | rfl
 ·have hl:b.s0.lib=l++[id]:=hl
  have hlen:l.length + (0 + 1) + b.s0.hand.length≤1000000:=hlen
  refine ⟨b1,⟨?_,?_,b4,b5⟩,⟨b6,b7,b8,b9⟩,b10⟩
  ·show (b.s0.lib.dropLast).length≤1000000
   rw [List.length_dropLast];omega
  ·show (b.s0.hand++[id]).length≤1000000
   simp only [List.length_append,List.length_cons,List.length_nil];omega
 ·have hl:b.s1.lib=l++[id]:=hl
  have hlen:l.length + (0 + 1) + b.s1.hand.length≤1000000:=hlen
  refine ⟨b1,⟨b2,b3,b4,b5⟩,⟨?_,?_,b8,b9⟩,b10⟩
  ·show (b.s1.lib.dropLast).length≤1000000
   rw [List.length_dropLast];omega
  ·show (b.s1.hand++[id]).length≤1000000
   simp only [List.length_append,List.length_cons,List.length_nil];omega
theorem MF {b:Bd} {p:Int} (hp:p=0∨p=1) {l:List Int} {id:Int} (hl:(au b p).lib=l++[id]) (k:Nat) (o:Ob):(au (dw (DK b p id) k o) p).lib.length + (au (dw (DK b p id) k o) p).hand.length=(au b p).lib.length + (au b p).hand.length:=by
 rcases hp with rfl | rfl
 ·have hl:b.s0.lib=l++[id]:=hl
  show (b.s0.lib.dropLast).length + (b.s0.hand++[id]).length=b.s0.lib.length + b.s0.hand.length
  rw [hl,List.dropLast_concat]
  simp only [List.length_append,List.length_cons,List.length_nil];omega
 ·have hl:b.s1.lib=l++[id]:=hl
  show (b.s1.lib.dropLast).length + (b.s1.hand++[id]).length=b.s1.lib.length + b.s1.hand.length
  rw [hl,List.dropLast_concat]
  simp only [List.length_append,List.length_cons,List.length_nil];omega
theorem Un {H:Heap} {v:cP} {b:Bd} (h:BdS H v b) (hB:bdB b) (hval:ay b=true) (p:Int) (hp:p=0∨p=1) (hsum:(au b p).lib.length + (au b p).hand.length≤1000000) (n0:Nat) (hn:n0≤1000) :
  Triple PP pC [.agg (ap v b).toArray,iV p,iV n0] H [] fun r H' O'=>(∃ w,r=.agg (ap w (eG n0 b p)).toArray∧BdS H' w (eG n0 b p))∧O'=[]:=by
 refine vk (vs:=ap v b++[iV p,iV n0]) (by kernel_rfl) (az (ao (h.r [])) ⟨rfl,rfl,trivial⟩) ?_
 simp only [kg]
 refine af fun r0=>af fun r1=>?_
 refine aa ?_
 refine ax (Triple.frozen (GQ h hB)) ?_
 rintro _ H1 _ ⟨⟨w,rfl,hw⟩,rfl⟩ l1
 refine ⟨ap w b,rfl,ao (hw.r []),?_⟩
 refine aa ?_
 refine iU (fun vs H' O'=>∃ (i:Nat) (u:cP) (c:Bd),vs=iV i::ap u c∧i≤n0∧O'=[]∧BdS H' u c∧bdB c∧ay c=true∧(au c p).lib.length + (au c p).hand.length≤1000000∧eG n0 b p=eG (n0 - i) c p)
  (fun vs _ _=>match g vs 0 with | .int _ k=>n0 - k.toNat | _=>0) ⟨0,w,b,rfl,Nat.zero_le _,rfl,hw,hB,hval,hsum,rfl⟩ ?_
 rintro vs H' O' - - - ⟨i,u,c,rfl,hi,rfl,hc,hcB,hcv,hcs,hgo⟩
 refine ab _ (aJ _ _) (aj (fun hb=>?_) (fun hb=>?_))
 ·have hlt:i < n0:=by have:=of_decide_eq_true hb;omega
  obtain ⟨m',hm'⟩:∃ m',n0 - i=m' + 1:=⟨n0 - i - 1,by omega⟩
  rcases hp with rfl | rfl
  ·refine ⟨.i64,0,rfl,fun _=>?_,fun e=>absurd rfl e⟩
   have hl1:ak .len [u.l0]=some (iV c.s0.lib.length):=by have:=hc.s0.lib.len;rwa [aI,List.length_map] at this
   refine aa ?_
   refine ab _ hl1 (ab _ (aA _ _) (aj (fun hb=>?_) (fun hb=>?_)))
   ·have h0:c.s0.lib=[]:=by
     have:c.s0.lib.length=0:=by simpa using hb
     exact List.eq_nil_of_length_eq_zero this
    have e:eG n0 b 0=bH c 0 { au c 0 with empty:=true }:=by
     rw [hgo,hm',eG]
     have:(au c 0).lib.getLast?=none:=by
      show c.s0.lib.getLast?=none
      rw [h0];rfl
     rw [this]
    rw [e]
    refine ⟨.i64,0,rfl,fun _=>?_,fun e=>absurd rfl e⟩
    refine aa (aa (aa (aa ?_)))
    exact ah ⟨⟨u,rfl,⟨hc.objs,⟨hc.s0.lib,hc.s0.hand,hc.s0.field,hc.s0.grave⟩,hc.s1,hc.stack,hc.queue,hc.att,hc.blocks⟩⟩,rfl⟩
   ·obtain ⟨l,id,hl⟩:∃ l id,c.s0.lib=l++[id]:=by
     have hne:c.s0.lib ≠ []:=by intro e;rw [e] at hb;simp at hb
     exact ⟨c.s0.lib.dropLast,c.s0.lib.getLast hne,(List.dropLast_concat_getLast hne).symm⟩
    obtain ⟨k,ob,e1,e2,e3,e4,hmv,_,_,hid,hd,hdv⟩:=zn hcv (p:=0) (.inl rfl) (l:=l) (id:=id) hl
    have hll:c.s0.lib.length=l.length + 1:=by rw [hl];simp
    have hls:l.length + 1 < 2 ^ 63:=by
     have:=hc.s0.lib.lenB
     rw [aI,List.length_map,hll] at this;exact this
    refine aa ?_
    refine ab _ hl1 ?_
    rw [hll]
    refine ab _ (uW hls) ?_
    obtain ⟨a,i1,i2,i3,i4⟩:=hc.s0.lib.idx (k:=.i64) (i:=l.length) (r:=[iV id]) (by rw [hl];simp [aI])
    refine ab _ i1 (cT i2 i3 i4 ?_)
    have hmove:OD c k (cL ob 1) 1=dw (DK c 0 id) k (cL ob 1):=by
     rw [← Ns hcv (.inl rfl) hl e1 e2 e3]
     show rU (dw (M1 c ob.id) k _) ob.owner 1 ob.id=rU (dw (xi c ob.id) k _) ob.owner 1 ob.id
     rw [Ln hcv]
    have hmv2:=Qs hc hcB e1 (by rw [e2];exact e4) (by rw [e3];exact (.inl rfl)) 1
    rw [hmove,e2] at hmv2
    refine ax hmv2 ?_
    rintro _ H2 _ ⟨⟨u2,rfl,hu2⟩,rfl⟩ l2
    refine ⟨ap u2 _,rfl,ao (hu2.r []),?_⟩
    refine aa ?_
    refine ab _ (aE (by omega)) ?_
    refine eL (by simp [Eqs]) ⟨i + 1,u2,_,rfl,by omega,rfl,hu2,La (Uu hcB (.inl rfl) hcs hl) _ _,by rw [hd] at hdv;exact hdv,by rw [MF (.inl rfl) hl];exact hcs,?_⟩ ?_
    ·rw [hgo,hm',eG]
     have egl:(au c 0).lib.getLast?=some id:=by
      show c.s0.lib.getLast?=some id
      rw [hl];simp
     rw [egl]
     show eG m' (oU c 0 id) 0=_
     rw [hd,show n0 - (i + 1)=m' by omega]
    ·show n0 - (((i + 1:Nat):Int)).toNat < n0 - ((i:Int)).toNat
     omega
  ·refine ⟨.i64,1,rfl,fun e=>absurd e (by omega),fun _=>⟨.i64,1,rfl,fun _=>?_,fun e=>absurd rfl e⟩⟩
   have hl1:ak .len [u.l1]=some (iV c.s1.lib.length):=by have:=hc.s1.lib.len;rwa [aI,List.length_map] at this
   refine aa ?_
   refine ab _ hl1 (ab _ (aA _ _) (aj (fun hb=>?_) (fun hb=>?_)))
   ·have h0:c.s1.lib=[]:=by
     have:c.s1.lib.length=0:=by simpa using hb
     exact List.eq_nil_of_length_eq_zero this
    have e:eG n0 b 1=bH c 1 { au c 1 with empty:=true }:=by
     rw [hgo,hm',eG]
     have:(au c 1).lib.getLast?=none:=by
      show c.s1.lib.getLast?=none
      rw [h0];rfl
     rw [this]
    rw [e]
    refine ⟨.i64,1,rfl,fun e=>absurd e (by omega),fun _=>⟨.i64,1,rfl,fun _=>?_,fun e=>absurd rfl e⟩⟩
    refine aa (aa (aa (aa ?_)))
    exact ah ⟨⟨u,rfl,⟨hc.objs,hc.s0,⟨hc.s1.lib,hc.s1.hand,hc.s1.field,hc.s1.grave⟩,hc.stack,hc.queue,hc.att,hc.blocks⟩⟩,rfl⟩
   ·obtain ⟨l,id,hl⟩:∃ l id,c.s1.lib=l++[id]:=by
     have hne:c.s1.lib ≠ []:=by intro e;rw [e] at hb;simp at hb
     exact ⟨c.s1.lib.dropLast,c.s1.lib.getLast hne,(List.dropLast_concat_getLast hne).symm⟩
    obtain ⟨k,ob,e1,e2,e3,e4,hmv,_,_,hid,hd,hdv⟩:=zn hcv (p:=1) (.inr rfl) (l:=l) (id:=id) hl
    have hll:c.s1.lib.length=l.length + 1:=by rw [hl];simp
    have hls:l.length + 1 < 2 ^ 63:=by
     have:=hc.s1.lib.lenB
     rw [aI,List.length_map,hll] at this;exact this
    refine aa ?_
    refine ab _ hl1 ?_
    rw [hll]
    refine ab _ (uW hls) ?_
    obtain ⟨a,i1,i2,i3,i4⟩:=hc.s1.lib.idx (k:=.i64) (i:=l.length) (r:=[iV id]) (by rw [hl];simp [aI])
    refine ab _ i1 (cT i2 i3 i4 ?_)
    have hmove:OD c k (cL ob 1) 1=dw (DK c 1 id) k (cL ob 1):=by
     rw [← Ns hcv (.inr rfl) hl e1 e2 e3]
     show rU (dw (M1 c ob.id) k _) ob.owner 1 ob.id=rU (dw (xi c ob.id) k _) ob.owner 1 ob.id
     rw [Ln hcv]
    have hmv2:=Qs hc hcB e1 (by rw [e2];exact e4) (by rw [e3];exact (.inr rfl)) 1
    rw [hmove,e2] at hmv2
    refine ax hmv2 ?_
    rintro _ H2 _ ⟨⟨u2,rfl,hu2⟩,rfl⟩ l2
    refine ⟨ap u2 _,rfl,ao (hu2.r []),?_⟩
    refine aa ?_
    refine ab _ (aE (by omega)) ?_
    refine eL (by simp [Eqs]) ⟨i + 1,u2,_,rfl,by omega,rfl,hu2,La (Uu hcB (.inr rfl) hcs hl) _ _,by rw [hd] at hdv;exact hdv,by rw [MF (.inr rfl) hl];exact hcs,?_⟩ ?_
    ·rw [hgo,hm',eG]
     have egl:(au c 1).lib.getLast?=some id:=by
      show c.s1.lib.getLast?=some id
      rw [hl];simp
     rw [egl]
     show eG m' (oU c 1 id) 1=_
     rw [hd,show n0 - (i + 1)=m' by omega]
    ·show n0 - (((i + 1:Nat):Int)).toNat < n0 - ((i:Int)).toNat
     omega
 ·have hge:n0 - i=0:=by have:=of_decide_eq_false hb;omega
  rw [hgo,hge]
  refine aa (aa (aa ?_))
  exact ah ⟨⟨u,rfl,hc⟩,rfl⟩
end Go.Proofs.YtdhobpmnkfmcfaaGreatDoor
namespace Go.Proofs.YtdhobpmnkfmcfaaGreatDoor
open Go Go.Sx
set_option maxRecDepth 100000
set_option maxHeartbeats 1000000
end Go.Proofs.YtdhobpmnkfmcfaaGreatDoor
namespace Go.Proofs.YtdhobpmnkfmcfaaGreatDoor
open Go Go.Sx
set_option maxRecDepth 100000
set_option maxHeartbeats 1000000
theorem Nw {H:Heap} {O:Own} {v:Value} {ks:List Int} (h:KindS H v ks) (c:Int) :
  (∃ x:Bool,(x=true ↔ (c < 0∨c ≥ (ks.length:Int)))∧ak .len [v]=some (iV ks.length)∧x=(decide (c < 0) || decide (c ≥ (ks.length:Int)))) ∧
  (¬ (c < 0∨c ≥ (ks.length:Int))→∃ a r,ak (.idx 14) [v,iV c]=some (.pointer (some a))∧H.read (.pointer (some a)) 14=some r∧r.length=14∧Ones r∧g r 1=iV (Hl ks c)):=by
 obtain ⟨rows,h1,h2,h3⟩:=h
 refine ⟨⟨_,?_,?_,rfl⟩,fun hn=>?_⟩
 ·simp
 ·have:=h1.len;rw [this,h2]
 ·have hlt:c.toNat < rows.length:=by omega
  obtain ⟨a,k1,k2,k3,k4⟩:=h1.idx (k:=.i64) (i:=c.toNat) (List.getElem?_eq_getElem hlt)
  have hk:ks[c.toNat]?=some (ks.getD c.toNat 0):=by
   rw [List.getD_eq_getElem?_getD,List.getElem?_eq_getElem (by omega)];rfl
  have e:=h3 c.toNat _ _ (List.getElem?_eq_getElem hlt) hk
  refine ⟨a,_,?_,k2,k3,k4,?_⟩
  ·rw [show iV c=iV (c.toNat:Int) by rw [Int.toNat_of_nonneg (by omega)]];exact k1
  ·rw [e,Hl,if_neg hn]
theorem EC {r:List Value} (h:r.length=14):([g r 0,g r 1,g r 2,g r 3,g r 4,g r 5,g r 6,g r 7,g r 8,g r 9,g r 10,g r 11,g r 12,g r 13]:List Value)=r:=MJ h
abbrev KR:List Value:=[.string ⟨#[]⟩,iV 0,iV 0,iV 0,iV 0,iV 0,iV 0,iV 0,iV 0,iV 0,iV 0,.slice none 0 0,.slice none 0 0,iV 0]
def W9 (ks:List Int) (c:Int) (r:Value) (_:Heap):Prop:=∃ cells:List Value,r=.agg cells.toArray∧cells.length=14∧Ones cells∧g cells 1=iV (Hl ks c)
theorem WT {H:Heap} {O:Own} {v:Value} {ks:List Int} (h:KindS H v ks) (o:Ob):Triple PP oo [v,.agg o.row.toArray] H O fun r H' O'=>W9 ks o.card r H'∧O'=O:=by
 refine oH (vs:=v::o.row) (by kernel_rfl) ⟨h.one,bD o⟩ ?_
 simp only [lu]
 obtain ⟨⟨x,hx,hlen,ex⟩,hlook⟩:=Nw (O:=O) h o.card
 refine af fun r0=>af fun r1=>?_
 refine aa ?_
 refine ab _ (aJ _ _) ?_
 refine aa (ae (ae ?_))
 refine ab _ hlen ?_
 refine ae (ae (ab _ (fJ _ _) (ae (ab _ (aS _ _) ?_))))
 refine aj (fun hb=>?_) (fun hb=>?_)
 ·have hb:(decide (o.card < 0) || decide (o.card ≥ (ks.length:Int)))=true:=hb
  rw [← ex] at hb
  refine aa (aa ?_)
  refine ah ⟨⟨KR,rfl,rfl,⟨rfl,rfl,rfl,rfl,rfl,rfl,rfl,rfl,rfl,rfl,rfl,rfl,rfl,rfl,trivial⟩,?_⟩,rfl⟩
  rw [Hl,if_pos (hx.1 hb)];rfl
 ·have hb:(decide (o.card < 0) || decide (o.card ≥ (ks.length:Int)))=false:=hb
  rw [← ex] at hb
  obtain ⟨a,r,k1,k2,k3,k4,k5⟩:=hlook (fun e=>by rw [hx.2 e] at hb;cases hb)
  refine aa ?_
  refine ab _ k1 (ar (iq k2) k3 k4 ?_)
  refine aa (aa ?_)
  exact ah ⟨⟨r,by rw [← EC k3];rfl,k3,k4,k5⟩,rfl⟩
theorem WC {H:Heap} {O:Own} {v:Value} {ks:List Int} (h:KindS H v ks) (o:Ob):Triple PP ku [v,.agg o.row.toArray] H O fun r H' O'=>W9 ks o.card r H'∧O'=O:=by
 refine my (vs:=v::o.row) (by kernel_rfl) ⟨h.one,bD o⟩ ?_
 simp only [fV]
 obtain ⟨⟨x,hx,hlen,ex⟩,hlook⟩:=Nw (O:=O) h o.card
 refine af fun r0=>af fun r1=>?_
 refine aa ?_
 refine ab _ (aJ _ _) ?_
 refine aa (ae (ae ?_))
 refine ab _ hlen ?_
 refine ae (ae (ab _ (fJ _ _) (ae (ab _ (aS _ _) ?_))))
 refine aj (fun hb=>?_) (fun hb=>?_)
 ·have hb:(decide (o.card < 0) || decide (o.card ≥ (ks.length:Int)))=true:=hb
  rw [← ex] at hb
  refine aa (aa ?_)
  refine ah ⟨⟨KR,rfl,rfl,⟨rfl,rfl,rfl,rfl,rfl,rfl,rfl,rfl,rfl,rfl,rfl,rfl,rfl,rfl,trivial⟩,?_⟩,rfl⟩
  rw [Hl,if_pos (hx.1 hb)];rfl
 ·have hb:(decide (o.card < 0) || decide (o.card ≥ (ks.length:Int)))=false:=hb
  rw [← ex] at hb
  obtain ⟨a,r,k1,k2,k3,k4,k5⟩:=hlook (fun e=>by rw [hx.2 e] at hb;cases hb)
  refine aa ?_
  refine ab _ k1 (ar (iq k2) k3 k4 ?_)
  refine aa (aa ?_)
  exact ah ⟨⟨r,by rw [← EC k3];rfl,k3,k4,k5⟩,rfl⟩
theorem HG {H:Heap} {O:Own} {v:Value} {ks:List Int} (h:KindS H v ks) (o:Ob):RetO PP rQ [v,.agg o.row.toArray] H O (.bool (eN ks o)):=by
 refine ye (vs:=v::o.row) (by kernel_rfl) ⟨h.one,bD o⟩ ?_
 simp only [mj]
 refine af fun r0=>?_
 refine aa ?_
 refine ab _ (aA _ _) (aj (fun hb=>ah ⟨?_,rfl⟩) (fun hb=>?_))
 ·have hb:(o.card == -1)=true:=hb
  rw [eN,hb];rfl
 ·have hb:(o.card == -1)=false:=hb
  refine aa ?_
  refine yw (WT h o) ?_
  rintro _ H1 ⟨cells,rfl,k1,k2,k3⟩ l1
  refine ⟨cells,by simp [Shp.open,k1],k2,?_⟩
  dsimp only
  rw [k3]
  refine ab _ (aA _ _) ?_
  refine ah ⟨?_,rfl⟩
  rw [eN,hb];rfl
theorem AI {H:Heap} {O:Own} {v:Value} {ks:List Int} (h:KindS H v ks) (o:Ob):RetO PP lJ [v,.agg o.row.toArray] H O (.bool (eN ks o)):=by
 refine qo (vs:=v::o.row) (by kernel_rfl) ⟨h.one,bD o⟩ ?_
 simp only [fU]
 refine af fun r0=>?_
 refine aa ?_
 refine ab _ (aA _ _) (aj (fun hb=>ah ⟨?_,rfl⟩) (fun hb=>?_))
 ·have hb:(o.card == -1)=true:=hb
  rw [eN,hb];rfl
 ·have hb:(o.card == -1)=false:=hb
  refine aa ?_
  refine yw (WC h o) ?_
  rintro _ H1 ⟨cells,rfl,k1,k2,k3⟩ l1
  refine ⟨cells,by simp [Shp.open,k1],k2,?_⟩
  dsimp only
  rw [k3]
  refine ab _ (aA _ _) ?_
  refine ah ⟨?_,rfl⟩
  rw [eN,hb];rfl
def AN (ks:List Int) (b:Bd) (p:Int) (o:Ob):Bool:=o.owner == p && (eN ks o && (au b p).field.contains o.id)
def kD (ks:List Int) (b:Bd) (p:Int):List Int:=if (aw p 0 1 && ay b)=true then (b.objs.filter (AN ks b p)).map (·.id) else []
theorem KB {H:Heap} {cv:Value} {ks:List Int} (hk:KindS H cv ks) {v:cP} {b:Bd} (h:BdS H v b) (p:Int) :
  Triple PP mq [cv,.agg (ap v b).toArray,iV p] H [] fun r _ O'=>OSl aO 1 r (aI (kD ks b p)) O':=by
 refine yh (vs:=cv::(ap v b++[iV p])) (by kernel_rfl) ⟨hk.one,az (ao (h.r [])) ⟨rfl,trivial⟩⟩ ?_
 simp only [mo]
 refine af fun r0=>?_
 refine ai (dt p 0 1 H []) rfl ⟨rfl,trivial⟩ fun H1 l1=>ab _ (aN _) (aj (fun hb=>?_) (fun hb=>?_))
 ·have e:kD ks b p=[]:=by rw [kD,if_neg];rw [show aw p 0 1=false from wR hb];simp
  rw [e]
  exact ah (OSl.nil _ _)
 have hw:aw p 0 1=true:=rx hb
 replace h:=h.le l1
 replace hk:=hk.le l1
 refine aa ?_
 refine ai (dY (h.r [])) rfl ⟨rfl,trivial⟩ fun H2 l2=>ab _ (aN _) (aj (fun hb=>?_) (fun hb=>?_))
 ·have e:kD ks b p=[]:=by rw [kD,if_neg];rw [show ay b=false from wR hb];simp
  rw [e]
  exact ah (OSl.nil _ _)
 have hv:ay b=true:=rx hb
 have hobl:=yP hv
 have e:kD ks b p=(b.objs.filter (AN ks b p)).map (·.id):=by rw [kD,if_pos (by rw [hw,hv];rfl)]
 rw [e]
 clear hb e
 replace h:=h.le l2
 replace hk:=hk.le l2
 have lo:=h.objs.len
 rw [List.length_map] at lo
 have hp:p=0∨p=1:=by simp only [aw,decide_eq_true_eq] at hw;omega
 refine aa ?_
 refine ab _ lo ?_
 refine dF b.objs.length (fun i x H' O'=>Heap.le H2 H'∧OSl aO 1 x (aI (((b.objs.take i).filter (AN ks b p)).map (·.id))) O') ⟨Heap.le_refl _,OSl.nil _ _⟩ ?_
 rintro i x H' O' hi - ⟨hle,hx⟩
 refine ab _ (aJ _ _) (aj (fun hb=>?_) (fun hb=>?_))
 ·have hlt:i < b.objs.length:=by simpa using hb
  obtain ⟨a,i1,i2,i3,i4⟩:=(h.objs.le hle).idx (k:=.i64) (i:=i) (r:=Ob.row b.objs[i]) (by simp [hlt])
  have hft:=fO (p:=AN ks b p) hlt
  have hnot:AN ks b p b.objs[i]=false→∀ H3,Heap.le H' H3→(Heap.le H2 H3∧OSl aO 1 x (aI (((b.objs.take (i + 1)).filter (AN ks b p)).map (·.id))) O'):=fun hn H3 l3=>by
   rw [hft,if_neg (by rw [hn];simp),List.append_nil];exact ⟨Heap.le_trans hle l3,hx⟩
  refine ab _ i1 (cT i2 i3 i4 (af fun r1=>?_))
  refine aa (aa ?_)
  refine ab _ (aA _ _) ?_
  refine aj (fun h1=>?_) (fun h1=>?_)
  ·have h1:(b.objs[i].owner == p)=true:=h1
   refine aa ?_
   refine ai (HG (hk.le hle) b.objs[i]) rfl ⟨rfl,trivial⟩ fun H3 l3=>aj (fun h2=>?_) (fun h2=>?_)
   ·have lz:=Heap.le_trans hle l3
    rcases hp with rfl | rfl
    ·refine ⟨.i64,0,rfl,fun _=>?_,fun e=>absurd rfl e⟩
     refine aa (aa ?_)
     refine ai (ff (((h.s0.field).le lz).rsl O') b.objs[i].id) rfl ⟨rfl,trivial⟩ fun H4 l4=>aj (fun h3=>?_) (fun h3=>?_)
     ·have hcr:AN ks b 0 b.objs[i]=true:=by rw [AN,h1,h2];exact h3
      have hlen:((b.objs.take i).filter (AN ks b 0)).length≤1000000:=Nat.le_trans (List.length_filter_le _ _) (by rw [List.length_take];omega)
      refine aa ?_
      refine af fun r2=>?_
      refine aH (rows:=aI (((b.objs.take i).filter (AN ks b 0)).map fun o:Ob=>o.id)) (news:=[[iV b.objs[i].id]]) (O1:=O') (O2:=[]) (e:=aO) (size:=1) (bytes:=8) (by kernel_rfl) (by simp) hx (fun Hf _ hf=>Sl.block1 (hf _ List.mem_cons_self) rfl ⟨rfl,trivial⟩) (by simp [aI];omega) (by simp [aI];omega) ?_
      intro v' A' H6 l6 hA'
      refine ab _ (aE (by omega)) (aV (by simp [Eqs]) hlt ⟨Heap.le_trans lz (Heap.le_trans l4 l6),?_⟩)
      rw [List.append_nil,hft,if_pos hcr,List.map_append,aI,List.map_append];exact hA'
     ·have hcr:AN ks b 0 b.objs[i]=false:=by rw [AN,h1,h2];exact h3
      exact ab _ (aE (by omega)) (aV (by simp [Eqs]) hlt (hnot hcr _ (Heap.le_trans l3 l4)))
    ·refine ⟨.i64,1,rfl,fun e=>absurd e (by omega),fun _=>⟨.i64,1,rfl,fun _=>?_,fun e=>absurd rfl e⟩⟩
     refine aa (aa ?_)
     refine ai (ff (((h.s1.field).le lz).rsl O') b.objs[i].id) rfl ⟨rfl,trivial⟩ fun H4 l4=>aj (fun h3=>?_) (fun h3=>?_)
     ·have hcr:AN ks b 1 b.objs[i]=true:=by rw [AN,h1,h2];exact h3
      have hlen:((b.objs.take i).filter (AN ks b 1)).length≤1000000:=Nat.le_trans (List.length_filter_le _ _) (by rw [List.length_take];omega)
      refine aa ?_
      refine af fun r2=>?_
      refine aH (rows:=aI (((b.objs.take i).filter (AN ks b 1)).map fun o:Ob=>o.id)) (news:=[[iV b.objs[i].id]]) (O1:=O') (O2:=[]) (e:=aO) (size:=1) (bytes:=8) (by kernel_rfl) (by simp) hx (fun Hf _ hf=>Sl.block1 (hf _ List.mem_cons_self) rfl ⟨rfl,trivial⟩) (by simp [aI];omega) (by simp [aI];omega) ?_
      intro v' A' H6 l6 hA'
      refine ab _ (aE (by omega)) (aV (by simp [Eqs]) hlt ⟨Heap.le_trans lz (Heap.le_trans l4 l6),?_⟩)
      rw [List.append_nil,hft,if_pos hcr,List.map_append,aI,List.map_append];exact hA'
     ·have hcr:AN ks b 1 b.objs[i]=false:=by rw [AN,h1,h2];exact h3
      exact ab _ (aE (by omega)) (aV (by simp [Eqs]) hlt (hnot hcr _ (Heap.le_trans l3 l4)))
   ·have hcr:AN ks b p b.objs[i]=false:=by rw [AN,h1,h2];rfl
    exact ab _ (aE (by omega)) (aV (by simp [Eqs]) hlt (hnot hcr _ l3))
  ·have h1:(b.objs[i].owner == p)=false:=h1
   have hcr:AN ks b p b.objs[i]=false:=by rw [AN,h1];rfl
   exact ab _ (aE (by omega)) (aV (by simp [Eqs]) hlt (hnot hcr _ (Heap.le_refl _)))
 ·have hge:b.objs.length≤i:=by simpa using hb
  rw [List.take_of_length_le hge] at hx
  exact ah hx
theorem LS {H:Heap} {cv:Value} {ks:List Int} (hk:KindS H cv ks) {v:cP} {b:Bd} (h:BdS H v b) (p:Int) :
  Triple PP mq [cv,.agg (ap v b).toArray,iV p] H [] fun r H' O'=>Sl H' 1 r (aI (kD ks b p))∧O'=[]:=Triple.frozenS (KB hk h p)
end Go.Proofs.YtdhobpmnkfmcfaaGreatDoor
namespace Go.Proofs.YtdhobpmnkfmcfaaGreatDoor
open Go Go.Sx
set_option maxRecDepth 100000
set_option maxHeartbeats 1000000
theorem B5 {P:Program} {lab n i:Nat} {R:Nat→Value→Heap→Own→Prop} {x:Value} {eqs:List (List Value × List Value)} {H:Heap} {O:Own} {Q:Value→Heap→Own→Prop} (he:Eqs eqs) (hi:i < n) (hr:Cons H O→∃ H3 O3,Ghost H O H3 O3∧R (i + 1) x H3 O3) :
  (Tree.cont lab (NX (IY n R) (MY n) (n - i)) [x,iV ((i + 1:Nat):Int)] eqs).den P Q H O:=by
 refine ⟨he,fun hc=>?_⟩
 obtain ⟨H3,O3,g,r⟩:=hr hc
 refine ⟨H3,O3,g,⟨i + 1,x,rfl,hi,r⟩,?_⟩
 show n - ((i + 1:Nat):Int).toNat < n - i
 simp;omega
theorem Jm {l:List Int} {i:Nat} (h:i < l.length):qk (l.take (i + 1))=LA l[i] (qk (l.take i)):=by
 rw [List.take_add_one,List.getElem?_eq_getElem h,qk,Option.toList_some,List.foldl_append];rfl
theorem Io {H:Heap} {v:Value} {l:List Int} (h:Sl H 1 v (aI l)) (hl:l.length≤4000000):Triple PP mP [v] H [] fun r H' O'=>Sl H' 1 r (aI (qk l))∧O'=[]:=by
 refine sg (vs:=[v]) (by kernel_rfl) ⟨h.one,trivial⟩ ?_
 simp only [iH]
 have hlen:ak .len [v]=some (iV l.length):=by have:=h.len;rwa [aI,List.length_map] at this
 refine dF l.length (fun i x H' O'=>O'=[]∧Heap.le H H'∧Sl H' 1 x (aI (qk (l.take i)))) ⟨rfl,Heap.le_refl _,Sl.nil H 1⟩ ?_
 rintro i x H' O' hi - ⟨rfl,hle,hx⟩
 refine ab _ hlen (ab _ (aJ _ _) (aj (fun hb=>?_) (fun hb=>?_)))
 ·have hlt:i < l.length:=by simpa using hb
  generalize hout:qk (l.take i)=out at hx
  have hol:out.length≤4000000:=by rw [← hout,yW,List.length_take];omega
  have xlen:ak .len [x]=some (iV out.length):=by have:=hx.len;rwa [aI,List.length_map] at this
  obtain ⟨a,h1,h2,h3,h4⟩:=(h.le hle).idx (k:=.i64) (i:=i) (r:=[iV l[i]]) (by simp [aI,hlt])
  refine aT out.length (fun k H2 O2=>O2=[]∧Heap.le H' H2∧∀ (j:Nat) (y:Int),j < k→out[j]?=some y→decide (y < l[i])=true) ⟨rfl,Heap.le_refl _,fun j y hj=>absurd hj (Nat.not_lt_zero j)⟩ ?_
  rintro k H2 O2 hk - ⟨rfl,hle2,hall⟩
  refine ab _ xlen (ab _ (aJ _ _) ?_)
  refine ae (ae ?_)
  have hfin:(∀ y,out[k]?=some y→decide (y < l[i])=false)→LA l[i] out=out.take k++(l[i]::out.drop k):=fun hno=>by
   obtain ⟨w1,w2⟩:=L8 hk hall hno
   rw [LA,w1,w2]
  rcases Nat.lt_or_ge k out.length with hkl | hkl
  ·obtain ⟨a2,k1,k2,k3,k4⟩:=(hx.le hle2).idx (k:=.i64) (i:=k) (r:=[iV out[k]]) (by simp [aI,hkl])
   refine ⟨.pointer (some a2),fun _=>k1,.inr rfl,?_⟩
   refine ae ?_
   refine ⟨[iV out[k]],rfl,⟨rfl,trivial⟩,fun _=>.inl k2,?_⟩
   refine ae (ae ?_)
   refine ⟨.pointer (some a),fun _=>h1,.inr rfl,?_⟩
   refine ae ?_
   refine ⟨[iV l[i]],rfl,⟨rfl,trivial⟩,fun _=>.inl (hle2.read h2),?_⟩
   refine ae (ae ?_)
   refine ab _ (aJ _ _) ?_
   refine ae ?_
   refine ab _ (aX _ _) ?_
   have hkd:decide ((k:Int) < (out.length:Int))=true:=by simp [hkl]
   rw [hkd,Bool.true_and]
   refine aj (fun hc=>?_) (fun hc=>?_)
   ·refine ab _ (aE (by omega)) (aP (by simp [Eqs]) hkl ⟨rfl,hle2,fun j y hj e=>?_⟩)
    rcases Nat.lt_or_ge j k with hjk | hjk
    ·exact hall j y hjk e
    ·have:j=k:=by omega
     subst this
     rw [List.getElem?_eq_getElem hkl] at e
     obtain rfl:=Option.some.inj e
     exact hc
   ·have hins:=hfin fun y e=>by
     rw [List.getElem?_eq_getElem hkl] at e
     obtain rfl:=Option.some.inj e
     exact hc
    refine ab _ h1 (cT (hle2.read h2) h3 h4 ?_)
    obtain ⟨u1,e1,s1⟩:=(hx.le hle2).from (i:=k) (by simp [aI];omega)
    obtain ⟨u2,e2,s2⟩:=(hx.le hle2).upto (i:=k) (by simp [aI];omega)
    refine ab _ e1 (af fun r0=>?_)
    refine kZ (ad:=⟨r0,0,none⟩) (rows:=[[iV l[i]]]) (news:=(aI out).drop k) (size:=1) (e:=aO) (by kernel_rfl) (fun Hf _ hf=>Sl.block1 (hf _ List.mem_cons_self) rfl ⟨rfl,trivial⟩) s1 (by rw [show lh PP aO=8 by kernel_rfl];simp [aI];omega) (by simp [aI];omega) fun v1 H3 l3 hv1=>?_
    refine ab _ e2 ?_
    refine dZ (e:=aO) (size:=1) (bytes:=8) (by kernel_rfl) (s2.le l3) (by simp [aI];omega) (by simp [aI];omega) fun xa Oa H4 lA pa=>?_
    refine aH (rows:=(aI out).take k) (news:=[[iV l[i]]]++(aI out).drop k) (O1:=Oa) (O2:=[]) (e:=aO) (size:=1) (bytes:=8) (by kernel_rfl) (by simp) pa (fun Hf lf _=>(hv1.le lA).le lf) (by simp [aI];omega) (by simp [aI];omega) ?_
    intro v' A' H6 l6 hA'
    refine ab _ (aE (by omega)) (B5 (by simp [Eqs]) hlt fun hc=>?_)
    obtain ⟨H9,g9,kz,l9⟩:=hA'.freeze (X:=[]) (hc.perm (by simp))
    refine ⟨H9,[],(Ghost.perm (by simp)).trans g9,rfl,Heap.le_trans hle (Heap.le_trans hle2 (Heap.le_trans l3 (Heap.le_trans lA (Heap.le_trans l6 l9)))),?_⟩
    have hrows:aI (qk (l.take (i + 1)))=(aI out).take k++([[iV l[i]]]++(aI out).drop k):=by
     rw [Jm hlt,hout,hins,aI,aI,List.map_append,List.map_cons,List.map_take,List.map_drop];rfl
    rw [hrows];exact kz
  ·have hkd:decide ((k:Int) < (out.length:Int))=false:=by simp;omega
   have hoff:∀ {P:Prop},On [(Value.bool (decide ((k:Int) < (out.length:Int))),true)]→P:=fun ho=>by
    have:=ho.1
    rw [hkd] at this
    cases this
   refine ⟨.pointer (some a),fun ho=>hoff ho,.inr rfl,?_⟩
   refine ae ?_
   refine ⟨[iV 0],rfl,⟨rfl,trivial⟩,fun ho=>hoff ho,?_⟩
   refine ae (ae ?_)
   refine ⟨.pointer (some a),fun _=>h1,.inr rfl,?_⟩
   refine ae ?_
   refine ⟨[iV l[i]],rfl,⟨rfl,trivial⟩,fun _=>.inl (hle2.read h2),?_⟩
   refine ae (ae ?_)
   refine ab _ (aJ _ _) ?_
   refine ae ?_
   refine ab _ (aX _ _) ?_
   rw [hkd,Bool.false_and]
   refine aj (fun hc=>by cases hc) (fun hc=>?_)
   have hins:=hfin fun y e=>by
    have:=(List.getElem?_eq_some_iff.1 e).1
    omega
   refine ab _ h1 (cT (hle2.read h2) h3 h4 ?_)
   obtain ⟨u1,e1,s1⟩:=(hx.le hle2).from (i:=k) (by simp [aI];omega)
   obtain ⟨u2,e2,s2⟩:=(hx.le hle2).upto (i:=k) (by simp [aI];omega)
   refine ab _ e1 (af fun r0=>?_)
   refine kZ (ad:=⟨r0,0,none⟩) (rows:=[[iV l[i]]]) (news:=(aI out).drop k) (size:=1) (e:=aO) (by kernel_rfl) (fun Hf _ hf=>Sl.block1 (hf _ List.mem_cons_self) rfl ⟨rfl,trivial⟩) s1 (by rw [show lh PP aO=8 by kernel_rfl];simp [aI];omega) (by simp [aI];omega) fun v1 H3 l3 hv1=>?_
   refine ab _ e2 ?_
   refine dZ (e:=aO) (size:=1) (bytes:=8) (by kernel_rfl) (s2.le l3) (by simp [aI];omega) (by simp [aI];omega) fun xa Oa H4 lA pa=>?_
   refine aH (rows:=(aI out).take k) (news:=[[iV l[i]]]++(aI out).drop k) (O1:=Oa) (O2:=[]) (e:=aO) (size:=1) (bytes:=8) (by kernel_rfl) (by simp) pa (fun Hf lf _=>(hv1.le lA).le lf) (by simp [aI];omega) (by simp [aI];omega) ?_
   intro v' A' H6 l6 hA'
   refine ab _ (aE (by omega)) (B5 (by simp [Eqs]) hlt fun hc=>?_)
   obtain ⟨H9,g9,kz,l9⟩:=hA'.freeze (X:=[]) (hc.perm (by simp))
   refine ⟨H9,[],(Ghost.perm (by simp)).trans g9,rfl,Heap.le_trans hle (Heap.le_trans hle2 (Heap.le_trans l3 (Heap.le_trans lA (Heap.le_trans l6 l9)))),?_⟩
   have hrows:aI (qk (l.take (i + 1)))=(aI out).take k++([[iV l[i]]]++(aI out).drop k):=by
    rw [Jm hlt,hout,hins,aI,aI,List.map_append,List.map_cons,List.map_take,List.map_drop];rfl
   rw [hrows];exact kz
 ·have hge:l.length≤i:=by simpa using hb
  rw [List.take_of_length_le hge] at hx
  exact ah ⟨hx,rfl⟩
def Rq (ks:List Int) (b:Bd) (p:Int):List Int:=qk ((au b p).field.filter fun id=>eN ks (b.objs.getD (eX b id).toNat zO))
theorem yx {P:Program} {f:FuncId} {args:List Value} {H:Heap} {O:Own} {e:TypeId} {size:Nat} {x:Value} {rows:List (List Value)} {R:Value→Heap→Own→Prop} {shp:Shp} {K:List Value→List (List Value)→Heap→Own→Prop}
  (hx:OSl e size x rows O) (h:∀ Hf,Sl Hf size x rows→Triple P f args Hf [] R) (hk:∀ v H' ,R v H' []→Heap.le H H'→∃ vs,shp.open v=some vs∧Ones vs∧K vs [] H' []) (hR:∀ v H' O',R v H' O'→O'=[]:=by rintro _ _ _ ⟨_,rfl⟩;rfl) :
  dN (fun H1 O1 R=>Triple P f args H1 O1 R) false [] [] shp K H O:=by
 intro hc
 obtain ⟨Hf,g,hs,hl⟩:=hx.freeze (X:=[]) (by simpa using hc)
 refine ⟨Hf,[],[],R,(by rw [List.append_nil] at g;exact g:Ghost H O Hf []),h Hf hs,fun v H' O' hr hle=>?_⟩
 obtain rfl:=hR v H' O' hr
 obtain ⟨vs,h1,h2,h3⟩:=hk v H' hr (Heap.le_trans hl hle)
 exact ⟨vs,[],[],h1,h2,trivial,rfl,h3⟩
theorem EG {H:Heap} {cv:Value} {ks:List Int} (hk:KindS H cv ks) {v:cP} {b:Bd} (h:BdS H v b) (hB:bdB b) (p:Int) (hp:p=0∨p=1) (hthere:∀ q,p=q→∀ id ∈ (au b q).field,¬ eX b id < 0) :
  Triple PP kG [cv,.agg (ap v b).toArray,iV p] H [] fun r H' O'=>Sl H' 1 r (aI (Rq ks b p))∧O'=[]:=by
 refine pP (vs:=cv::(ap v b++[iV p])) (by kernel_rfl) ⟨hk.one,az (ao (h.r [])) ⟨rfl,trivial⟩⟩ ?_
 simp only [fD]
 refine af fun r0=>?_
 rcases hp with rfl | rfl
 ·refine ⟨.i64,0,rfl,fun _=>?_,fun e=>absurd rfl e⟩
  have hfl:ak .len [v.f0]=some (iV b.s0.field.length):=by have:=h.s0.field.len;rwa [aI,List.length_map] at this
  have hbl:b.s0.field.length≤1000000:=by obtain ⟨_,⟨_,_,x1,_⟩,⟨_,_,x2,_⟩,_⟩:=hB;omega
  refine aa ?_
  refine ab _ hfl ?_
  refine yu b.s0.field.length (fun i x H' O'=>Heap.le H H'∧OSl aO 1 x (aI ((b.s0.field.take i).filter fun id=>eN ks (b.objs.getD (eX b id).toNat zO))) O') (fun _=>⟨H,[],Ghost.refl _ _,Heap.le_refl _,OSl.nil _ _⟩) ?_
  rintro i x H' O' hi - ⟨hle,hx⟩
  refine ab _ (aJ _ _) (aj (fun hb=>?_) (fun hb=>?_))
  ·have hlt:i < b.s0.field.length:=by simpa using hb
   obtain ⟨a,i1,i2,i3,i4⟩:=(h.s0.field.le hle).idx (k:=.i64) (i:=i) (r:=[iV b.s0.field[i]]) (by simp [aI,hlt])
   have hft:=fO (p:=fun id=>eN ks (b.objs.getD (eX b id).toNat zO)) hlt
   obtain ⟨k,ob,e1,e2,e3⟩:=oQ (hthere 0 rfl b.s0.field[i] (List.getElem_mem hlt))
   have hob:b.objs.getD (eX b b.s0.field[i]).toNat zO=ob:=by rw [e3,Int.toNat_natCast,List.getD_eq_getElem?_getD,e1];rfl
   rw [hob] at hft
   refine ab _ i1 (cT i2 i3 i4 ?_)
   refine aa (aa ?_)
   refine ai (yj ((h.le hle).r O') b.s0.field[i]) rfl ⟨rfl,trivial⟩ fun H2 l2=>?_
   rw [e3]
   have lz:=Heap.le_trans hle l2
   obtain ⟨a2,k1,k2,k3,k4⟩:=(h.objs.le lz).idx (k:=.i64) (i:=k) (r:=Ob.row ob) (by rw [List.getElem?_map,e1];rfl)
   refine ab _ k1 (cT k2 k3 k4 ?_)
   refine ai (AI (hk.le lz) ob) rfl ⟨rfl,trivial⟩ fun H3 l3=>aj (fun hc=>?_) (fun hc=>?_)
   ·have hc:eN ks ob=true:=hc
    have hlen:((b.s0.field.take i).filter fun id=>eN ks (b.objs.getD (eX b id).toNat zO)).length≤1000000:=Nat.le_trans (List.length_filter_le _ _) (by rw [List.length_take];omega)
    refine af fun r2=>?_
    refine aH (rows:=aI ((b.s0.field.take i).filter fun id=>eN ks (b.objs.getD (eX b id).toNat zO))) (news:=[[iV b.s0.field[i]]]) (O1:=O') (O2:=[]) (e:=aO) (size:=1) (bytes:=8) (by kernel_rfl) (by simp) hx (fun Hf _ hf=>Sl.block1 (hf _ List.mem_cons_self) rfl ⟨rfl,trivial⟩) (by rw [aI,List.length_map,List.length_singleton];omega) (by rw [aI,List.length_map,List.length_singleton];omega) ?_
    intro v' A' H6 l6 hA'
    refine ab _ (aE (by omega)) (aV (by simp [Eqs]) hlt ⟨Heap.le_trans lz (Heap.le_trans l3 l6),?_⟩)
    rw [List.append_nil,hft,if_pos hc,aI,List.map_append];exact hA'
   ·have hc:eN ks ob=false:=hc
    refine ab _ (aE (by omega)) (aV (by simp [Eqs]) hlt ⟨Heap.le_trans lz l3,?_⟩)
    rw [hft,if_neg (by rw [hc];simp),List.append_nil];exact hx
  ·have hge:b.s0.field.length≤i:=by simpa using hb
   rw [List.take_of_length_le hge] at hx
   have hlen:(b.s0.field.filter fun id=>eN ks (b.objs.getD (eX b id).toNat zO)).length≤1000000:=Nat.le_trans (List.length_filter_le _ _) hbl
   refine yx hx (fun Hf hs=>Io hs (by omega)) ?_
   rintro r H2 ⟨hr,-⟩ l2
   refine ⟨[r],rfl,⟨hr.one,trivial⟩,?_⟩
   exact ah ⟨hr,rfl⟩
 ·refine ⟨.i64,1,rfl,fun e=>absurd e (by omega),fun _=>⟨.i64,1,rfl,fun _=>?_,fun e=>absurd rfl e⟩⟩
  have hfl:ak .len [v.f1]=some (iV b.s1.field.length):=by have:=h.s1.field.len;rwa [aI,List.length_map] at this
  have hbl:b.s1.field.length≤1000000:=by obtain ⟨_,⟨_,_,x1,_⟩,⟨_,_,x2,_⟩,_⟩:=hB;omega
  refine aa ?_
  refine ab _ hfl ?_
  refine yu b.s1.field.length (fun i x H' O'=>Heap.le H H'∧OSl aO 1 x (aI ((b.s1.field.take i).filter fun id=>eN ks (b.objs.getD (eX b id).toNat zO))) O') (fun _=>⟨H,[],Ghost.refl _ _,Heap.le_refl _,OSl.nil _ _⟩) ?_
  rintro i x H' O' hi - ⟨hle,hx⟩
  refine ab _ (aJ _ _) (aj (fun hb=>?_) (fun hb=>?_))
  ·have hlt:i < b.s1.field.length:=by simpa using hb
   obtain ⟨a,i1,i2,i3,i4⟩:=(h.s1.field.le hle).idx (k:=.i64) (i:=i) (r:=[iV b.s1.field[i]]) (by simp [aI,hlt])
   have hft:=fO (p:=fun id=>eN ks (b.objs.getD (eX b id).toNat zO)) hlt
   obtain ⟨k,ob,e1,e2,e3⟩:=oQ (hthere 1 rfl b.s1.field[i] (List.getElem_mem hlt))
   have hob:b.objs.getD (eX b b.s1.field[i]).toNat zO=ob:=by rw [e3,Int.toNat_natCast,List.getD_eq_getElem?_getD,e1];rfl
   rw [hob] at hft
   refine ab _ i1 (cT i2 i3 i4 ?_)
   refine aa (aa ?_)
   refine ai (yj ((h.le hle).r O') b.s1.field[i]) rfl ⟨rfl,trivial⟩ fun H2 l2=>?_
   rw [e3]
   have lz:=Heap.le_trans hle l2
   obtain ⟨a2,k1,k2,k3,k4⟩:=(h.objs.le lz).idx (k:=.i64) (i:=k) (r:=Ob.row ob) (by rw [List.getElem?_map,e1];rfl)
   refine ab _ k1 (cT k2 k3 k4 ?_)
   refine ai (AI (hk.le lz) ob) rfl ⟨rfl,trivial⟩ fun H3 l3=>aj (fun hc=>?_) (fun hc=>?_)
   ·have hc:eN ks ob=true:=hc
    have hlen:((b.s1.field.take i).filter fun id=>eN ks (b.objs.getD (eX b id).toNat zO)).length≤1000000:=Nat.le_trans (List.length_filter_le _ _) (by rw [List.length_take];omega)
    refine af fun r2=>?_
    refine aH (rows:=aI ((b.s1.field.take i).filter fun id=>eN ks (b.objs.getD (eX b id).toNat zO))) (news:=[[iV b.s1.field[i]]]) (O1:=O') (O2:=[]) (e:=aO) (size:=1) (bytes:=8) (by kernel_rfl) (by simp) hx (fun Hf _ hf=>Sl.block1 (hf _ List.mem_cons_self) rfl ⟨rfl,trivial⟩) (by rw [aI,List.length_map,List.length_singleton];omega) (by rw [aI,List.length_map,List.length_singleton];omega) ?_
    intro v' A' H6 l6 hA'
    refine ab _ (aE (by omega)) (aV (by simp [Eqs]) hlt ⟨Heap.le_trans lz (Heap.le_trans l3 l6),?_⟩)
    rw [List.append_nil,hft,if_pos hc,aI,List.map_append];exact hA'
   ·have hc:eN ks ob=false:=hc
    refine ab _ (aE (by omega)) (aV (by simp [Eqs]) hlt ⟨Heap.le_trans lz l3,?_⟩)
    rw [hft,if_neg (by rw [hc];simp),List.append_nil];exact hx
  ·have hge:b.s1.field.length≤i:=by simpa using hb
   rw [List.take_of_length_le hge] at hx
   have hlen:(b.s1.field.filter fun id=>eN ks (b.objs.getD (eX b id).toNat zO)).length≤1000000:=Nat.le_trans (List.length_filter_le _ _) hbl
   refine yx hx (fun Hf hs=>Io hs (by omega)) ?_
   rintro r H2 ⟨hr,-⟩ l2
   refine ⟨[r],rfl,⟨hr.one,trivial⟩,?_⟩
   exact ah ⟨hr,rfl⟩
theorem yp {b:Bd} (h:ay b=true) {p:Int} (hp:p=0∨p=1) {id:Int} (hid:id ∈ (au b p).field):∃ (k:Nat) (o:Ob),b.objs[k]?=some o∧o.id=id∧o.owner=p∧eX b id=k:=by
 have hpl:=(aY h).1
 have hm:(id,p) ∈ aZ b:=by
  rcases hp with rfl | rfl
  ·have hid:id ∈ b.s0.field:=hid
   simp [aZ,fH,hid]
  ·have hid:id ∈ b.s1.field:=hid
   simp [aZ,fH,hid]
 obtain ⟨k,o,e1,e2,e3⟩:=UC hpl hm
 obtain ⟨_,_,v3,_⟩:=eC hpl e1
 exact ⟨k,o,e1,e2,e3,by rw [← e2];exact v3⟩
theorem mA:∀ {l:List Ob} {prev:Option Int},I6 prev l=true→(l.map (·.id)).Pairwise (· < ·)
 | [],_,_=>List.Pairwise.nil
 | a::l,prev,h=>by
  simp only [I6,Bool.and_eq_true] at h
  rw [List.map_cons,List.pairwise_cons]
  refine ⟨fun x hx=>?_,mA h.2⟩
  obtain ⟨o,ho,rfl⟩:=List.mem_map.1 hx
  exact (oL h.2).1 o ho _ rfl
theorem NJ (ks:List Int) {b:Bd} (h:ay b=true) {p:Int} (hp:p=0∨p=1):Rq ks b p=kD ks b p:=by
 have hw:aw p 0 1=true:=by simp only [aw,decide_eq_true_eq];omega
 rw [kD,if_pos (by rw [hw,h];rfl),Rq]
 obtain ⟨p1,_,_⟩:=ir (aY h).1
 have hfn:(au b p).field.Nodup:=by
  obtain ⟨a,c⟩:=vB (aY h).1
  rcases hp with rfl | rfl
  ·exact a
  ·exact c
 refine Am (BE (hfn.filter _)) ?_ fun x=>?_
 ·exact (mA p1).sublist ((List.filter_sublist (l:=b.objs)).map _)
 ·rw [(wP _).mem_iff,List.mem_filter,List.mem_map]
  constructor
  ·rintro ⟨hx,hc⟩
   obtain ⟨k,o,e1,e2,e3,e4⟩:=yp h hp hx
   have hob:b.objs.getD (eX b x).toNat zO=o:=by rw [e4,Int.toNat_natCast,List.getD_eq_getElem?_getD,e1];rfl
   rw [hob] at hc
   refine ⟨o,List.mem_filter.2 ⟨List.mem_of_getElem? e1,?_⟩,e2⟩
   rw [AN,e3,hc,e2]
   simpa using hx
  ·rintro ⟨o,ho,rfl⟩
   obtain ⟨ho,hc⟩:=List.mem_filter.1 ho
   simp only [AN,Bool.and_eq_true,beq_iff_eq,List.contains_iff_mem] at hc
   obtain ⟨h1,h2,h3⟩:=hc
   obtain ⟨k,hk⟩:=List.mem_iff_getElem?.1 ho
   obtain ⟨_,_,v3,_⟩:=eC (aY h).1 hk
   refine ⟨h3,?_⟩
   rw [v3,Int.toNat_natCast,List.getD_eq_getElem?_getD,hk]
   exact h2
end Go.Proofs.YtdhobpmnkfmcfaaGreatDoor
namespace Go.Proofs.YtdhobpmnkfmcfaaGreatDoor
open Go Go.Sx
set_option maxRecDepth 100000
set_option maxHeartbeats 1000000
theorem XP (H:Heap):CdR H KR zCd:=⟨rfl,EffsS.nil H,TrigsS.nil H⟩
theorem JR {H:Heap} {v:Value} {cs:List Cd} (h:CardsS H v cs) (c:Int) (hn:¬ (c < 0∨c ≥ (cs.length:Int))) :
  ∃ a r,ak (.idx 14) [v,iV c]=some (.pointer (some a))∧H.read (.pointer (some a)) 14=some r∧r.length=14∧Ones r∧CdR H r (DW cs c):=by
 obtain ⟨rows,h1,h2,h3⟩:=h
 have hlt:c.toNat < rows.length:=by omega
 obtain ⟨a,k1,k2,k3,k4⟩:=h1.idx (k:=.i64) (i:=c.toNat) (List.getElem?_eq_getElem hlt)
 have hk:cs[c.toNat]?=some (DW cs c):=by
  rw [DW,if_neg hn,List.getD_eq_getElem?_getD,List.getElem?_eq_getElem (by omega)];rfl
 refine ⟨a,_,?_,k2,k3,k4,h3 c.toNat _ _ (List.getElem?_eq_getElem hlt) hk⟩
 rw [show iV c=iV (c.toNat:Int) by rw [Int.toNat_of_nonneg (by omega)]];exact k1
def Xa (cs:List Cd) (c:Int) (v:Value) (H:Heap):Prop:=∃ cells:List Value,v=.agg cells.toArray∧cells.length=14∧Ones cells∧CdR H cells (DW cs c)
theorem VZ {H:Heap} {O:Own} {v:Value} {cs:List Cd} (h:CardsS H v cs) (o:Ob):Triple PP oo [v,.agg o.row.toArray] H O fun r H' O'=>Xa cs o.card r H'∧O'=O:=by
 refine oH (vs:=v::o.row) (by kernel_rfl) ⟨h.one,bD o⟩ ?_
 simp only [lu]
 refine af fun r0=>af fun r1=>?_
 refine aa ?_
 refine ab _ (aJ _ _) ?_
 refine aa (ae (ae ?_))
 refine ab _ h.len ?_
 refine ae (ae (ab _ (fJ _ _) (ae (ab _ (aS _ _) ?_))))
 refine aj (fun hb=>?_) (fun hb=>?_)
 ·have hb:(decide (o.card < 0) || decide (o.card ≥ (cs.length:Int)))=true:=hb
  refine aa (aa ?_)
  refine ah ⟨⟨KR,rfl,rfl,⟨rfl,rfl,rfl,rfl,rfl,rfl,rfl,rfl,rfl,rfl,rfl,rfl,rfl,rfl,trivial⟩,?_⟩,rfl⟩
  rw [DW,if_pos (by simpa using hb)];exact XP H
 ·have hb:(decide (o.card < 0) || decide (o.card ≥ (cs.length:Int)))=false:=hb
  obtain ⟨a,r,k1,k2,k3,k4,k5⟩:=JR h o.card (by simpa [Bool.or_eq_false_iff] using hb)
  refine aa ?_
  refine ab _ k1 (ar (iq k2) k3 k4 ?_)
  refine aa (aa ?_)
  exact ah ⟨⟨r,by rw [← EC k3];rfl,k3,k4,k5⟩,rfl⟩
theorem Vl {H:Heap} {O:Own} {v:Value} {cs:List Cd} (h:CardsS H v cs) (o:Ob):Triple PP ku [v,.agg o.row.toArray] H O fun r H' O'=>Xa cs o.card r H'∧O'=O:=by
 refine my (vs:=v::o.row) (by kernel_rfl) ⟨h.one,bD o⟩ ?_
 simp only [fV]
 refine af fun r0=>af fun r1=>?_
 refine aa ?_
 refine ab _ (aJ _ _) ?_
 refine aa (ae (ae ?_))
 refine ab _ h.len ?_
 refine ae (ae (ab _ (fJ _ _) (ae (ab _ (aS _ _) ?_))))
 refine aj (fun hb=>?_) (fun hb=>?_)
 ·have hb:(decide (o.card < 0) || decide (o.card ≥ (cs.length:Int)))=true:=hb
  refine aa (aa ?_)
  refine ah ⟨⟨KR,rfl,rfl,⟨rfl,rfl,rfl,rfl,rfl,rfl,rfl,rfl,rfl,rfl,rfl,rfl,rfl,rfl,trivial⟩,?_⟩,rfl⟩
  rw [DW,if_pos (by simpa using hb)];exact XP H
 ·have hb:(decide (o.card < 0) || decide (o.card ≥ (cs.length:Int)))=false:=hb
  obtain ⟨a,r,k1,k2,k3,k4,k5⟩:=JR h o.card (by simpa [Bool.or_eq_false_iff] using hb)
  refine aa ?_
  refine ab _ k1 (ar (iq k2) k3 k4 ?_)
  refine aa (aa ?_)
  exact ah ⟨⟨r,by rw [← EC k3];rfl,k3,k4,k5⟩,rfl⟩
theorem DX {H:Heap} {v:Value} {l:List (List Value)} (h:Sl H 5 v l) (hb:l.length≤2 ^ 30):Triple PP ep [v] H [] fun v' H' O'=>OSl eW 5 v' l O':=by
 refine iS (vs:=[v]) (by kernel_rfl) ⟨h.one,trivial⟩ ?_
 simp only [cI]
 obtain ⟨a,cap,rfl,h1,h2,h3⟩:=h
 have hev:ak (.bin .eql .slice) [.slice a l.length cap,.slice none 0 0]=some (.bool a.isNone):=by cases a <;> rfl
 refine ab _ hev (aj (fun hn=>ah ?_) (fun hn=>fun r0=>?_))
 ·have hl:l=[]:=by
   by_cases hl:l=[]
   ·exact hl
   ·obtain ⟨ad,rfl,_⟩:=h3 hl;cases hn
  subst hl
  exact OSl.nil eW 5
 ·refine aH (rows:=[]) (news:=l) (O1:=[]) (O2:=[]) (e:=eW) (size:=5) (bytes:=40) (by kernel_rfl) (List.Perm.refl _) (.inl ⟨⟨_,rfl⟩,rfl,rfl⟩) (fun Hf hl _=>Sl.le hl ⟨a,cap,rfl,h1,h2,h3⟩) (by simp;omega) (by simp;omega) ?_
  intro v' O1' H' _ ho
  refine ah ?_
  rw [List.append_nil]
  exact ho
theorem NR {H:Heap} {v:Value} {l:List (List Value)} (h:Sl H 2 v l) (hb:l.length≤2 ^ 30):Triple PP dL [v] H [] fun v' H' O'=>OSl gn 2 v' l O':=by
 refine ic (vs:=[v]) (by kernel_rfl) ⟨h.one,trivial⟩ ?_
 simp only [cj]
 obtain ⟨a,cap,rfl,h1,h2,h3⟩:=h
 have hev:ak (.bin .eql .slice) [.slice a l.length cap,.slice none 0 0]=some (.bool a.isNone):=by cases a <;> rfl
 refine ab _ hev (aj (fun hn=>ah ?_) (fun hn=>fun r0=>?_))
 ·have hl:l=[]:=by
   by_cases hl:l=[]
   ·exact hl
   ·obtain ⟨ad,rfl,_⟩:=h3 hl;cases hn
  subst hl
  exact OSl.nil gn 2
 ·refine aH (rows:=[]) (news:=l) (O1:=[]) (O2:=[]) (e:=gn) (size:=2) (bytes:=32) (by kernel_rfl) (List.Perm.refl _) (.inl ⟨⟨_,rfl⟩,rfl,rfl⟩) (fun Hf hl _=>Sl.le hl ⟨a,cap,rfl,h1,h2,h3⟩) (by simp;omega) (by simp;omega) ?_
  intro v' O1' H' _ ho
  refine ah ?_
  rw [List.append_nil]
  exact ho
def Xe (c:Cd) (v:Value) (H:Heap):Prop:=∃ cells:List Value,v=.agg cells.toArray∧cells.length=14∧Ones cells∧g cells 1=iV c.kind∧EffsS H (g cells 11) c.tg
theorem dV {l:List Value} (h:Ones l) {i:Nat} (hi:i < l.length):(g l i).oneCell'=true:=by
 rw [g,List.getD_eq_getElem?_getD,List.getElem?_eq_getElem hi]
 exact jM h _ (List.getElem_mem hi)
theorem Pl {H:Heap} {cells:List Value} {c:Cd} (h:CdR H cells c) (hl:cells.length=14) (ho:Ones cells) (hli:ji c=true) :
  Triple PP yM [.agg cells.toArray] H [] fun r H' O'=>Xe c r H'∧O'=[]:=by
 simp only [ji,Bool.and_eq_true,Bool.not_eq_true',Bool.or_eq_false_iff,decide_eq_false_iff_not,List.all_eq_true] at hli
 obtain ⟨⟨b1,b2⟩,b3⟩:=hli
 obtain ⟨hk,⟨erows,e1,e2,e3⟩,⟨trows,t1,t2,t3⟩⟩:=h
 refine y5 (vs:=cells) (by rw [← EC hl];kernel_rfl) ho ?_
 simp only [tA]
 refine af fun r0=>af fun r1=>?_
 refine aa (aa ?_)
 refine ax (Triple.frozenS (DX e1 (by omega))) ?_
 rintro x H1 _ ⟨hx,rfl⟩ l1
 refine ⟨[x],rfl,⟨hx.one,trivial⟩,?_⟩
 refine ax (NR (t1.le l1) (by omega)) fun y H2 O2 hy l2=>⟨[y],rfl,⟨hy.one,trivial⟩,?_⟩
 have ylen:=hy.len
 rw [t2] at ylen
 refine aa (aa (aa ?_))
 refine ab _ ylen ?_
 refine aT c.tr.length (fun i H' O'=>Heap.le H2 H'∧∃ rows' A,O'.Perm A∧OSl gn 2 y rows' A∧rows'.length=c.tr.length∧∀ j,i≤j→rows'[j]?=trows[j]?) ⟨Heap.le_refl _,trows,O2,by simp,hy,t2,fun _ _=>rfl⟩ ?_
 rintro i H' O' hi - ⟨hle,rows',A,hp,hA,hrl,hrest⟩
 refine ab _ (aJ _ _) (aj (fun hb=>?_) (fun hb=>?_))
 ·have hlt:i < c.tr.length:=by simpa using hb
  have hri:rows'[i]?=some trows[i]:=by rw [hrest i (Nat.le_refl _)];exact List.getElem?_eq_getElem (by omega)
  obtain ⟨er,k1,k2⟩:=t3 i trows[i] c.tr[i] (List.getElem?_eq_getElem (by omega)) (List.getElem?_eq_getElem hlt)
  have hb3:=b3 _ (List.getElem_mem hlt)
  obtain ⟨a,i1,i2,i3,i4⟩:=hA.idx (fun p h=>hp.mem_iff.2 h) H' (k:=.i64) hri
  obtain ⟨w1,w2⟩:=hA.rows_ok hri
  refine ab _ i1 (ar i3 w1 w2 (af fun r2=>?_))
  refine aa (aa (aa ?_))
  refine ax (Triple.frozenS (DX (k1.le (Heap.le_trans l1 (Heap.le_trans l2 hle))) (by rw [k2];omega))) ?_
  rintro z H3 _ ⟨hz,rfl⟩ l3
  refine ⟨[z],rfl,⟨hz.one,trivial⟩,?_⟩
  obtain ⟨a2,j1,j2⟩:=hA.store (O:=[]++O') (O2:=[]) (by simpa using hp) (k:=.i64) hri
  obtain ⟨A',hst,hA'⟩:=j2 1 [z] (by simp [w1]) ⟨hz.one,trivial⟩
  refine ab _ j1 ?_
  refine aC rfl (aC rfl ?_)
  refine ⟨_,hst,?_⟩
  refine ab _ (aE (by omega)) (aP (by simp [Eqs]) hlt ⟨Heap.le_trans hle l3,_,A',by simp,hA',by simp [hrl],fun j hj=>?_⟩)
  rw [List.getElem?_set_ne (by omega)]
  exact hrest j (by omega)
 ·refine aa (aa (aa ?_))
  refine nN ⟨⟨[g cells 0,g cells 1,g cells 2,g cells 3,g cells 4,g cells 5,g cells 6,g cells 7,g cells 8,g cells 9,g cells 10,x,y,g cells 13],rfl,rfl,?_,hk,⟨erows,hx.le (Heap.le_trans l2 hle),e2,e3⟩⟩,rfl⟩
  exact ⟨dV ho (by omega),dV ho (by omega),dV ho (by omega),dV ho (by omega),dV ho (by omega),dV ho (by omega),dV ho (by omega),dV ho (by omega),dV ho (by omega),dV ho (by omega),dV ho (by omega),hx.one,hy.one,dV ho (by omega),trivial⟩
theorem RG {H:Heap} {v:Value} {cs:List Cd} (h:CardsS H v cs) (hli:eD cs=true) (o:Ob):Triple PP tP [v,.agg o.row.toArray] H [] fun r H' O'=>Xe (DW cs o.card) r H'∧O'=[]:=by
 refine vr (vs:=v::o.row) (by kernel_rfl) ⟨h.one,bD o⟩ ?_
 simp only [oi]
 refine af fun r0=>af fun r1=>?_
 refine aa ?_
 refine ax (VZ (O:=[]) h o) ?_
 rintro _ H1 _ ⟨⟨cells,rfl,k1,k2,k3⟩,rfl⟩ l1
 refine ⟨cells,by simp [Shp.open,k1],k2,?_⟩
 have hrow:=EC k1
 refine ax (Pl (cells:=[g cells 0,g cells 1,g cells 2,g cells 3,g cells 4,g cells 5,g cells 6,g cells 7,g cells 8,g cells 9,g cells 10,g cells 11,g cells 12,g cells 13]) (by rw [hrow];exact k3) rfl (by rw [hrow];exact k2) (DL hli _)) ?_
 rintro _ H2 _ ⟨⟨cells2,rfl,m1,m2,m3,m4⟩,rfl⟩ l2
 refine ⟨cells2,by simp [Shp.open,m1],m2,?_⟩
 refine aa (aa ?_)
 exact ah ⟨⟨cells2,by rw [← EC m1];rfl,m1,m2,m3,m4⟩,rfl⟩
theorem Kp {α:Type} {p:α→Bool} {l:List α} {i:Nat} (h:i < l.length):((l.take (i + 1)).filter p).length=((l.take i).filter p).length + if p l[i] then 1 else 0:=by
 rw [List.take_add_one,List.getElem?_eq_getElem h,List.filter_append,List.length_append]
 congr 1
 by_cases hp:p l[i] <;> simp [hp]
theorem LH {H:Heap} {O:Own} {v:Value} {tg:List Int} (h:EffsS H v tg) {i:Nat} (hi:i < tg.length) :
  ∃ a r,ak (.idx 5) [v,iV i]=some (.pointer (some a))∧H.read (.pointer (some a)) 5=some r∧r.length=5∧Ones r∧g r 1=iV tg[i]∧Reads H O (aU (.pointer (some a)) 1) 1 [iV tg[i]]:=by
 obtain ⟨rows,h1,h2,h3⟩:=h
 have hlt:i < rows.length:=by omega
 obtain ⟨a,k1,k2,k3,k4⟩:=h1.idx (k:=.i64) (i:=i) (List.getElem?_eq_getElem hlt)
 have hg:=h3 i _ _ (List.getElem?_eq_getElem hlt) (List.getElem?_eq_getElem hi)
 obtain ⟨a2,j1,_,j3,_⟩:=(h1.rsl O).idx .i64 i rows[i] (by simp [hlt])
 obtain rfl:a2=a:=by rw [j1] at k1;simpa using k1
 have hr:=j3 1 1 (by omega)
 refine ⟨_,_,k1,k2,k3,k4,hg,?_⟩
 have e:((rows[i]).drop 1).take 1=[iV tg[i]]:=by
  match hm:rows[i],k3 with
  | [_,b,_,_,_],_=>rw [hm] at hg;simpa [g] using hg
 rw [e] at hr
 exact hr
theorem RS {H:Heap} {O:Own} {v:Value} {tg:List Int} (h:EffsS H v tg) (hb:tg.length≤1000000):RetO PP ue [v] H O (iV (dW tg).length):=by
 refine y4 (vs:=[v]) (by kernel_rfl) ⟨h.one,trivial⟩ ?_
 simp only [nc]
 refine ab _ h.len ?_
 refine dF tg.length (fun i x H' O'=>O'=O∧Heap.le H H'∧x=iV (dW (tg.take i)).length) ⟨rfl,Heap.le_refl _,rfl⟩ ?_
 rintro i x H' O' hi - ⟨rfl,hle,rfl⟩
 refine ab _ (aJ _ _) (aj (fun hb=>?_) (fun hb=>?_))
 ·have hlt:i < tg.length:=by simpa using hb
  obtain ⟨a,r,k1,k2,k3,k4,k5,_⟩:=LH (O:=O') (h.le hle) hlt
  refine ab _ k1 (ar (iq k2) k3 k4 (af fun r0=>?_))
  refine aa (aa ?_)
  rw [k5]
  refine ab _ (bf _ _) ?_
  have hft:=Kp (p:=fun t:Int=>t != 0) hlt
  have hfl:((tg.take i).filter fun t:Int=>t != 0).length≤tg.length:=Nat.le_trans (List.length_filter_le _ _) (by rw [List.length_take];omega)
  refine aj (fun hc=>?_) (fun hc=>?_)
  ·have hc:(tg[i] != 0)=true:=hc
   rw [if_pos hc] at hft
   refine ab _ (aE (by rw [dW];omega)) (ab _ (aE (by omega)) (aV (by simp [Eqs]) hlt ⟨rfl,hle,?_⟩))
   rw [dW,dW,hft]
  ·have hc:(tg[i] != 0)=false:=hc
   rw [if_neg (by rw [hc];simp)] at hft
   refine ab _ (aE (by omega)) (aV (by simp [Eqs]) hlt ⟨rfl,hle,?_⟩)
   rw [dW,dW,hft];rfl
 ·have hge:tg.length≤i:=by simpa using hb
  rw [List.take_of_length_le hge]
  exact ah ⟨rfl,rfl⟩
end Go.Proofs.YtdhobpmnkfmcfaaGreatDoor
namespace Go.Proofs.YtdhobpmnkfmcfaaGreatDoor
open Go Go.Sx
set_option maxRecDepth 100000
set_option maxHeartbeats 1000000
def Xx (c:Int):Ob:=⟨0,c,0,0,0,0,0,0,0,false,false,false⟩
def We (k:Int):Bool:=k == 3 || k == 4
def oD (cs:List Cd) (x:It):Bool:=(We (DW cs x.card).kind && decide (x.trig < 0)) && decide ((x.tgs.length:Int) ≥ ((dW (DW cs x.card).tg).length:Int))
def oC (cs:List Cd) (x:It):Bool:=(x.trig == -1 && We (DW cs x.card).kind) && decide ((x.tgs.length:Int) ≥ ((dW (DW cs x.card).tg).length:Int))
theorem Ny {cs:List Cd} (h:eD cs=true) (c:Int):(DW cs c).tg.length≤5:=by
 have:=DL h c
 simp only [ji,Bool.and_eq_true,Bool.not_eq_true',Bool.or_eq_false_iff,decide_eq_false_iff_not] at this
 omega
theorem VU {H:Heap} {v:Value} {cs:List Cd} (h:CardsS H v cs) (hli:eD cs=true) {row:List Value} {x:It} (hx:ItR H [] row x):RetO PP xQ [v,.agg row.toArray] H [] (.bool (oD cs x)):=by
 obtain ⟨s,rfl,hs⟩:=hx
 refine CH (vs:=[v,iV x.player,iV x.id,iV x.card,iV x.trig,s]) (by kernel_rfl) ⟨h.one,rfl,rfl,rfl,rfl,hs.one,trivial⟩ ?_
 simp only [qD]
 refine af fun r0=>?_
 refine aa ?_
 refine ax (RG h hli (Xx x.card)) ?_
 rintro _ H1 _ ⟨⟨cells,rfl,k1,k2,k3,k4⟩,rfl⟩ l1
 refine ⟨cells,by simp [Shp.open,k1],k2,af fun r1=>?_⟩
 have k3:g cells 1=iV (DW cs x.card).kind:=k3
 have k4:EffsS H1 (g cells 11) (DW cs x.card).tg:=k4
 refine aa (aa ?_)
 rw [k3]
 have hsl:ak .len [s]=some (iV x.tgs.length):=by have:=hs.len;rwa [List.length_map] at this
 refine ab _ (aA _ _) (aa (ae (ae (ab _ (aA _ _) (ae (ab _ (aS _ _) (aa (ae (ae (ab _ (aJ _ _) (ae (ab _ (aX _ _) ?_))))))))))))
 refine aj (fun hb=>?_) (fun hb=>?_)
 ·have hb:(We (DW cs x.card).kind && decide (x.trig < 0))=true:=hb
  refine aa ?_
  refine ab _ hsl ?_
  refine aa ?_
  refine ai (RS k4 (by have:=Ny hli x.card;omega)) rfl ⟨rfl,trivial⟩ fun H2 l2=>?_
  refine ab _ (di _ _) (ah ⟨?_,rfl⟩)
  rw [oD,hb,Bool.true_and]
 ·have hb:(We (DW cs x.card).kind && decide (x.trig < 0))=false:=hb
  refine ah ⟨?_,rfl⟩
  rw [oD,hb,Bool.false_and]
theorem Vi {H:Heap} {v:Value} {tg:List Int} (h:EffsS H v tg) (hb:tg.length≤1000000):Triple PP nq [v] H [] fun r _ O'=>OSl eA 1 r (aI (dW tg)) O':=by
 refine ug (vs:=[v]) (by kernel_rfl) ⟨h.one,trivial⟩ ?_
 simp only [jk]
 refine dF tg.length (fun i x H' O'=>Heap.le H H'∧OSl eA 1 x (aI (dW (tg.take i))) O') ⟨Heap.le_refl _,OSl.nil _ _⟩ ?_
 rintro i x H' O' hi - ⟨hle,hx⟩
 refine ab _ (h.le hle).len ?_
 refine ab _ (aJ _ _) (aj (fun hb=>?_) (fun hb=>?_))
 ·have hlt:i < tg.length:=by simpa using hb
  obtain ⟨a,r,k1,k2,k3,k4,k5,k6⟩:=LH (O:=O') (h.le hle) hlt
  have hft:=fO (p:=fun t:Int=>t != 0) hlt
  refine ab _ k1 ?_
  refine aC rfl ?_
  refine ar k6 rfl ⟨rfl,trivial⟩ ?_
  refine ab _ (bf _ _) ?_
  refine aj (fun hc=>?_) (fun hc=>?_)
  ·have hc:(tg[i] != 0)=true:=hc
   have hlen:(dW (tg.take i)).length≤1000000:=by rw [dW];exact Nat.le_trans (List.length_filter_le _ _) (by rw [List.length_take];omega)
   refine ab _ k1 ?_
   refine aC rfl ?_
   refine ar k6 rfl ⟨rfl,trivial⟩ (af fun r2=>?_)
   refine aH (rows:=aI (dW (tg.take i))) (news:=[[iV tg[i]]]) (O1:=O') (O2:=[]) (e:=eA) (size:=1) (bytes:=8) (by kernel_rfl) (by simp) hx (fun Hf _ hf=>Sl.block1 (hf _ List.mem_cons_self) rfl ⟨rfl,trivial⟩) (by rw [aI,List.length_map,List.length_singleton];omega) (by rw [aI,List.length_map,List.length_singleton];omega) ?_
   intro v' A' H6 l6 hA'
   refine ab _ (aE (by omega)) (aV (by simp [Eqs]) hlt ⟨Heap.le_trans hle l6,?_⟩)
   rw [List.append_nil,dW,hft,if_pos hc,aI,List.map_append];exact hA'
  ·have hc:(tg[i] != 0)=false:=hc
   refine ab _ (aE (by omega)) (aV (by simp [Eqs]) hlt ⟨hle,?_⟩)
   rw [dW,hft,if_neg (by rw [hc];simp),List.append_nil];exact hx
 ·have hge:tg.length≤i:=by simpa using hb
  rw [List.take_of_length_le hge] at hx
  exact ah hx
theorem Vg {H:Heap} {v:Value} {cs:List Cd} (h:CardsS H v cs) (hli:eD cs=true) {row:List Value} {x:It} (hx:ItR H [] row x):RetO PP np [v,.agg row.toArray] H [] (.bool (oC cs x)):=by
 obtain ⟨s,rfl,hs⟩:=hx
 refine uf (vs:=[v,iV x.player,iV x.id,iV x.card,iV x.trig,s]) (by kernel_rfl) ⟨h.one,rfl,rfl,rfl,rfl,hs.one,trivial⟩ ?_
 simp only [jj]
 refine af fun r0=>?_
 refine aa ?_
 refine ax (Vl (O:=[]) h (Xx x.card)) ?_
 rintro _ H1 _ ⟨⟨cells,rfl,k1,k2,k3⟩,rfl⟩ l1
 refine ⟨cells,by simp [Shp.open,k1],k2,af fun r1=>?_⟩
 have k5:g cells 1=iV (DW cs x.card).kind:=k3.kind
 have k4:EffsS H1 (g cells 11) (DW cs x.card).tg:=k3.eff
 refine aa (aa ?_)
 rw [k5]
 have hsl:ak .len [s]=some (iV x.tgs.length):=by have:=hs.len;rwa [List.length_map] at this
 refine ab _ (aA _ _) (aa (ae (ae (ab _ (aA _ _) (ae (aa (ae (ae (ae (ae (ab _ (aA _ _) (ae (ae (ae (ab _ (aS _ _) (ae (ab _ (aX _ _) ?_)))))))))))))))))
 refine aj (fun hb=>?_) (fun hb=>?_)
 ·have hb:(x.trig == -1 && We (DW cs x.card).kind)=true:=hb
  refine aa ?_
  refine ab _ hsl ?_
  refine aa ?_
  refine ax (Vi k4 (by have:=Ny hli x.card;omega)) fun y H2 O2 hy l2=>⟨[y],rfl,⟨hy.one,trivial⟩,?_⟩
  have hyl:=hy.len
  rw [aI,List.length_map] at hyl
  refine ab _ hyl ?_
  refine ab _ (di _ _) (nN ⟨?_,rfl⟩)
  rw [oC,hb,Bool.true_and]
 ·have hb:(x.trig == -1 && We (DW cs x.card).kind)=false:=hb
  refine ah ⟨?_,rfl⟩
  rw [oC,hb,Bool.false_and]
theorem SQ {cs:List Cd} {x:It} (h:dz x false=true):oC cs x=oD cs x:=by
 have ht:(x.trig == -1)=decide (x.trig < 0):=by
  simp only [dz,Bool.and_eq_true,aw,decide_eq_true_eq] at h
  obtain ⟨_,_,_,h4,_⟩:=h
  rw [Bool.eq_iff_iff];simp;omega
 rw [oC,oD,ht,Bool.and_comm (decide (x.trig < 0))]
end Go.Proofs.YtdhobpmnkfmcfaaGreatDoor
