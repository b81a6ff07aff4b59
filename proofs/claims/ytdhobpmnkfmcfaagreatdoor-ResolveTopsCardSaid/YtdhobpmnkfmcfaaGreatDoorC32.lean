/- Cards are drawn: the program's. -/
import Derived.Test.YtdhobpmnkfmcfaaGreatDoorRW
import Derived.Test.YtdhobpmnkfmcfaaGreatDoorKN
import Derived.Test.YtdhobpmnkfmcfaaGreatDoorC21
namespace Go.Proofs.YtdhobpmnkfmcfaaGreatDoor
open Go Go.Sx
set_option maxRecDepth 100000
set_option maxHeartbeats 1000000
def iz (b:Bd) (p id:Int):Bd:=bT (Ae b p id) (eY b id).toNat (bu (b.objs.getD (eY b id).toNat zO) 1)
def cq:Nat→Bd→Int→Bd
 | 0,b,_=>b
 | n + 1,b,p=>match (ao b p).lib.getLast? with
  | none=>aV b p { ao b p with empty:=true }
  | some id=>cq n (iz b p id) p
def nU (b:Bd) (p n:Int):Bd × Int:=if (!an b || (!au p 0 1 || decide (n < 0)))=true then (zBd,2) else (cq n.toNat b p,0)
def wD (w:cn) (x1 x2 x3 x4:Value):cn:={ w with l0:=x1,h0:=x2,l1:=x3,h1:=x4 }
def mkD (b:Bd) (os:List Ob) (a1 a2 a3 a4:List Int):Bd:={ b with objs:=os,s0:={ b.s0 with lib:=a1,hand:=a2 },s1:={ b.s1 with lib:=a3,hand:=a4 } }
theorem s7 {n:Nat} (h:n + 1 < 2 ^ 63):ak (.bin .sub .int) [iV ((n + 1:Nat):Int),iV 1]=some (iV (n:Int)):=by
 simp only[ak,fL,fg,if_true]
 rw[gJ (by omega) (by omega)]
 congr 3
 omega
theorem um {b:Bd} (h:an b=true) {p:Int} (hp:p=0∨p=1) {l:List Int} {id:Int} (hl:(ao b p).lib=l++[id]) :
  ∃ (k:Nat) (o:Ob),b.objs[k]?=some o∧o.id=id∧o.owner=p∧eY b id=k∧an (Ae b p id)=true∧ba (Ae b p id) id=0∧Ah (Ae b p id) id=k∧i64 id∧iz b p id=bT (Ae b p id) k (bu o 1)∧an (iz b p id)=true:=by
 obtain⟨_,m2,_,m4⟩:=Ix hp hl
 have hpl:=(aM h).1
 obtain⟨k,o,e1,e2,e3⟩:=IN hpl m4
 obtain⟨v1,_,v3,_⟩:=cV hpl e1
 rw[e2] at v3
 have hmv:=Px h hp hl
 have hidx:eY (Ae b p id) id=k:=by rw[eY,m2];exact v3
 have hn:¬ ((k:Int) < 0):=by omega
 have hid:=xg v1
 have hd:iz b p id=bT (Ae b p id) k (bu o 1):=by
  simp only[iz,v3,Int.toNat_natCast,List.getD_eq_getElem?_getD,e1,Option.getD_some]
 refine⟨k,o,e1,e2,e3,v3,hmv,by simp[ba,hmv,hidx,hn],by rw[Ah,if_pos hmv,hidx,if_neg hn],by rw[← e2];omega,hd,?_⟩
 rw[hd]
 exact HG (o:=o) hmv (by rw[m2];exact e1) rfl rfl rfl (zV 1 v1)
theorem TP {H:Heap} {v:cn} {b:Bd} (h:BdS H v b) (hB:bdB b) (p n:Int) (hn1000:n≤1000):Triple PP AV [.agg (al v b).toArray,iV p,iV n] H [] fun r _ O'=>∃ w,r=.tuple #[.agg (al w (nU b p n).1).toArray,iV (nU b p n).2]∧OwnB tys w (nU b p n).1 O':=by
 refine EI (vs:=al v b++[iV p,iV n]) (by kernel_rfl) (ax (am (h.r [])) ⟨rfl,rfl,trivial⟩) ?_
 simp only[AL]
 refine af fun r0=>af fun r1=>?_
 refine aa ?_
 refine aj (dq (h.r [])) rfl ⟨rfl,trivial⟩ fun H1 l1=>ab _ (aJ _) (ai (fun hb=>?_) (fun hb=>?_))
 ·have e:nU b p n=(zBd,2):=by rw[nU,if_pos (by rw[u6 hb];rfl)]
  refine aa (aa ?_)
  exact ah ⟨vH,by rw[e];rfl,by rw[e];exact OwnB.zero tys⟩
 have hval:an b=true:=sR hb
 replace h:=h.le l1
 refine aj (dp p 0 1 H1 []) rfl ⟨rfl,trivial⟩ fun H2 l2=>?_
 refine ab _ (aJ _) (ae (ab _ (aB _ _) (ae (ab _ (aR _ _) ?_))))
 refine ai (fun hb=>?_) (fun hb=>?_)
 ·have e:nU b p n=(zBd,2):=by
   have hb:(!au p 0 1 || decide (n < 0))=true:=hb
   rw[nU,if_pos (by rw[hb];simp)]
  refine aa (aa ?_)
  exact ah ⟨vH,by rw[e];rfl,by rw[e];exact OwnB.zero tys⟩
 have hb:(!au p 0 1 || decide (n < 0))=false:=hb
 have e:nU b p n=(cq n.toNat b p,0):=by rw[nU,if_neg (by rw[hb,hval];simp)]
 simp only[Bool.or_eq_false_iff,Bool.not_eq_false',decide_eq_false_iff_not] at hb
 obtain⟨hb1,hb2⟩:=hb
 have hp:p=0∨p=1:=by simp only[au,decide_eq_true_eq] at hb1;omega
 obtain⟨n0,rfl⟩:∃ n0:Nat,n=n0:=⟨n.toNat,by omega⟩
 rw[Int.toNat_natCast] at e
 rw[e]
 clear e
 replace h:=h.le l2
 refine aa ?_
 refine ar (Je h hB) ?_
 rintro _ H3 O3 ⟨w,rfl,ho⟩ l3
 refine⟨al w b,rfl,aZ H3 ho,?_⟩
 rw[List.append_nil]
 obtain⟨_,⟨m2,m3,_,_⟩,⟨m6,m7,_,_⟩,_⟩:=hB
 refine aa ?_
 rcases hp with rfl | rfl
 ·refine⟨.i64,0,rfl,fun _=>?_,fun e=>absurd rfl e⟩
  refine fG (fun vs H' O'=>∃ (m:Nat) (x1 x2 x3 x4:Value) (os:List Ob) (a1 a2 a3 a4:List Int),vs=[iV m,x1,x2,x3,x4]∧m≤1000∧OwnB tys (wD w x1 x2 x3 x4) (mkD b os a1 a2 a3 a4) O'∧an (mkD b os a1 a2 a3 a4)=true∧cq n0 b 0=cq m (mkD b os a1 a2 a3 a4) 0∧a1.length + a2.length≤4000000)
   (fun vs _ _=>match g vs 0 with | .int _ k=>k.toNat | _=>0) ⟨n0,_,_,_,_,b.objs,b.s0.lib,b.s0.hand,b.s1.lib,b.s1.hand,rfl,by omega,ho,hval,rfl,by omega⟩ ?_
  rintro vs H' O' - - - ⟨m,x1,x2,x3,x4,os,a1,a2,a3,a4,rfl,hm,hown,hv,hgo,hlen⟩
  refine ab _ (bK _ _) (ai (fun hb=>?_) (fun hb=>?_))
  ·have hb:=of_decide_eq_true hb
   obtain⟨m',rfl⟩:∃ m':Nat,m=m' + 1:=⟨m - 1,by omega⟩
   have hR:=hown.r (fun p hp=>hp) H'
   have hl1:ak .len [x1]=some (iV a1.length):=by have:=hR.s0.lib.len;rwa [aE,List.length_map] at this
   refine aa ?_
   refine ab _ hl1 (ab _ (ay _ _) (ai (fun hb=>?_) (fun hb=>?_)))
   ·have h0:a1=[]:=by
     have:a1.length=0:=by simpa using hb
     exact List.eq_nil_of_length_eq_zero this
    subst h0
    have e:cq n0 b 0=aV (mkD b os [] a2 a3 a4) 0 { ao (mkD b os [] a2 a3 a4) 0 with empty:=true }:=by rw[hgo];rfl
    rw[e]
    refine aa (aa (aa (aa ?_)))
    refine ah ⟨wD w x1 x2 x3 x4,rfl,?_⟩
    obtain⟨Oo,A0,B0,C0,D0,A1,B1,C1,D1,Os,Oq,Oa,Obk,hq,hh⟩:=hown
    exact⟨Oo,A0,B0,C0,D0,A1,B1,C1,D1,Os,Oq,Oa,Obk,hq,⟨hh.objs,hh.l0,hh.h0,hh.f0,hh.g0,hh.l1,hh.h1,hh.f1,hh.g1,hh.stack,hh.queue,hh.att,hh.blocks⟩⟩
   ·obtain⟨l,id,rfl⟩:∃ l id,a1=l++[id]:=by
     have hne:a1 ≠ []:=by rintro rfl;simp at hb
     exact⟨a1.dropLast,a1.getLast hne,(List.dropLast_concat_getLast hne).symm⟩
    obtain⟨k,ob,e1,e2,e3,e4,hmv,hE,hI,hid,hd,hdv⟩:=um hv (p:=0) (.inl rfl) (l:=l) (id:=id) rfl
    have hll:(l++[id]).length=l.length + 1:=by simp
    rw[hll]
    have hls:l.length + 1 < 2 ^ 63:=by rw[hll] at hlen;omega
    refine aa ?_
    refine ab _ (s7 hls) ?_
    obtain⟨a,i1,i2,_,i3,i4⟩:=hR.s0.lib.idx .i64 l.length [iV id] (by show (aE (l++[id]))[l.length]?=_;simp[aE])
    refine ab _ i1 (ap i2 i3 i4 ?_)
    refine aa ?_
    refine ab _ (s7 hls) ?_
    obtain⟨A,R,hp1,hA,back⟩:=OwnB.pick_l0 hown
    have hA:OSl aK 1 x1 (aE (l++[id])) A:=hA
    obtain⟨u,su,hu⟩:=hA.upto (i:=l.length) (by simp[aE])
    have hu:OSl aK 1 u (aE l) A:=by
     have:(aE (l++[id])).take l.length=aE l:=by simp[aE]
     rwa [this] at hu
    have ho1:=OwnB.perm (back u l A hu) hp1
    refine ab _ su ?_
    refine aa ?_
    refine af fun r2=>?_
    obtain⟨A2,R2,hp2,hA2,back2⟩:=OwnB.pick_h0 ho1
    have hA2:OSl aK 1 x2 (aE a2) A2:=hA2
    refine aC (rows:=aE a2) (news:=[[iV id]]) (O1:=A2) (O2:=R2) (e:=aK) (size:=1) (bytes:=8) (by kernel_rfl) hp2 hA2 (fun Hf _ hf=>Sl.block1 (hf _ List.mem_cons_self) rfl ⟨rfl,trivial⟩) (by simp[aE];omega) (by simp[aE];omega) ?_
    intro y A' H6 l6 hA'
    have hA3:OSl aK 1 y (aE (a2++[id])) A':=by rw[aE,List.map_append];exact hA'
    have ho2:=back2 y (a2++[id]) A' hA3
    have emid:Ae (mkD b os (l++[id]) a2 a3 a4) 0 id=mkD b os l (a2++[id]) a3 a4:=by
     simp only[Ae,QY,aV,ao,mkD,if_true,List.dropLast_concat]
    rw[emid] at hmv hE hI hd
    have ho2:OwnB tys (wD w u y x3 x4) (mkD b os l (a2++[id]) a3 a4) (A'++R2):=ho2
    refine aa (aa (aa ?_))
    refine aj (zH (ho2.r (fun p hp=>hp) H6) hid) rfl ⟨rfl,rfl,trivial⟩ fun H7 l7=>?_
    rw[hI]
    refine aa (aa ?_)
    have e1':(mkD b os l (a2++[id]) a3 a4).objs[k]?=some ob:=e1
    obtain⟨a5,k1,k2,_,k3,k4⟩:=(ho2.r (fun p hp=>hp) H7).objs.idx .i64 k (Ob.row ob) (by rw[List.getElem?_map,e1'];rfl)
    have k1:ak (.idx 12) [w.o,iV k]=some (.pointer (some a5)):=k1
    refine ab _ k1 (ap k2 k3 k4 ?_)
    refine aj (Ko ob 1 H7 _) rfl (vs:=(bu ob 1).row) (bE _) fun H8 l8=>?_
    obtain⟨a6,q1,O1,q2,O2,q3,q4⟩:=OwnB.store_ob ho2 (X:=[]) (O':=A'++R2) (by simp) e1' (bu ob 1)
    have q1:ak (.idx 12) [w.o,iV k]=some (.pointer (some a6)):=q1
    rw[List.append_nil] at q3
    refine ab _ q1 ?_
    refine aw rfl ?_
    refine⟨_,q2,?_⟩
    refine ab _ (s7 (by omega)) ?_
    refine bU (by simp[Eqs]) ⟨m',u,y,x3,x4,os.set k (bu ob 1),l,(a2++[id]),a3,a4,rfl,by omega,OwnB.perm q4 q3,by rw[hd] at hdv;exact hdv,?_,by rw[hll] at hlen;simp only[List.length_append,List.length_cons,List.length_nil];omega⟩ ?_
    ·rw[hgo,cq]
     have egl:(ao (mkD b os (l++[id]) a2 a3 a4) 0).lib.getLast?=some id:=by
      show (l++[id]).getLast?=some id
      simp
     rw[egl]
     show cq m' (iz _ 0 id) 0=_
     rw[hd];rfl
    ·show ((m':Int)).toNat < (((m' + 1:Nat):Int)).toNat
     omega
  ·have hm0:m=0:=by have:=of_decide_eq_false hb;omega
   subst hm0
   have e:cq n0 b 0=mkD b os a1 a2 a3 a4:=by rw[hgo];rfl
   rw[e]
   refine aa (aa (aa ?_))
   exact ah ⟨wD w x1 x2 x3 x4,rfl,hown⟩
 ·refine⟨.i64,1,rfl,fun e=>absurd e (by omega),fun _=>⟨.i64,1,rfl,fun _=>?_,fun e=>absurd rfl e⟩⟩
  refine fG (fun vs H' O'=>∃ (m:Nat) (x1 x2 x3 x4:Value) (os:List Ob) (a1 a2 a3 a4:List Int),vs=[iV m,x1,x2,x3,x4]∧m≤1000∧OwnB tys (wD w x1 x2 x3 x4) (mkD b os a1 a2 a3 a4) O'∧an (mkD b os a1 a2 a3 a4)=true∧cq n0 b 1=cq m (mkD b os a1 a2 a3 a4) 1∧a3.length + a4.length≤4000000)
   (fun vs _ _=>match g vs 0 with | .int _ k=>k.toNat | _=>0) ⟨n0,_,_,_,_,b.objs,b.s0.lib,b.s0.hand,b.s1.lib,b.s1.hand,rfl,by omega,ho,hval,rfl,by omega⟩ ?_
  rintro vs H' O' - - - ⟨m,x1,x2,x3,x4,os,a1,a2,a3,a4,rfl,hm,hown,hv,hgo,hlen⟩
  refine ab _ (bK _ _) (ai (fun hb=>?_) (fun hb=>?_))
  ·have hb:=of_decide_eq_true hb
   obtain⟨m',rfl⟩:∃ m':Nat,m=m' + 1:=⟨m - 1,by omega⟩
   have hR:=hown.r (fun p hp=>hp) H'
   have hl1:ak .len [x3]=some (iV a3.length):=by have:=hR.s1.lib.len;rwa [aE,List.length_map] at this
   refine aa ?_
   refine ab _ hl1 (ab _ (ay _ _) (ai (fun hb=>?_) (fun hb=>?_)))
   ·have h0:a3=[]:=by
     have:a3.length=0:=by simpa using hb
     exact List.eq_nil_of_length_eq_zero this
    subst h0
    have e:cq n0 b 1=aV (mkD b os a1 a2 [] a4) 1 { ao (mkD b os a1 a2 [] a4) 1 with empty:=true }:=by rw[hgo];rfl
    rw[e]
    refine aa (aa (aa (aa ?_)))
    refine ah ⟨wD w x1 x2 x3 x4,rfl,?_⟩
    obtain⟨Oo,A0,B0,C0,D0,A1,B1,C1,D1,Os,Oq,Oa,Obk,hq,hh⟩:=hown
    exact⟨Oo,A0,B0,C0,D0,A1,B1,C1,D1,Os,Oq,Oa,Obk,hq,⟨hh.objs,hh.l0,hh.h0,hh.f0,hh.g0,hh.l1,hh.h1,hh.f1,hh.g1,hh.stack,hh.queue,hh.att,hh.blocks⟩⟩
   ·obtain⟨l,id,rfl⟩:∃ l id,a3=l++[id]:=by
     have hne:a3 ≠ []:=by rintro rfl;simp at hb
     exact⟨a3.dropLast,a3.getLast hne,(List.dropLast_concat_getLast hne).symm⟩
    obtain⟨k,ob,e1,e2,e3,e4,hmv,hE,hI,hid,hd,hdv⟩:=um hv (p:=1) (.inr rfl) (l:=l) (id:=id) rfl
    have hll:(l++[id]).length=l.length + 1:=by simp
    rw[hll]
    have hls:l.length + 1 < 2 ^ 63:=by rw[hll] at hlen;omega
    refine aa ?_
    refine ab _ (s7 hls) ?_
    obtain⟨a,i1,i2,_,i3,i4⟩:=hR.s1.lib.idx .i64 l.length [iV id] (by show (aE (l++[id]))[l.length]?=_;simp[aE])
    refine ab _ i1 (ap i2 i3 i4 ?_)
    refine aa ?_
    refine ab _ (s7 hls) ?_
    obtain⟨A,R,hp1,hA,back⟩:=OwnB.pick_l1 hown
    have hA:OSl aK 1 x3 (aE (l++[id])) A:=hA
    obtain⟨u,su,hu⟩:=hA.upto (i:=l.length) (by simp[aE])
    have hu:OSl aK 1 u (aE l) A:=by
     have:(aE (l++[id])).take l.length=aE l:=by simp[aE]
     rwa [this] at hu
    have ho1:=OwnB.perm (back u l A hu) hp1
    refine ab _ su ?_
    refine aa ?_
    refine af fun r2=>?_
    obtain⟨A2,R2,hp2,hA2,back2⟩:=OwnB.pick_h1 ho1
    have hA2:OSl aK 1 x4 (aE a4) A2:=hA2
    refine aC (rows:=aE a4) (news:=[[iV id]]) (O1:=A2) (O2:=R2) (e:=aK) (size:=1) (bytes:=8) (by kernel_rfl) hp2 hA2 (fun Hf _ hf=>Sl.block1 (hf _ List.mem_cons_self) rfl ⟨rfl,trivial⟩) (by simp[aE];omega) (by simp[aE];omega) ?_
    intro y A' H6 l6 hA'
    have hA3:OSl aK 1 y (aE (a4++[id])) A':=by rw[aE,List.map_append];exact hA'
    have ho2:=back2 y (a4++[id]) A' hA3
    have emid:Ae (mkD b os a1 a2 (l++[id]) a4) 1 id=mkD b os a1 a2 l (a4++[id]):=by
     simp only[Ae,QY,aV,ao,mkD,show ¬ ((1:Int)=0) by omega,if_false,List.dropLast_concat]
    rw[emid] at hmv hE hI hd
    have ho2:OwnB tys (wD w x1 x2 u y) (mkD b os a1 a2 l (a4++[id])) (A'++R2):=ho2
    refine aa (aa (aa ?_))
    refine aj (zH (ho2.r (fun p hp=>hp) H6) hid) rfl ⟨rfl,rfl,trivial⟩ fun H7 l7=>?_
    rw[hI]
    refine aa (aa ?_)
    have e1':(mkD b os a1 a2 l (a4++[id])).objs[k]?=some ob:=e1
    obtain⟨a5,k1,k2,_,k3,k4⟩:=(ho2.r (fun p hp=>hp) H7).objs.idx .i64 k (Ob.row ob) (by rw[List.getElem?_map,e1'];rfl)
    have k1:ak (.idx 12) [w.o,iV k]=some (.pointer (some a5)):=k1
    refine ab _ k1 (ap k2 k3 k4 ?_)
    refine aj (Ko ob 1 H7 _) rfl (vs:=(bu ob 1).row) (bE _) fun H8 l8=>?_
    obtain⟨a6,q1,O1,q2,O2,q3,q4⟩:=OwnB.store_ob ho2 (X:=[]) (O':=A'++R2) (by simp) e1' (bu ob 1)
    have q1:ak (.idx 12) [w.o,iV k]=some (.pointer (some a6)):=q1
    rw[List.append_nil] at q3
    refine ab _ q1 ?_
    refine aw rfl ?_
    refine⟨_,q2,?_⟩
    refine ab _ (s7 (by omega)) ?_
    refine bU (by simp[Eqs]) ⟨m',x1,x2,u,y,os.set k (bu ob 1),a1,a2,l,(a4++[id]),rfl,by omega,OwnB.perm q4 q3,by rw[hd] at hdv;exact hdv,?_,by rw[hll] at hlen;simp only[List.length_append,List.length_cons,List.length_nil];omega⟩ ?_
    ·rw[hgo,cq]
     have egl:(ao (mkD b os a1 a2 (l++[id]) a4) 1).lib.getLast?=some id:=by
      show (l++[id]).getLast?=some id
      simp
     rw[egl]
     show cq m' (iz _ 1 id) 1=_
     rw[hd];rfl
    ·show ((m':Int)).toNat < (((m' + 1:Nat):Int)).toNat
     omega
  ·have hm0:m=0:=by have:=of_decide_eq_false hb;omega
   subst hm0
   have e:cq n0 b 1=mkD b os a1 a2 a3 a4:=by rw[hgo];rfl
   rw[e]
   refine aa (aa (aa ?_))
   exact ah ⟨wD w x1 x2 x3 x4,rfl,hown⟩
theorem Gi {b:Bd} (h:ge b=true):bdB b:=by
 simp only[ge,gQ,nh,Bool.and_eq_true,Bool.not_eq_true',decide_eq_true_eq,decide_eq_false_iff_not,List.all_eq_true] at h
 obtain⟨⟨a1,a2,a3,a4⟩,⟨a5,a6,a7,a8⟩,⟨a9,a10⟩,⟨a11,a12⟩,⟨a13,a14⟩,a15⟩:=h
 refine⟨by omega,⟨by omega,by omega,by omega,by omega⟩,⟨by omega,by omega,by omega,by omega⟩,⟨by omega,fun x hx=>?_⟩,⟨by omega,fun x hx=>?_⟩,by omega,by omega⟩
 ·have:=a10 x hx;omega
 ·have:=a12 x hx;omega
theorem yl {P:Program} {f:FuncId} {args:List Value} {H:Heap} {O O1 O2:Own} {r:Value} {shp:Shp} {K:List Value→List (List Value)→Heap→Own→Prop} {vs:List Value}
  (hO:O.Perm (O1++O2)) (h:Triple P f args H O1 fun v _ _=>v=r) (ho:shp.open r=some vs) (h1:Ones vs) (hk:∀ H' O3,Heap.le H H'→K vs [] H' (O3++O2)) :
  dZ (fun H1 O1 R=>Triple P f args H1 O1 R) false [] [] shp K H O:=by
 intro _
 refine⟨H,O1,O2,_,Ghost.perm hO,h,fun v H' O' hr hle=>?_⟩
 subst hr
 exact⟨vs,[],O',ho,h1,trivial,rfl,hk H' O' hle⟩
theorem vk (H:Heap):BdS H vH zBd :=
 ⟨Sl.nil H 12,⟨Sl.nil H 1,Sl.nil H 1,Sl.nil H 1,Sl.nil H 1⟩,⟨Sl.nil H 1,Sl.nil H 1,Sl.nil H 1,Sl.nil H 1⟩,⟨[],Sl.nil H 5,rfl,fun i r x h=>by simp at h⟩,⟨[],Sl.nil H 5,rfl,fun i r x h=>by simp at h⟩,Sl.nil H 1,Sl.nil H 2⟩
def QW (b:Bd) (o:Ob):Bd:=if 0≤eY b o.id then bT b (eY b o.id).toNat o else b
theorem VH {H:Heap} {v:cn} {b:Bd} (h:BdS H v b) (hB:bdB b) (o:Ob):Triple PP jW [.agg (al v b).toArray,.agg o.row.toArray] H [] fun r _ O'=>∃ w,r=.agg (al w (QW b o)).toArray∧OwnB tys w (QW b o) O':=by
 refine vp (vs:=al v b++o.row) (by kernel_rfl) (ax (am (h.r [])) (bE o)) ?_
 simp only[o8]
 refine af fun r0=>af fun r1=>af fun r2=>?_
 refine aa ?_
 refine ar (EW h hB) ?_
 rintro _ H3 O3 ⟨w,rfl,ho⟩ l3
 refine⟨al w b,rfl,aZ H3 ho,?_⟩
 refine aa (aa (aa ?_))
 refine aj (wz (ho.r (fun p hp=>List.mem_append_left _ hp) H3) o.id) rfl ⟨rfl,trivial⟩ fun H4 l4=>ab _ (cI _ _) (ai (fun hb=>?_) (fun hb=>?_))
 ·have hb:=of_decide_eq_true hb
  obtain⟨k,x,e1,e2,e3⟩:=nS (b:=b) (id:=o.id) (by omega)
  have e:QW b o=bT b k o:=by simp[QW,e3]
  rw[e,e3]
  obtain⟨a',q1,O1,q2,O2,q3,q4⟩:=OwnB.store_ob ho (X:=[]) (O':=O3++[]) (by simp) e1 o
  refine aa (aa ?_)
  refine ab _ q1 (aw rfl ⟨_,q2,?_⟩)
  refine aa (aa (aa ?_))
  exact ah ⟨w,rfl,OwnB.perm q4 (by simpa using q3)⟩
 ·have hb:=of_decide_eq_false hb
  have e:QW b o=b:=by rw[QW,if_neg (by omega)]
  rw[e]
  refine aa (aa (aa ?_))
  exact ah ⟨w,rfl,OwnB.perm ho (by simp)⟩
theorem WI {H:Heap} {v:cn} {b:Bd} (h:BdS H v b) (hB:bdB b) (o:Ob):Triple PP jW [.agg (al v b).toArray,.agg o.row.toArray] H [] fun r H' O'=>(∃ w,r=.agg (al w (QW b o)).toArray∧BdS H' w (QW b o))∧O'=[] :=
 Triple.frozen (VH h hB o)
theorem QC {H:Heap} {wx vw vf vs:cn} {x want src was:Bd} {O1:Own} (hx:OwnB tys wx x O1) (hw:BdS H vw want) (hf:BdS H vf src) (hs:BdS H vs was) (e no:Int) :
  Triple PP mS [.agg (al wx x).toArray,iV e,.agg (al vw want).toArray,iV no,.agg (al vf src).toArray,.agg (al vs was).toArray] H O1 fun r _ _=>r=.bool (((x == want) && (e == no)) && (src == was)):=by
 refine sN (vs:=al wx x++([iV e]++(al vw want++([iV no]++(al vf src++al vs was))))) (by kernel_rfl)
  (ax (aZ H hx) (ax ⟨rfl,trivial⟩ (ax (am (hw.r [])) (ax ⟨rfl,trivial⟩ (ax (am (hf.r [])) (am (hs.r []))))))) ?_
 simp only[mq]
 refine af fun r0=>af fun r1=>af fun r2=>af fun r3=>?_
 refine aa (aa ?_)
 refine aj (EV (hx.r (fun p hp=>hp) H) (hw.r O1)) rfl ⟨rfl,trivial⟩ fun H1 l1=>?_
 refine ae (ae (ab _ (ay _ _) (ae (ab _ (aT _ _) ?_))))
 refine ai (fun hb=>?_) (fun hb=>?_)
 ·refine aa (aa ?_)
  refine aj (EV ((hf.le l1).r O1) ((hs.le l1).r O1)) rfl ⟨rfl,trivial⟩ fun H2 l2=>?_
  refine aa ?_
  refine yl (O2:=[]) (by simp) (Qw hx) rfl trivial fun H3 O3 l3=>ai (fun hc=>?_) (fun hc=>?_)
  ·have l:=Heap.le_trans l1 (Heap.le_trans l2 l3)
   refine aa (aa ?_)
   refine aj (EV ((hf.le l).r _) ((hs.le l).r _)) rfl ⟨rfl,trivial⟩ fun H4 l4=>ah ?_
   rw[show ((x == want) && (e == no))=true from hb,Bool.true_and];rfl
  ·refine ah ?_
   rw[show (src == was)=false from hc,Bool.and_false]
 ·refine aa ?_
  refine yl (O2:=[]) (by simp) (Qw hx) rfl trivial fun H3 O3 l3=>ah ?_
  rw[show ((x == want) && (e == no))=false from hb,Bool.false_and]
theorem Fz {α:Type} {p q:α→Bool}:∀ {l:List α} {i:Int},(∀ x ∈ l,p x=q x)→gm p l i=gm q l i
 | [],_,_=>rfl
 | a::l,i,h=>by
  simp only[gm,h a (by simp),Fz (l:=l) fun x hx=>h x (by simp[hx])]
theorem Lo {b:Bd} (h:an b=true) (id:Int):∀ x ∈ b.stack,onR id x=ke id x:=by
 intro x hx
 have hf:=List.all_eq_true.1 (aM h).2.2.2 x hx
 have ht:=IW hf
 simp only[onR,ke]
 by_cases hn:x.trig < 0
 ·simp[ht hn]
 ·have:¬ x.trig=-1:=by omega
  simp[hn,this]
theorem Ud {b:Bd} (h:an b=true) (id:Int):ga (onR id) b id=ga (ke id) b id:=by
 simp only[ga,Fz (Lo h id)]
theorem ET {id:Int}:∀ {l:List (Int × Int × List Int)} {s:Int × Int × Int},jq id l=some s→∃ x ∈ l,id ∈ x.2.2
 | [],_,h=>by simp[jq] at h
 | a::l,s,h=>by
  simp only[jq] at h
  split at h
  ·rename_i hi
   have:=GM a.2.2 id 0 (by omega)
   rw[decide_eq_true hi] at this
   exact⟨a,by simp,by simpa using this.symm⟩
  ·obtain⟨x,hx,hm⟩:=ET h
   exact⟨x,by simp[hx],hm⟩
theorem Rj {b:Bd} (h:an b=true) {id:Int} {s:Int × Int × Int} (hs:ga (ke id) b id=some s):¬ eY b id < 0:=by
 have hm:id ∈ (aL b).map (·.1):=by
  rw[iJ]
  simp only[Q0,QZ,List.mem_append,List.mem_map]
  unfold ga at hs
  split at hs
  ·rename_i s' e
   obtain⟨x,hx,hm⟩:=ET e
   simp only[gu,List.mem_cons,List.not_mem_nil,or_false] at hx
   rcases hx with rfl | rfl | rfl | rfl | rfl | rfl | rfl | rfl <;> simp[hm]
  ·split at hs
   ·rename_i hi
    have:=zz (ke id) b.stack 0 (by omega)
    rw[decide_eq_true hi] at this
    obtain⟨x,hx,hp⟩:=List.any_eq_true.1 this.symm
    simp only[ke,Bool.and_eq_true,decide_eq_true_eq,beq_iff_eq] at hp
    right;right
    exact⟨x,by simp[bH,hx,hp.1],hp.2⟩
   ·cases hs
 obtain⟨o,ho,e,_⟩:=zq (aM h).1 id hm
 intro hn
 rcases lm (fun x:Ob=>x.id == id) b.objs 0 (by omega) with ⟨_,h2⟩ | ⟨k,x,_,_,e3⟩
 ·have:=h2 o ho
  simp[e] at this
 ·have:eY b id=k:=by rw[eY,e3];omega
  omega
theorem Q2 {b:Bd} (h:an b=true) (id:Int):oN b id=Gf (ga (onR id) b id)∧ba b id=ER (ga (onR id) b id):=by
 rw[Ud h]
 by_cases hi:eY b id < 0
 ·have he:ba b id=9:=by simp[ba,h,hi]
  cases e:ga (ke id) b id with
  | none=>exact⟨by simp[oN,he,Gf],by simp[he,ER]⟩
  | some s=>exact absurd hi (Rj h e)
 ·have he:ba b id=0:=by simp[ba,h,hi]
  obtain⟨k,o,e1,e2,_⟩:=nS hi
  obtain⟨s,hs⟩:=y8 h e1
  rw[e2] at hs
  exact⟨by simp[oN,he],by simp[he,ER,hs]⟩
theorem VI (o:Ob) (H:Heap) (O:Own):RetO PP oI [.agg o.row.toArray] H O (.agg (Rx o).row.toArray):=by
 refine tG (vs:=o.row) (by kernel_rfl) (bE o) ?_
 simp only[oq]
 refine af fun r0=>af fun r1=>?_
 repeat (first | refine aa ?_ | refine ae ?_)
 exact ah ⟨rfl,rfl⟩
theorem Uo (o:Ob) (z:Int) (H:Heap) (O:Own):RetO PP mO [.agg o.row.toArray,iV z] H O (.agg (bu o z).row.toArray):=by
 refine sH (vs:=o.row++[iV z]) (by kernel_rfl) (ax (bE o) ⟨rfl,trivial⟩) ?_
 simp only[mi]
 refine af fun r0=>af fun r1=>?_
 refine aa ?_
 refine aj (VI o H O) rfl (vs:=(Rx o).row) (bE _) fun H1 l1=>?_
 refine aa ?_
 refine ab _ (ay _ _) ?_
 repeat (first | refine aa ?_ | refine ae ?_)
 exact ah ⟨rfl,rfl⟩
theorem zT {l:List Int} {i:Nat} (h:i < l.length) (id:Int):ce (l.take (i + 1)) id=ce (l.take i) id++(if l[i] != id then [l[i]] else []):=by
 rw[List.take_add_one,List.getElem?_eq_getElem h,ce,List.filter_append]
 congr 1
 simp only[Option.toList_some,List.filter_cons,List.filter_nil]
theorem Jq (l:List Int) (id:Int):(ce l id).length≤l.length:=List.length_filter_le _ _
theorem MK {H:Heap} {v:Value} {l:List Int} (h:Sl H 1 v (aE l)) (hl:l.length≤1000000) (id:Int):Triple PP gp [v,iV id] H [] fun v' _ O'=>OSl aK 1 v' (aE (ce l id)) O':=by
 refine qg (vs:=[v,iV id]) (by kernel_rfl) ⟨h.one,rfl,trivial⟩ ?_
 simp only[kp]
 have hlen:ak .len [v]=some (iV l.length):=by have:=h.len;rwa [aE,List.length_map] at this
 refine de l.length (fun i x H' O'=>Heap.le H H'∧OSl aK 1 x (aE (ce (l.take i) id)) O') ⟨Heap.le_refl _,OSl.nil _ _⟩ ?_
 rintro i x H' O' hi - ⟨hle,hx⟩
 refine ab _ hlen (ab _ (aB _ _) (ai (fun hb=>?_) (fun hb=>?_)))
 ·have hlt:i < l.length:=by simpa using hb
  obtain⟨a,h1,h2,h3,h4⟩:=(h.le hle).idx (k:=.i64) (i:=i) (r:=[iV l[i]]) (by simp[aE,hlt])
  refine ab _ h1 (cG h2 h3 h4 (ab _ (aY _ _) (ai (fun hc=>?_) (fun hc=>?_))))
  ·refine ab _ h1 (cG h2 h3 h4 (af fun r0=>?_))
   have hw:(ce (l.take i) id).length≤1000000:=Nat.le_trans (Jq _ _) (by rw[List.length_take];omega)
   refine aC (rows:=aE (ce (l.take i) id)) (news:=[[iV l[i]]]) (O1:=O') (O2:=[]) (e:=aK) (size:=1) (bytes:=8) (by kernel_rfl) (by simp) hx (fun Hf _ hf=>Sl.block1 (hf _ List.mem_cons_self) rfl ⟨rfl,trivial⟩) (by simp[aE];omega) (by simp[aE];omega) ?_
   intro v' A' H6 l6 hA'
   refine ab _ (az (by omega)) (aS (by simp[Eqs]) hlt ⟨Heap.le_trans hle l6,?_⟩)
   rw[List.append_nil,zT hlt,if_pos hc,aE,List.map_append];exact hA'
  ·refine ab _ (az (by omega)) (aS (by simp[Eqs]) hlt ⟨hle,?_⟩)
   have hc:(l[i] != id)=false:=hc
   rw[zT hlt,if_neg (by rw[hc];simp),List.append_nil];exact hx
 ·have hge:l.length≤i:=by simpa using hb
  rw[List.take_of_length_le hge] at hx
  exact ah hx
theorem Triple.frozenS {P:Program} {f:FuncId} {args:List Value} {H:Heap} {e:TypeId} {size:Nat} {rows:List (List Value)} (h:Triple P f args H [] fun v _ O'=>OSl e size v rows O') :
  Triple P f args H [] fun v H' O'=>Sl H' size v rows∧O'=[]:=by
 refine h.ghost ?_
 intro v H' O' _ hc ho
 obtain⟨H'',g,k,_⟩:=ho.freeze (X:=[]) (by simpa using hc)
 exact⟨H'',[],by simpa using g,k,rfl⟩
theorem ju {H:Heap} {v:Value} {l:List Int} (h:Sl H 1 v (aE l)) (hl:l.length≤1000000) (id:Int):Triple PP gp [v,iV id] H [] fun v' H' O'=>Sl H' 1 v' (aE (ce l id))∧O'=[] :=
 Triple.frozenS (MK h hl id)
def Jp (b:Bd) (id:Int):Bd:={ na b id with stack:=b.stack.filter fun x=>!onR id x }
def prR (id:Int) (row:List Value):Bool:=(asI (g row 3) == some (-1)) && asI (g row 1) == some id
theorem CY {b:Bd} (h:an b=true) (id:Int):Jp b id=na b id:=by
 have:(b.stack.filter fun x=>!onR id x)=b.stack.filter fun x=>!ke id x:=List.filter_congr fun x hx=>by rw[Lo h id x hx]
 simp only[Jp,na,this]
theorem fK {α:Type} {p:α→Bool} {l:List α} {i:Nat} (h:i < l.length):(l.take (i + 1)).filter p=(l.take i).filter p++(if p l[i] then [l[i]] else []):=by
 rw[List.take_add_one,List.getElem?_eq_getElem h,List.filter_append]
 congr 1
 simp only[Option.toList_some,List.filter_cons,List.filter_nil]
theorem wS {P:Program} {lab key:Nat} {x0:Value} {body:(List Value→Heap→Own→Prop)→List Value→Tree} {H:Heap} {O:Own} {Q:Value→Heap→Own→Prop} (n:Nat) (R:Nat→Value→Heap→Own→Prop)
  (h0:Cons H O→∃ H1 O1,Ghost H O H1 O1∧R 0 x0 H1 O1) (step:∀ i x H' O',i≤n→Heap.le H H'→R i x H' O'→(body (L8 (IY n R) (MY n) (n - i)) [x,iV i]).den P Q H' O') :
  (Tree.loop lab key [x0,iV 0] body).den P Q H O:=by
 refine⟨IY n R,MY n,fun hc=>?_,?_⟩
 ·obtain⟨H1,O1,g,r⟩:=h0 hc
  exact⟨H1,O1,g,0,x0,rfl,Nat.zero_le _,r⟩
 ·rintro vs H' O' _ _ hle ⟨i,x,rfl,hi,hr⟩
  exact step i x H' O' hi hle hr
theorem WL {H:Heap} {v:cn} {b:Bd} (h:BdS H v b) (hB:bdB b) (id:Int):Triple PP py [.agg (al v b).toArray,iV id] H [] fun r H' O'=>(∃ w,r=.agg (al w (Jp b id)).toArray∧BdS H' w (Jp b id))∧O'=[]:=by
 refine vr (vs:=al v b++[iV id]) (by kernel_rfl) (ax (am (h.r [])) ⟨rfl,trivial⟩) ?_
 simp only[pd]
 have hB':=hB
 obtain⟨b1,⟨b2,b3,b4,b5⟩,⟨b6,b7,b8,b9⟩,⟨b10,b10'⟩,b11,b12,b13⟩:=hB
 refine af fun r0=>af fun r1=>?_
 refine aa ?_
 refine ar (Triple.frozen (EW h hB')) ?_
 rintro _ H1 _ ⟨⟨w,rfl,hw⟩,rfl⟩ l1
 refine⟨al w b,rfl,am (hw.r []),?_⟩
 repeat (first | refine aa ?_ | refine ae ?_)
 refine ar (ju hw.s0.lib b2 id) ?_
 rintro x0 K0 _ ⟨z0,rfl⟩ j0
 refine⟨[x0],rfl,⟨z0.one,trivial⟩,?_⟩
 replace hw:=hw.le j0
 refine ar (ju hw.s0.hand b3 id) ?_
 rintro x1 K1 _ ⟨z1,rfl⟩ j1
 refine⟨[x1],rfl,⟨z1.one,trivial⟩,?_⟩
 replace hw:=hw.le j1
 replace z0:=z0.le j1
 refine ar (ju hw.s0.field b4 id) ?_
 rintro x2 K2 _ ⟨z2,rfl⟩ j2
 refine⟨[x2],rfl,⟨z2.one,trivial⟩,?_⟩
 replace hw:=hw.le j2
 replace z0:=z0.le j2
 replace z1:=z1.le j2
 refine ar (ju hw.s0.grave b5 id) ?_
 rintro x3 K3 _ ⟨z3,rfl⟩ j3
 refine⟨[x3],rfl,⟨z3.one,trivial⟩,?_⟩
 replace hw:=hw.le j3
 replace z0:=z0.le j3
 replace z1:=z1.le j3
 replace z2:=z2.le j3
 repeat (first | refine aa ?_ | refine ae ?_)
 refine ar (ju hw.s1.lib b6 id) ?_
 rintro x4 K4 _ ⟨z4,rfl⟩ j4
 refine⟨[x4],rfl,⟨z4.one,trivial⟩,?_⟩
 replace hw:=hw.le j4
 replace z0:=z0.le j4
 replace z1:=z1.le j4
 replace z2:=z2.le j4
 replace z3:=z3.le j4
 refine ar (ju hw.s1.hand b7 id) ?_
 rintro x5 K5 _ ⟨z5,rfl⟩ j5
 refine⟨[x5],rfl,⟨z5.one,trivial⟩,?_⟩
 replace hw:=hw.le j5
 replace z0:=z0.le j5
 replace z1:=z1.le j5
 replace z2:=z2.le j5
 replace z3:=z3.le j5
 replace z4:=z4.le j5
 refine ar (ju hw.s1.field b8 id) ?_
 rintro x6 K6 _ ⟨z6,rfl⟩ j6
 refine⟨[x6],rfl,⟨z6.one,trivial⟩,?_⟩
 replace hw:=hw.le j6
 replace z0:=z0.le j6
 replace z1:=z1.le j6
 replace z2:=z2.le j6
 replace z3:=z3.le j6
 replace z4:=z4.le j6
 replace z5:=z5.le j6
 refine ar (ju hw.s1.grave b9 id) ?_
 rintro x7 K7 _ ⟨z7,rfl⟩ j7
 refine⟨[x7],rfl,⟨z7.one,trivial⟩,?_⟩
 replace hw:=hw.le j7
 replace z0:=z0.le j7
 replace z1:=z1.le j7
 replace z2:=z2.le j7
 replace z3:=z3.le j7
 replace z4:=z4.le j7
 replace z5:=z5.le j7
 replace z6:=z6.le j7
 have hsl:=ItsR.len (hw.r []).stack
 have hsone:=ItsR.one (hw.r []).stack
 obtain⟨rows,hs,hrl,hit⟩:=hw.stack
 refine aa (aa (aa (aa ?_)))
 refine de b.stack.length (fun i x H' O'=>Heap.le K7 H'∧OSl bc 5 x ((rows.take i).filter fun r=>!prR id r) O') ⟨Heap.le_refl _,OSl.nil _ _⟩ ?_
 rintro i x H' O' hi - ⟨hle,hx⟩
 refine aa ?_
 refine ab _ hsl (ab _ (aB _ _) (ai (fun hb=>?_) (fun hb=>?_)))
 ·have hlt:i < b.stack.length:=by simpa using hb
  have hlt2:i < rows.length:=by omega
  obtain⟨s,hrow,hst⟩:=hit i rows[i] b.stack[i] (List.getElem?_eq_getElem hlt2) (List.getElem?_eq_getElem hlt)
  obtain⟨a,h1,h2,h3,h4⟩:=(hs.le hle).idx (k:=.i64) (i:=i) (List.getElem?_eq_getElem hlt2)
  have hpr:prR id rows[i]=onR id b.stack[i]:=by
   rw[hrow]
   show ((some b.stack[i].trig == some (-1)) && (some b.stack[i].id == some id))=onR id b.stack[i]
   simp[onR]
  have hft:=fK (p:=fun r=>!prR id r) hlt2
  simp only[hpr] at hft
  rw[hrow] at h2 h3 h4
  refine aa ?_
  refine ab _ h1 (cG h2 h3 h4 (af fun r2=>?_))
  refine aa (aa (ab _ (aY _ _) (aa (ae (ae (ae (ab _ (aY _ _) (ae (ab _ (aR _ _) ?_)))))))))
  have hcond:(b.stack[i].trig != -1 || b.stack[i].id != id)=!onR id b.stack[i]:=by
   simp only[onR,bne,Bool.not_and]
  refine ai (fun hc=>?_) (fun hc=>?_)
  ·have hc:(b.stack[i].trig != -1 || b.stack[i].id != id)=true:=hc
   rw[hcond] at hc
   have hw1:((rows.take i).filter fun r=>!prR id r).length≤1000000:=Nat.le_trans (List.length_filter_le _ _) (by rw[List.length_take];omega)
   refine aa ?_
   refine af fun r3=>?_
   refine aC (rows:=(rows.take i).filter fun r=>!prR id r) (news:=[[iV b.stack[i].player,iV b.stack[i].id,iV b.stack[i].card,iV b.stack[i].trig,s]]) (O1:=O') (O2:=[]) (e:=bc) (size:=5) (bytes:=56) (by kernel_rfl) (by simp) hx
    (fun Hf _ hf=>Sl.block1 (hf _ List.mem_cons_self) rfl h4) (by simp;omega) (by simp;omega) ?_
   intro v' A' H6 l6 hA'
   refine ab _ (az (by omega)) (aS (by simp[Eqs]) hlt ⟨Heap.le_trans hle l6,?_⟩)
   rw[List.append_nil,hft,if_pos hc,hrow];exact hA'
  ·have hc:(b.stack[i].trig != -1 || b.stack[i].id != id)=false:=hc
   rw[hcond] at hc
   refine ab _ (az (by omega)) (aS (by simp[Eqs]) hlt ⟨hle,?_⟩)
   rw[hft,if_neg (by rw[hc];simp),List.append_nil];exact hx
 have hge:b.stack.length≤i:=by simpa using hb
 rw[List.take_of_length_le (by omega)] at hx
 clear hb
 have hbl:ak .len [w.b]=some (iV b.blocks.length):=by have:=hw.blocks.len;rwa [List.length_map] at this
 refine wS b.blocks.length (fun j y H2 O2=>Heap.le H' H2∧Sl H2 5 x (rows.filter fun r=>!prR id r)∧OSl bj 2 y (((b.blocks.take j).filter fun x=>!eO id x).map Bl.row) O2) (fun hc=>?_) ?_
 ·obtain⟨H2,g,k,l2⟩:=hx.freeze (X:=[]) (by simpa using hc)
  exact⟨H2,[],by simpa using g,l2,k,OSl.nil _ _⟩
 rintro j y H2 O2 hj - ⟨hle2,hxs,hy⟩
 refine aa ?_
 refine ab _ hbl (ab _ (aB _ _) (ai (fun hb=>?_) (fun hb=>?_)))
 ·have hlt:j < b.blocks.length:=by simpa using hb
  obtain⟨a,h1,h2,h3,h4⟩:=(hw.blocks.le (Heap.le_trans hle hle2)).idx (k:=.i64) (i:=j) (r:=Bl.row b.blocks[j]) (by simp[hlt])
  have hft:=fK (p:=fun x=>!eO id x) hlt
  refine aa ?_
  refine ab _ h1 (cG h2 h3 h4 (af fun r2=>?_))
  refine aa (aa (ab _ (aY _ _) (aa (ae (ae (ae (ab _ (aY _ _) (ae (ab _ (aT _ _) ?_)))))))))
  have hcond:(b.blocks[j].blocker != id && b.blocks[j].attacker != id)=!eO id b.blocks[j]:=by
   simp only[eO,bne,Bool.not_or]
  refine ai (fun hc=>?_) (fun hc=>?_)
  ·have hc:(b.blocks[j].blocker != id && b.blocks[j].attacker != id)=true:=hc
   rw[hcond] at hc
   have hw1:((b.blocks.take j).filter fun x=>!eO id x).length≤1000000:=Nat.le_trans (List.length_filter_le _ _) (by rw[List.length_take];omega)
   refine aa ?_
   refine af fun r3=>?_
   refine aC (rows:=((b.blocks.take j).filter fun x=>!eO id x).map Bl.row) (news:=[Bl.row b.blocks[j]]) (O1:=O2) (O2:=[]) (e:=bj) (size:=2) (bytes:=16) (by kernel_rfl) (by simp) hy
    (fun Hf _ hf=>Sl.block1 (hf _ List.mem_cons_self) rfl h4) (by simp;omega) (by simp;omega) ?_
   intro v' A' H6 l6 hA'
   refine ab _ (az (by omega)) (aS (by simp[Eqs]) hlt ⟨Heap.le_trans hle2 l6,hxs.le l6,?_⟩)
   rw[List.append_nil,hft,if_pos hc,List.map_append];exact hA'
  ·have hc:(b.blocks[j].blocker != id && b.blocks[j].attacker != id)=false:=hc
   rw[hcond] at hc
   refine ab _ (az (by omega)) (aS (by simp[Eqs]) hlt ⟨hle2,hxs,?_⟩)
   rw[hft,if_neg (by rw[hc];simp),List.append_nil];exact hy
 have hge2:b.blocks.length≤j:=by simpa using hb
 rw[List.take_of_length_le hge2] at hy
 have lz:=Heap.le_trans hle hle2
 refine aa ?_
 refine ar (ju (hw.att.le lz) b12 id) ?_
 rintro x8 K8 _ ⟨z8,rfl⟩ j8
 refine⟨[x8],rfl,⟨z8.one,trivial⟩,?_⟩
 have lz8:=Heap.le_trans lz j8
 repeat (first | refine aa ?_ | refine ae ?_)
 intro hc
 obtain⟨H9,g9,k9,l9⟩:=hy.freeze (X:=[]) (hc.perm (by simp))
 have lz9:=Heap.le_trans lz8 l9
 obtain⟨f1,f2⟩:=Qj (p:=fun r=>!prR id r) (q:=fun x=>!onR id x) (R:=fun r (x:It)=>∃ s,r=[iV x.player,iV x.id,iV x.card,iV x.trig,s]∧Sl H9 2 s (x.tgs.map Tg.row)) (fun r x ⟨s,e,_⟩=>by
  rw[e]
  show (!((some x.trig == some (-1)) && (some x.id == some id)))=!onR id x
  simp[onR]) rows b.stack hrl fun i r x a c=>by
   obtain⟨s,e,k⟩:=hit i r x a c
   exact⟨s,e,k.le lz9⟩
 refine⟨H9,[],(Ghost.perm (by simp)).trans g9,⟨⟨w.o,x0,x1,x2,x3,x4,x5,x6,x7,x,w.q,x8,y⟩,rfl,?_⟩,rfl⟩
 exact⟨hw.objs.le lz9,⟨z0.le lz9,z1.le lz9,z2.le lz9,z3.le lz9⟩,⟨z4.le lz9,z5.le lz9,z6.le lz9,z7.le lz9⟩,⟨_,hxs.le (Heap.le_trans j8 l9),f1,f2⟩,hw.queue.le lz9,z8.le l9,k9⟩
theorem VJ {H:Heap} {v:cn} {b:Bd} (h:BdS H v b) (hB:bdB b) (o:Ob) (ho:o.owner=0∨o.owner=1) (z:Int):Triple PP pu [.agg (al v b).toArray,.agg o.row.toArray,iV z] H [] fun r H' O'=>(∃ w,r=.agg (al w (ll b o.owner z o.id)).toArray∧BdS H' w (ll b o.owner z o.id))∧O'=[]:=by
 refine vq (vs:=al v b++(o.row++[iV z])) (by kernel_rfl) (ax (am (h.r [])) (ax (bE o) ⟨rfl,trivial⟩)) ?_
 simp only[o9]
 obtain⟨b1,⟨b2,b3,b4,b5⟩,⟨b6,b7,b8,b9⟩,_⟩:=hB
 refine af fun r0=>af fun r1=>af fun r2=>?_
 refine aa ?_
 have el:g (al v b++(o.row++[iV z])) 40=iV o.owner:=rfl
 rw[el]
 rcases ho with ho | ho
 ·rw[ho]
  refine⟨.i64,0,rfl,fun _=>?_,fun e=>absurd rfl e⟩
  refine ab _ (ay _ _) (ai (fun hb=>?_) (fun n0=>?_))
  ·have hz:z=0:=by simpa using hb
   subst hz
   refine aa (aa ?_)
   refine dV (e:=aK) (size:=1) (bytes:=8) (by kernel_rfl) h.s0.lib (by simp[aE];omega) (by simp[aE];omega) fun xa Oa H1 lA pa=>?_
   refine af fun r3=>?_
   refine aC (rows:=aE b.s0.lib) (news:=[[iV o.id]]) (O1:=Oa) (O2:=[]) (e:=aK) (size:=1) (bytes:=8) (by kernel_rfl) (by simp) pa (fun Hf _ hf=>Sl.block1 (hf _ List.mem_cons_self) rfl ⟨rfl,trivial⟩) (by simp[aE];omega) (by simp[aE];omega) ?_
   intro v' A' H6 l6 hA'
   have hA2:OSl aK 1 v' (aE (b.s0.lib++[o.id])) A':=by rw[aE,List.map_append];exact hA'
   refine aa (aa (aa (aa ?_)))
   intro hc
   obtain⟨H9,g9,kz,l9⟩:=hA2.freeze (X:=[]) (hc.perm (by simp))
   have lz:=Heap.le_trans lA (Heap.le_trans l6 l9)
   exact⟨H9,[],(Ghost.perm (by simp)).trans g9,⟨{ v with l0:=v' },rfl,⟨(h.le lz).objs,⟨kz,(h.le lz).s0.hand,(h.le lz).s0.field,(h.le lz).s0.grave⟩,(h.le lz).s1,(h.le lz).stack,(h.le lz).queue,(h.le lz).att,(h.le lz).blocks⟩⟩,rfl⟩
  refine ab _ (ay _ _) (ai (fun hb=>?_) (fun n1=>?_))
  ·have hz:z=1:=by simpa using hb
   subst hz
   refine aa (aa ?_)
   refine dV (e:=aK) (size:=1) (bytes:=8) (by kernel_rfl) h.s0.hand (by simp[aE];omega) (by simp[aE];omega) fun xa Oa H1 lA pa=>?_
   refine af fun r3=>?_
   refine aC (rows:=aE b.s0.hand) (news:=[[iV o.id]]) (O1:=Oa) (O2:=[]) (e:=aK) (size:=1) (bytes:=8) (by kernel_rfl) (by simp) pa (fun Hf _ hf=>Sl.block1 (hf _ List.mem_cons_self) rfl ⟨rfl,trivial⟩) (by simp[aE];omega) (by simp[aE];omega) ?_
   intro v' A' H6 l6 hA'
   have hA2:OSl aK 1 v' (aE (b.s0.hand++[o.id])) A':=by rw[aE,List.map_append];exact hA'
   refine aa (aa (aa (aa ?_)))
   intro hc
   obtain⟨H9,g9,kz,l9⟩:=hA2.freeze (X:=[]) (hc.perm (by simp))
   have lz:=Heap.le_trans lA (Heap.le_trans l6 l9)
   exact⟨H9,[],(Ghost.perm (by simp)).trans g9,⟨{ v with h0:=v' },rfl,⟨(h.le lz).objs,⟨(h.le lz).s0.lib,kz,(h.le lz).s0.field,(h.le lz).s0.grave⟩,(h.le lz).s1,(h.le lz).stack,(h.le lz).queue,(h.le lz).att,(h.le lz).blocks⟩⟩,rfl⟩
  refine ab _ (ay _ _) (ai (fun hb=>?_) (fun n2=>?_))
  ·have hz:z=2:=by simpa using hb
   subst hz
   refine aa (aa ?_)
   refine dV (e:=aK) (size:=1) (bytes:=8) (by kernel_rfl) h.s0.field (by simp[aE];omega) (by simp[aE];omega) fun xa Oa H1 lA pa=>?_
   refine af fun r3=>?_
   refine aC (rows:=aE b.s0.field) (news:=[[iV o.id]]) (O1:=Oa) (O2:=[]) (e:=aK) (size:=1) (bytes:=8) (by kernel_rfl) (by simp) pa (fun Hf _ hf=>Sl.block1 (hf _ List.mem_cons_self) rfl ⟨rfl,trivial⟩) (by simp[aE];omega) (by simp[aE];omega) ?_
   intro v' A' H6 l6 hA'
   have hA2:OSl aK 1 v' (aE (b.s0.field++[o.id])) A':=by rw[aE,List.map_append];exact hA'
   refine aa (aa (aa (aa ?_)))
   intro hc
   obtain⟨H9,g9,kz,l9⟩:=hA2.freeze (X:=[]) (hc.perm (by simp))
   have lz:=Heap.le_trans lA (Heap.le_trans l6 l9)
   exact⟨H9,[],(Ghost.perm (by simp)).trans g9,⟨{ v with f0:=v' },rfl,⟨(h.le lz).objs,⟨(h.le lz).s0.lib,(h.le lz).s0.hand,kz,(h.le lz).s0.grave⟩,(h.le lz).s1,(h.le lz).stack,(h.le lz).queue,(h.le lz).att,(h.le lz).blocks⟩⟩,rfl⟩
  refine ab _ (ay _ _) (ai (fun hb=>?_) (fun n3=>?_))
  ·have hz:z=3:=by simpa using hb
   subst hz
   refine aa (aa ?_)
   refine dV (e:=aK) (size:=1) (bytes:=8) (by kernel_rfl) h.s0.grave (by simp[aE];omega) (by simp[aE];omega) fun xa Oa H1 lA pa=>?_
   refine af fun r3=>?_
   refine aC (rows:=aE b.s0.grave) (news:=[[iV o.id]]) (O1:=Oa) (O2:=[]) (e:=aK) (size:=1) (bytes:=8) (by kernel_rfl) (by simp) pa (fun Hf _ hf=>Sl.block1 (hf _ List.mem_cons_self) rfl ⟨rfl,trivial⟩) (by simp[aE];omega) (by simp[aE];omega) ?_
   intro v' A' H6 l6 hA'
   have hA2:OSl aK 1 v' (aE (b.s0.grave++[o.id])) A':=by rw[aE,List.map_append];exact hA'
   refine aa (aa (aa (aa ?_)))
   intro hc
   obtain⟨H9,g9,kz,l9⟩:=hA2.freeze (X:=[]) (hc.perm (by simp))
   have lz:=Heap.le_trans lA (Heap.le_trans l6 l9)
   exact⟨H9,[],(Ghost.perm (by simp)).trans g9,⟨{ v with g0:=v' },rfl,⟨(h.le lz).objs,⟨(h.le lz).s0.lib,(h.le lz).s0.hand,(h.le lz).s0.field,kz⟩,(h.le lz).s1,(h.le lz).stack,(h.le lz).queue,(h.le lz).att,(h.le lz).blocks⟩⟩,rfl⟩
  refine aa (aa (aa ?_))
  have e:ll b 0 z o.id=b:=by
   have n0:¬ z=0:=by simpa using n0
   have n1:¬ z=1:=by simpa using n1
   have n2:¬ z=2:=by simpa using n2
   have n3:¬ z=3:=by simpa using n3
   simp only[ll,HY,n0,n1,n2,n3,if_false]
   rfl
  rw[e]
  exact ah ⟨⟨v,rfl,h⟩,rfl⟩
 ·rw[ho]
  refine⟨.i64,1,rfl,fun e=>absurd e (by omega),fun _=>⟨.i64,1,rfl,fun _=>?_,fun e=>absurd rfl e⟩⟩
  refine ab _ (ay _ _) (ai (fun hb=>?_) (fun n0=>?_))
  ·have hz:z=0:=by simpa using hb
   subst hz
   refine aa (aa ?_)
   refine dV (e:=aK) (size:=1) (bytes:=8) (by kernel_rfl) h.s1.lib (by simp[aE];omega) (by simp[aE];omega) fun xa Oa H1 lA pa=>?_
   refine af fun r3=>?_
   refine aC (rows:=aE b.s1.lib) (news:=[[iV o.id]]) (O1:=Oa) (O2:=[]) (e:=aK) (size:=1) (bytes:=8) (by kernel_rfl) (by simp) pa (fun Hf _ hf=>Sl.block1 (hf _ List.mem_cons_self) rfl ⟨rfl,trivial⟩) (by simp[aE];omega) (by simp[aE];omega) ?_
   intro v' A' H6 l6 hA'
   have hA2:OSl aK 1 v' (aE (b.s1.lib++[o.id])) A':=by rw[aE,List.map_append];exact hA'
   refine aa (aa (aa (aa ?_)))
   intro hc
   obtain⟨H9,g9,kz,l9⟩:=hA2.freeze (X:=[]) (hc.perm (by simp))
   have lz:=Heap.le_trans lA (Heap.le_trans l6 l9)
   exact⟨H9,[],(Ghost.perm (by simp)).trans g9,⟨{ v with l1:=v' },rfl,⟨(h.le lz).objs,(h.le lz).s0,⟨kz,(h.le lz).s1.hand,(h.le lz).s1.field,(h.le lz).s1.grave⟩,(h.le lz).stack,(h.le lz).queue,(h.le lz).att,(h.le lz).blocks⟩⟩,rfl⟩
  refine ab _ (ay _ _) (ai (fun hb=>?_) (fun n1=>?_))
  ·have hz:z=1:=by simpa using hb
   subst hz
   refine aa (aa ?_)
   refine dV (e:=aK) (size:=1) (bytes:=8) (by kernel_rfl) h.s1.hand (by simp[aE];omega) (by simp[aE];omega) fun xa Oa H1 lA pa=>?_
   refine af fun r3=>?_
   refine aC (rows:=aE b.s1.hand) (news:=[[iV o.id]]) (O1:=Oa) (O2:=[]) (e:=aK) (size:=1) (bytes:=8) (by kernel_rfl) (by simp) pa (fun Hf _ hf=>Sl.block1 (hf _ List.mem_cons_self) rfl ⟨rfl,trivial⟩) (by simp[aE];omega) (by simp[aE];omega) ?_
   intro v' A' H6 l6 hA'
   have hA2:OSl aK 1 v' (aE (b.s1.hand++[o.id])) A':=by rw[aE,List.map_append];exact hA'
   refine aa (aa (aa (aa ?_)))
   intro hc
   obtain⟨H9,g9,kz,l9⟩:=hA2.freeze (X:=[]) (hc.perm (by simp))
   have lz:=Heap.le_trans lA (Heap.le_trans l6 l9)
   exact⟨H9,[],(Ghost.perm (by simp)).trans g9,⟨{ v with h1:=v' },rfl,⟨(h.le lz).objs,(h.le lz).s0,⟨(h.le lz).s1.lib,kz,(h.le lz).s1.field,(h.le lz).s1.grave⟩,(h.le lz).stack,(h.le lz).queue,(h.le lz).att,(h.le lz).blocks⟩⟩,rfl⟩
  refine ab _ (ay _ _) (ai (fun hb=>?_) (fun n2=>?_))
  ·have hz:z=2:=by simpa using hb
   subst hz
   refine aa (aa ?_)
   refine dV (e:=aK) (size:=1) (bytes:=8) (by kernel_rfl) h.s1.field (by simp[aE];omega) (by simp[aE];omega) fun xa Oa H1 lA pa=>?_
   refine af fun r3=>?_
   refine aC (rows:=aE b.s1.field) (news:=[[iV o.id]]) (O1:=Oa) (O2:=[]) (e:=aK) (size:=1) (bytes:=8) (by kernel_rfl) (by simp) pa (fun Hf _ hf=>Sl.block1 (hf _ List.mem_cons_self) rfl ⟨rfl,trivial⟩) (by simp[aE];omega) (by simp[aE];omega) ?_
   intro v' A' H6 l6 hA'
   have hA2:OSl aK 1 v' (aE (b.s1.field++[o.id])) A':=by rw[aE,List.map_append];exact hA'
   refine aa (aa (aa (aa ?_)))
   intro hc
   obtain⟨H9,g9,kz,l9⟩:=hA2.freeze (X:=[]) (hc.perm (by simp))
   have lz:=Heap.le_trans lA (Heap.le_trans l6 l9)
   exact⟨H9,[],(Ghost.perm (by simp)).trans g9,⟨{ v with f1:=v' },rfl,⟨(h.le lz).objs,(h.le lz).s0,⟨(h.le lz).s1.lib,(h.le lz).s1.hand,kz,(h.le lz).s1.grave⟩,(h.le lz).stack,(h.le lz).queue,(h.le lz).att,(h.le lz).blocks⟩⟩,rfl⟩
  refine ab _ (ay _ _) (ai (fun hb=>?_) (fun n3=>?_))
  ·have hz:z=3:=by simpa using hb
   subst hz
   refine aa (aa ?_)
   refine dV (e:=aK) (size:=1) (bytes:=8) (by kernel_rfl) h.s1.grave (by simp[aE];omega) (by simp[aE];omega) fun xa Oa H1 lA pa=>?_
   refine af fun r3=>?_
   refine aC (rows:=aE b.s1.grave) (news:=[[iV o.id]]) (O1:=Oa) (O2:=[]) (e:=aK) (size:=1) (bytes:=8) (by kernel_rfl) (by simp) pa (fun Hf _ hf=>Sl.block1 (hf _ List.mem_cons_self) rfl ⟨rfl,trivial⟩) (by simp[aE];omega) (by simp[aE];omega) ?_
   intro v' A' H6 l6 hA'
   have hA2:OSl aK 1 v' (aE (b.s1.grave++[o.id])) A':=by rw[aE,List.map_append];exact hA'
   refine aa (aa (aa (aa ?_)))
   intro hc
   obtain⟨H9,g9,kz,l9⟩:=hA2.freeze (X:=[]) (hc.perm (by simp))
   have lz:=Heap.le_trans lA (Heap.le_trans l6 l9)
   exact⟨H9,[],(Ghost.perm (by simp)).trans g9,⟨{ v with g1:=v' },rfl,⟨(h.le lz).objs,(h.le lz).s0,⟨(h.le lz).s1.lib,(h.le lz).s1.hand,(h.le lz).s1.field,kz⟩,(h.le lz).stack,(h.le lz).queue,(h.le lz).att,(h.le lz).blocks⟩⟩,rfl⟩
  refine aa (aa (aa ?_))
  have e:ll b 1 z o.id=b:=by
   have n0:¬ z=0:=by simpa using n0
   have n1:¬ z=1:=by simpa using n1
   have n2:¬ z=2:=by simpa using n2
   have n3:¬ z=3:=by simpa using n3
   simp only[ll,HY,n0,n1,n2,n3,if_false]
   rfl
  rw[e]
  exact ah ⟨⟨v,rfl,h⟩,rfl⟩
theorem VO {b:Bd} (h:bdB b) (id:Int):bdB (Jp b id):=by
 have:=Tn h id
 exact⟨this.1,this.2.1,this.2.2.1,⟨Nat.le_trans (List.length_filter_le _ _) h.2.2.2.1.1,fun x hx=>h.2.2.2.1.2 x (List.mem_filter.1 hx).1⟩,this.2.2.2.2⟩
theorem Jx {b:Bd} (h:bdB b) (k:Nat) (o:Ob):bdB (bT b k o):=⟨by simpa [bT] using h.1,h.2⟩
def Is (b:Bd) (k:Nat) (o:Ob) (z:Int):Bd:=ll (bT (Jp b o.id) k o) o.owner z o.id
theorem OP {H:Heap} {v:cn} {b:Bd} (h:BdS H v b) (hB:bdB b) {k:Nat} {o:Ob} (hk:b.objs[k]?=some o) (hidx:eY b o.id=k) (ho:o.owner=0∨o.owner=1) (z:Int) :
  Triple PP fS [.agg (al v b).toArray,iV o.id,iV z] H [] fun r H' O'=>(∃ w,r=.agg (al w (Is b k (bu o z) z)).toArray∧BdS H' w (Is b k (bu o z) z))∧O'=[]:=by
 refine tu (vs:=al v b++[iV o.id,iV z]) (by kernel_rfl) (ax (am (h.r [])) ⟨rfl,rfl,trivial⟩) ?_
 simp only[og]
 refine af fun r0=>af fun r1=>?_
 refine aa (aa ?_)
 refine aj (wz (h.r []) o.id) rfl ⟨rfl,trivial⟩ fun H1 l1=>?_
 rw[hidx]
 replace h:=h.le l1
 obtain⟨a,h1,h2,_,h3,h4⟩:=(h.r []).objs.idx .i64 k (Ob.row o) (by rw[List.getElem?_map,hk];rfl)
 refine ab _ h1 (ap h2 h3 h4 ?_)
 refine aj (Uo o z H1 []) rfl (vs:=(bu o z).row) (bE _) fun H2 l2=>af fun r2=>?_
 replace h:=h.le l2
 refine aa (aa (aa (aa ?_)))
 refine ar (WL h hB o.id) ?_
 rintro _ H3 _ ⟨⟨w1,rfl,hw1⟩,rfl⟩ l3
 refine⟨al w1 (Jp b o.id),rfl,am (hw1.r []),?_⟩
 have hB1:=VO hB o.id
 refine ar (WI hw1 hB1 (bu o z)) ?_
 have hset:QW (Jp b o.id) (bu o z)=bT (Jp b o.id) k (bu o z):=by
  have:eY (Jp b o.id) (bu o z).id=k:=hidx
  simp only[QW,this,Int.toNat_natCast]
  rw[if_pos (by omega)]
 rw[hset]
 rintro _ H4 _ ⟨⟨w2,rfl,hw2⟩,rfl⟩ l4
 refine⟨al w2 (bT (Jp b o.id) k (bu o z)),rfl,am (hw2.r []),?_⟩
 refine ar (VJ hw2 (Jx hB1 _ _) (bu o z) ho z) ?_
 rintro _ H5 _ ⟨⟨w3,rfl,hw3⟩,rfl⟩ l5
 refine⟨al w3 _,rfl,am (hw3.r []),?_⟩
 refine aa (aa ?_)
 exact ah ⟨⟨w3,rfl,hw3⟩,rfl⟩
theorem Tv {b:Bd} (h:bdB b) {p:Int} (hp:p=0∨p=1) (hlen:(ao b p).lib.length + (ao b p).hand.length≤1000000) {l:List Int} {id:Int} (hl:(ao b p).lib=l++[id]):bdB (Ae b p id):=by
 obtain⟨b1,⟨b2,b3,b4,b5⟩,⟨b6,b7,b8,b9⟩,b10⟩:=h
 rw[hl] at hlen
 simp only[List.length_append,List.length_cons,List.length_nil] at hlen
 rcases hp with rfl | rfl
 ·have hl:b.s0.lib=l++[id]:=hl
  have hlen:l.length + (0 + 1) + b.s0.hand.length≤1000000:=hlen
  refine⟨b1,⟨?_,?_,b4,b5⟩,⟨b6,b7,b8,b9⟩,b10⟩
  ·show (b.s0.lib.dropLast).length≤1000000
   rw[List.length_dropLast];omega
  ·show (b.s0.hand++[id]).length≤1000000
   simp only[List.length_append,List.length_cons,List.length_nil];omega
 ·have hl:b.s1.lib=l++[id]:=hl
  have hlen:l.length + (0 + 1) + b.s1.hand.length≤1000000:=hlen
  refine⟨b1,⟨b2,b3,b4,b5⟩,⟨?_,?_,b8,b9⟩,b10⟩
  ·show (b.s1.lib.dropLast).length≤1000000
   rw[List.length_dropLast];omega
  ·show (b.s1.hand++[id]).length≤1000000
   simp only[List.length_append,List.length_cons,List.length_nil];omega
theorem KG {b:Bd} {p:Int} (hp:p=0∨p=1) {l:List Int} {id:Int} (hl:(ao b p).lib=l++[id]) (k:Nat) (o:Ob):(ao (bT (Ae b p id) k o) p).lib.length + (ao (bT (Ae b p id) k o) p).hand.length=(ao b p).lib.length + (ao b p).hand.length:=by
 rcases hp with rfl | rfl
 ·have hl:b.s0.lib=l++[id]:=hl
  show (b.s0.lib.dropLast).length + (b.s0.hand++[id]).length=b.s0.lib.length + b.s0.hand.length
  rw[hl,List.dropLast_concat]
  simp only[List.length_append,List.length_cons,List.length_nil];omega
 ·have hl:b.s1.lib=l++[id]:=hl
  show (b.s1.lib.dropLast).length + (b.s1.hand++[id]).length=b.s1.lib.length + b.s1.hand.length
  rw[hl,List.dropLast_concat]
  simp only[List.length_append,List.length_cons,List.length_nil];omega
theorem Tm {H:Heap} {v:cn} {b:Bd} (h:BdS H v b) (hB:bdB b) (hval:an b=true) (p:Int) (hp:p=0∨p=1) (hsum:(ao b p).lib.length + (ao b p).hand.length≤1000000) (n0:Nat) (hn:n0≤1000) :
  Triple PP oH [.agg (al v b).toArray,iV p,iV n0] H [] fun r H' O'=>(∃ w,r=.agg (al w (cq n0 b p)).toArray∧BdS H' w (cq n0 b p))∧O'=[]:=by
 refine tC (vs:=al v b++[iV p,iV n0]) (by kernel_rfl) (ax (am (h.r [])) ⟨rfl,rfl,trivial⟩) ?_
 simp only[om]
 refine af fun r0=>af fun r1=>?_
 refine aa ?_
 refine ar (Triple.frozen (EW h hB)) ?_
 rintro _ H1 _ ⟨⟨w,rfl,hw⟩,rfl⟩ l1
 refine⟨al w b,rfl,am (hw.r []),?_⟩
 refine aa ?_
 refine fG (fun vs H' O'=>∃ (i:Nat) (u:cn) (c:Bd),vs=iV i::al u c∧i≤n0∧O'=[]∧BdS H' u c∧bdB c∧an c=true∧(ao c p).lib.length + (ao c p).hand.length≤1000000∧cq n0 b p=cq (n0 - i) c p)
  (fun vs _ _=>match g vs 0 with | .int _ k=>n0 - k.toNat | _=>0) ⟨0,w,b,rfl,Nat.zero_le _,rfl,hw,hB,hval,hsum,rfl⟩ ?_
 rintro vs H' O' - - - ⟨i,u,c,rfl,hi,rfl,hc,hcB,hcv,hcs,hgo⟩
 refine ab _ (aB _ _) (ai (fun hb=>?_) (fun hb=>?_))
 ·have hlt:i < n0:=by have:=of_decide_eq_true hb;omega
  obtain⟨m',hm'⟩:∃ m',n0 - i=m' + 1:=⟨n0 - i - 1,by omega⟩
  rcases hp with rfl | rfl
  ·refine⟨.i64,0,rfl,fun _=>?_,fun e=>absurd rfl e⟩
   have hl1:ak .len [u.l0]=some (iV c.s0.lib.length):=by have:=hc.s0.lib.len;rwa [aE,List.length_map] at this
   refine aa ?_
   refine ab _ hl1 (ab _ (ay _ _) (ai (fun hb=>?_) (fun hb=>?_)))
   ·have h0:c.s0.lib=[]:=by
     have:c.s0.lib.length=0:=by simpa using hb
     exact List.eq_nil_of_length_eq_zero this
    have e:cq n0 b 0=aV c 0 { ao c 0 with empty:=true }:=by
     rw[hgo,hm',cq]
     have:(ao c 0).lib.getLast?=none:=by
      show c.s0.lib.getLast?=none
      rw[h0];rfl
     rw[this]
    rw[e]
    refine⟨.i64,0,rfl,fun _=>?_,fun e=>absurd rfl e⟩
    refine aa (aa (aa (aa ?_)))
    exact ah ⟨⟨u,rfl,⟨hc.objs,⟨hc.s0.lib,hc.s0.hand,hc.s0.field,hc.s0.grave⟩,hc.s1,hc.stack,hc.queue,hc.att,hc.blocks⟩⟩,rfl⟩
   ·obtain⟨l,id,hl⟩:∃ l id,c.s0.lib=l++[id]:=by
     have hne:c.s0.lib ≠ []:=by intro e;rw[e] at hb;simp at hb
     exact⟨c.s0.lib.dropLast,c.s0.lib.getLast hne,(List.dropLast_concat_getLast hne).symm⟩
    obtain⟨k,ob,e1,e2,e3,e4,hmv,_,_,hid,hd,hdv⟩:=um hcv (p:=0) (.inl rfl) (l:=l) (id:=id) hl
    have hll:c.s0.lib.length=l.length + 1:=by rw[hl];simp
    have hls:l.length + 1 < 2 ^ 63:=by
     have:=hc.s0.lib.lenB
     rw[aE,List.length_map,hll] at this;exact this
    refine aa ?_
    refine ab _ hl1 ?_
    rw[hll]
    refine ab _ (s7 hls) ?_
    obtain⟨a,i1,i2,i3,i4⟩:=hc.s0.lib.idx (k:=.i64) (i:=l.length) (r:=[iV id]) (by rw[hl];simp[aE])
    refine ab _ i1 (cG i2 i3 i4 ?_)
    have hmove:Is c k (bu ob 1) 1=bT (Ae c 0 id) k (bu ob 1):=by
     rw[← Lx hcv (.inl rfl) hl e1 e2 e3]
     show ll (bT (Jp c ob.id) k _) ob.owner 1 ob.id=ll (bT (na c ob.id) k _) ob.owner 1 ob.id
     rw[CY hcv]
    have hmv2:=OP hc hcB e1 (by rw[e2];exact e4) (by rw[e3];exact (.inl rfl)) 1
    rw[hmove,e2] at hmv2
    refine ar hmv2 ?_
    rintro _ H2 _ ⟨⟨u2,rfl,hu2⟩,rfl⟩ l2
    refine⟨al u2 _,rfl,am (hu2.r []),?_⟩
    refine aa ?_
    refine ab _ (az (by omega)) ?_
    refine bU (by simp[Eqs]) ⟨i + 1,u2,_,rfl,by omega,rfl,hu2,Jx (Tv hcB (.inl rfl) hcs hl) _ _,by rw[hd] at hdv;exact hdv,by rw[KG (.inl rfl) hl];exact hcs,?_⟩ ?_
    ·rw[hgo,hm',cq]
     have egl:(ao c 0).lib.getLast?=some id:=by
      show c.s0.lib.getLast?=some id
      rw[hl];simp
     rw[egl]
     show cq m' (iz c 0 id) 0=_
     rw[hd,show n0 - (i + 1)=m' by omega]
    ·show n0 - (((i + 1:Nat):Int)).toNat < n0 - ((i:Int)).toNat
     omega
  ·refine⟨.i64,1,rfl,fun e=>absurd e (by omega),fun _=>⟨.i64,1,rfl,fun _=>?_,fun e=>absurd rfl e⟩⟩
   have hl1:ak .len [u.l1]=some (iV c.s1.lib.length):=by have:=hc.s1.lib.len;rwa [aE,List.length_map] at this
   refine aa ?_
   refine ab _ hl1 (ab _ (ay _ _) (ai (fun hb=>?_) (fun hb=>?_)))
   ·have h0:c.s1.lib=[]:=by
     have:c.s1.lib.length=0:=by simpa using hb
     exact List.eq_nil_of_length_eq_zero this
    have e:cq n0 b 1=aV c 1 { ao c 1 with empty:=true }:=by
     rw[hgo,hm',cq]
     have:(ao c 1).lib.getLast?=none:=by
      show c.s1.lib.getLast?=none
      rw[h0];rfl
     rw[this]
    rw[e]
    refine⟨.i64,1,rfl,fun e=>absurd e (by omega),fun _=>⟨.i64,1,rfl,fun _=>?_,fun e=>absurd rfl e⟩⟩
    refine aa (aa (aa (aa ?_)))
    exact ah ⟨⟨u,rfl,⟨hc.objs,hc.s0,⟨hc.s1.lib,hc.s1.hand,hc.s1.field,hc.s1.grave⟩,hc.stack,hc.queue,hc.att,hc.blocks⟩⟩,rfl⟩
   ·obtain⟨l,id,hl⟩:∃ l id,c.s1.lib=l++[id]:=by
     have hne:c.s1.lib ≠ []:=by intro e;rw[e] at hb;simp at hb
     exact⟨c.s1.lib.dropLast,c.s1.lib.getLast hne,(List.dropLast_concat_getLast hne).symm⟩
    obtain⟨k,ob,e1,e2,e3,e4,hmv,_,_,hid,hd,hdv⟩:=um hcv (p:=1) (.inr rfl) (l:=l) (id:=id) hl
    have hll:c.s1.lib.length=l.length + 1:=by rw[hl];simp
    have hls:l.length + 1 < 2 ^ 63:=by
     have:=hc.s1.lib.lenB
     rw[aE,List.length_map,hll] at this;exact this
    refine aa ?_
    refine ab _ hl1 ?_
    rw[hll]
    refine ab _ (s7 hls) ?_
    obtain⟨a,i1,i2,i3,i4⟩:=hc.s1.lib.idx (k:=.i64) (i:=l.length) (r:=[iV id]) (by rw[hl];simp[aE])
    refine ab _ i1 (cG i2 i3 i4 ?_)
    have hmove:Is c k (bu ob 1) 1=bT (Ae c 1 id) k (bu ob 1):=by
     rw[← Lx hcv (.inr rfl) hl e1 e2 e3]
     show ll (bT (Jp c ob.id) k _) ob.owner 1 ob.id=ll (bT (na c ob.id) k _) ob.owner 1 ob.id
     rw[CY hcv]
    have hmv2:=OP hc hcB e1 (by rw[e2];exact e4) (by rw[e3];exact (.inr rfl)) 1
    rw[hmove,e2] at hmv2
    refine ar hmv2 ?_
    rintro _ H2 _ ⟨⟨u2,rfl,hu2⟩,rfl⟩ l2
    refine⟨al u2 _,rfl,am (hu2.r []),?_⟩
    refine aa ?_
    refine ab _ (az (by omega)) ?_
    refine bU (by simp[Eqs]) ⟨i + 1,u2,_,rfl,by omega,rfl,hu2,Jx (Tv hcB (.inr rfl) hcs hl) _ _,by rw[hd] at hdv;exact hdv,by rw[KG (.inr rfl) hl];exact hcs,?_⟩ ?_
    ·rw[hgo,hm',cq]
     have egl:(ao c 1).lib.getLast?=some id:=by
      show c.s1.lib.getLast?=some id
      rw[hl];simp
     rw[egl]
     show cq m' (iz c 1 id) 1=_
     rw[hd,show n0 - (i + 1)=m' by omega]
    ·show n0 - (((i + 1:Nat):Int)).toNat < n0 - ((i:Int)).toNat
     omega
 ·have hge:n0 - i=0:=by have:=of_decide_eq_false hb;omega
  rw[hgo,hge]
  refine aa (aa (aa ?_))
  exact ah ⟨⟨u,rfl,hc⟩,rfl⟩
theorem LD {H:Heap} {O:Own} {v:Value} {ks:List Int} (h:KindS H v ks) (c:Int) :
  (∃ x:Bool,(x=true ↔ (c < 0∨c ≥ (ks.length:Int)))∧ak .len [v]=some (iV ks.length)∧x=(decide (c < 0) || decide (c ≥ (ks.length:Int)))) ∧
  (¬ (c < 0∨c ≥ (ks.length:Int))→∃ a r,ak (.idx 14) [v,iV c]=some (.pointer (some a))∧H.read (.pointer (some a)) 14=some r∧r.length=14∧Ones r∧g r 1=iV (Fo ks c)):=by
 obtain⟨rows,h1,h2,h3⟩:=h
 refine⟨⟨_,?_,?_,rfl⟩,fun hn=>?_⟩
 ·simp
 ·have:=h1.len;rw[this,h2]
 ·have hlt:c.toNat < rows.length:=by omega
  obtain⟨a,k1,k2,k3,k4⟩:=h1.idx (k:=.i64) (i:=c.toNat) (List.getElem?_eq_getElem hlt)
  have hk:ks[c.toNat]?=some (ks.getD c.toNat 0):=by
   rw[List.getD_eq_getElem?_getD,List.getElem?_eq_getElem (by omega)];rfl
  have e:=h3 c.toNat _ _ (List.getElem?_eq_getElem hlt) hk
  refine⟨a,_,?_,k2,k3,k4,?_⟩
  ·rw[show iV c=iV (c.toNat:Int) by rw[Int.toNat_of_nonneg (by omega)]];exact k1
  ·rw[e,Fo,if_neg hn]
theorem Bm {r:List Value} (h:r.length=14):([g r 0,g r 1,g r 2,g r 3,g r 4,g r 5,g r 6,g r 7,g r 8,g r 9,g r 10,g r 11,g r 12,g r 13]:List Value)=r:=KL h
abbrev Ho:List Value:=[.string ⟨#[]⟩,iV 0,iV 0,iV 0,iV 0,iV 0,iV 0,iV 0,iV 0,iV 0,iV 0,.slice none 0 0,.slice none 0 0,iV 0]
def Wm (ks:List Int) (c:Int) (r:Value) (_:Heap):Prop:=∃ cells:List Value,r=.agg cells.toArray∧cells.length=14∧Ones cells∧g cells 1=iV (Fo ks c)
theorem V3 {H:Heap} {O:Own} {v:Value} {ks:List Int} (h:KindS H v ks) (o:Ob):Triple PP np [v,.agg o.row.toArray] H O fun r H' O'=>Wm ks o.card r H'∧O'=O:=by
 refine nI (vs:=v::o.row) (by kernel_rfl) ⟨h.one,bE o⟩ ?_
 simp only[nm]
 obtain⟨⟨x,hx,hlen,ex⟩,hlook⟩:=LD (O:=O) h o.card
 refine af fun r0=>af fun r1=>?_
 refine aa ?_
 refine ab _ (aB _ _) ?_
 refine aa (ae (ae ?_))
 refine ab _ hlen ?_
 refine ae (ae (ab _ (eR _ _) (ae (ab _ (aR _ _) ?_))))
 refine ai (fun hb=>?_) (fun hb=>?_)
 ·have hb:(decide (o.card < 0) || decide (o.card ≥ (ks.length:Int)))=true:=hb
  rw[← ex] at hb
  refine aa (aa ?_)
  refine ah ⟨⟨Ho,rfl,rfl,⟨rfl,rfl,rfl,rfl,rfl,rfl,rfl,rfl,rfl,rfl,rfl,rfl,rfl,rfl,trivial⟩,?_⟩,rfl⟩
  rw[Fo,if_pos (hx.1 hb)];rfl
 ·have hb:(decide (o.card < 0) || decide (o.card ≥ (ks.length:Int)))=false:=hb
  rw[← ex] at hb
  obtain⟨a,r,k1,k2,k3,k4,k5⟩:=hlook (fun e=>by rw[hx.2 e] at hb;cases hb)
  refine aa ?_
  refine ab _ k1 (ap (fD k2) k3 k4 ?_)
  refine aa (aa ?_)
  exact ah ⟨⟨r,by rw[← Bm k3];rfl,k3,k4,k5⟩,rfl⟩
theorem VL {H:Heap} {O:Own} {v:Value} {ks:List Int} (h:KindS H v ks) (o:Ob):Triple PP fU [v,.agg o.row.toArray] H O fun r H' O'=>Wm ks o.card r H'∧O'=O:=by
 refine gR (vs:=v::o.row) (by kernel_rfl) ⟨h.one,bE o⟩ ?_
 simp only[fP]
 obtain⟨⟨x,hx,hlen,ex⟩,hlook⟩:=LD (O:=O) h o.card
 refine af fun r0=>af fun r1=>?_
 refine aa ?_
 refine ab _ (aB _ _) ?_
 refine aa (ae (ae ?_))
 refine ab _ hlen ?_
 refine ae (ae (ab _ (eR _ _) (ae (ab _ (aR _ _) ?_))))
 refine ai (fun hb=>?_) (fun hb=>?_)
 ·have hb:(decide (o.card < 0) || decide (o.card ≥ (ks.length:Int)))=true:=hb
  rw[← ex] at hb
  refine aa (aa ?_)
  refine ah ⟨⟨Ho,rfl,rfl,⟨rfl,rfl,rfl,rfl,rfl,rfl,rfl,rfl,rfl,rfl,rfl,rfl,rfl,rfl,trivial⟩,?_⟩,rfl⟩
  rw[Fo,if_pos (hx.1 hb)];rfl
 ·have hb:(decide (o.card < 0) || decide (o.card ≥ (ks.length:Int)))=false:=hb
  rw[← ex] at hb
  obtain⟨a,r,k1,k2,k3,k4,k5⟩:=hlook (fun e=>by rw[hx.2 e] at hb;cases hb)
  refine aa ?_
  refine ab _ k1 (ap (fD k2) k3 k4 ?_)
  refine aa (aa ?_)
  exact ah ⟨⟨r,by rw[← Bm k3];rfl,k3,k4,k5⟩,rfl⟩
theorem FT {H:Heap} {O:Own} {v:Value} {ks:List Int} (h:KindS H v ks) (o:Ob):RetO PP qM [v,.agg o.row.toArray] H O (.bool (eL ks o)):=by
 refine wt (vs:=v::o.row) (by kernel_rfl) ⟨h.one,bE o⟩ ?_
 simp only[qH]
 refine af fun r0=>?_
 refine aa ?_
 refine ab _ (ay _ _) (ai (fun hb=>ah ⟨?_,rfl⟩) (fun hb=>?_))
 ·have hb:(o.card == -1)=true:=hb
  rw[eL,hb];rfl
 ·have hb:(o.card == -1)=false:=hb
  refine aa ?_
  refine wU (V3 h o) ?_
  rintro _ H1 ⟨cells,rfl,k1,k2,k3⟩ l1
  refine⟨cells,by simp[Shp.open,k1],k2,?_⟩
  dsimp only
  rw[k3]
  refine ab _ (ay _ _) ?_
  refine ah ⟨?_,rfl⟩
  rw[eL,hb];rfl
theorem zp {H:Heap} {O:Own} {v:Value} {ks:List Int} (h:KindS H v ks) (o:Ob):RetO PP jY [v,.agg o.row.toArray] H O (.bool (eL ks o)):=by
 refine pF (vs:=v::o.row) (by kernel_rfl) ⟨h.one,bE o⟩ ?_
 simp only[jO]
 refine af fun r0=>?_
 refine aa ?_
 refine ab _ (ay _ _) (ai (fun hb=>ah ⟨?_,rfl⟩) (fun hb=>?_))
 ·have hb:(o.card == -1)=true:=hb
  rw[eL,hb];rfl
 ·have hb:(o.card == -1)=false:=hb
  refine aa ?_
  refine wU (VL h o) ?_
  rintro _ H1 ⟨cells,rfl,k1,k2,k3⟩ l1
  refine⟨cells,by simp[Shp.open,k1],k2,?_⟩
  dsimp only
  rw[k3]
  refine ab _ (ay _ _) ?_
  refine ah ⟨?_,rfl⟩
  rw[eL,hb];rfl
def zw (ks:List Int) (b:Bd) (p:Int) (o:Ob):Bool:=o.owner == p && (eL ks o && (ao b p).field.contains o.id)
def jl (ks:List Int) (b:Bd) (p:Int):List Int:=if (au p 0 1 && an b)=true then (b.objs.filter (zw ks b p)).map (·.id) else []
theorem Jc {H:Heap} {cv:Value} {ks:List Int} (hk:KindS H cv ks) {v:cn} {b:Bd} (h:BdS H v b) (p:Int) :
  Triple PP kY [cv,.agg (al v b).toArray,iV p] H [] fun r _ O'=>OSl aK 1 r (aE (jl ks b p)) O':=by
 refine ww (vs:=cv::(al v b++[iV p])) (by kernel_rfl) ⟨hk.one,ax (am (h.r [])) ⟨rfl,trivial⟩⟩ ?_
 simp only[qK]
 refine af fun r0=>?_
 refine aj (dp p 0 1 H []) rfl ⟨rfl,trivial⟩ fun H1 l1=>ab _ (aJ _) (ai (fun hb=>?_) (fun hb=>?_))
 ·have e:jl ks b p=[]:=by rw[jl,if_neg];rw[show au p 0 1=false from u6 hb];simp
  rw[e]
  exact ah (OSl.nil _ _)
 have hw:au p 0 1=true:=sR hb
 replace h:=h.le l1
 replace hk:=hk.le l1
 refine aa ?_
 refine aj (dq (h.r [])) rfl ⟨rfl,trivial⟩ fun H2 l2=>ab _ (aJ _) (ai (fun hb=>?_) (fun hb=>?_))
 ·have e:jl ks b p=[]:=by rw[jl,if_neg];rw[show an b=false from u6 hb];simp
  rw[e]
  exact ah (OSl.nil _ _)
 have hv:an b=true:=sR hb
 have hobl:=xf hv
 have e:jl ks b p=(b.objs.filter (zw ks b p)).map (·.id):=by rw[jl,if_pos (by rw[hw,hv];rfl)]
 rw[e]
 clear hb e
 replace h:=h.le l2
 replace hk:=hk.le l2
 have lo:=h.objs.len
 rw[List.length_map] at lo
 have hp:p=0∨p=1:=by simp only[au,decide_eq_true_eq] at hw;omega
 refine aa ?_
 refine ab _ lo ?_
 refine de b.objs.length (fun i x H' O'=>Heap.le H2 H'∧OSl aK 1 x (aE (((b.objs.take i).filter (zw ks b p)).map (·.id))) O') ⟨Heap.le_refl _,OSl.nil _ _⟩ ?_
 rintro i x H' O' hi - ⟨hle,hx⟩
 refine ab _ (aB _ _) (ai (fun hb=>?_) (fun hb=>?_))
 ·have hlt:i < b.objs.length:=by simpa using hb
  obtain⟨a,i1,i2,i3,i4⟩:=(h.objs.le hle).idx (k:=.i64) (i:=i) (r:=Ob.row b.objs[i]) (by simp[hlt])
  have hft:=fK (p:=zw ks b p) hlt
  have hnot:zw ks b p b.objs[i]=false→∀ H3,Heap.le H' H3→(Heap.le H2 H3∧OSl aK 1 x (aE (((b.objs.take (i + 1)).filter (zw ks b p)).map (·.id))) O'):=fun hn H3 l3=>by
   rw[hft,if_neg (by rw[hn];simp),List.append_nil];exact⟨Heap.le_trans hle l3,hx⟩
  refine ab _ i1 (cG i2 i3 i4 (af fun r1=>?_))
  refine aa (aa ?_)
  refine ab _ (ay _ _) ?_
  refine ai (fun h1=>?_) (fun h1=>?_)
  ·have h1:(b.objs[i].owner == p)=true:=h1
   refine aa ?_
   refine aj (FT (hk.le hle) b.objs[i]) rfl ⟨rfl,trivial⟩ fun H3 l3=>ai (fun h2=>?_) (fun h2=>?_)
   ·have lz:=Heap.le_trans hle l3
    rcases hp with rfl | rfl
    ·refine⟨.i64,0,rfl,fun _=>?_,fun e=>absurd rfl e⟩
     refine aa (aa ?_)
     refine aj (fh (((h.s0.field).le lz).rsl O') b.objs[i].id) rfl ⟨rfl,trivial⟩ fun H4 l4=>ai (fun h3=>?_) (fun h3=>?_)
     ·have hcr:zw ks b 0 b.objs[i]=true:=by rw[zw,h1,h2];exact h3
      have hlen:((b.objs.take i).filter (zw ks b 0)).length≤1000000:=Nat.le_trans (List.length_filter_le _ _) (by rw[List.length_take];omega)
      refine aa ?_
      refine af fun r2=>?_
      refine aC (rows:=aE (((b.objs.take i).filter (zw ks b 0)).map fun o:Ob=>o.id)) (news:=[[iV b.objs[i].id]]) (O1:=O') (O2:=[]) (e:=aK) (size:=1) (bytes:=8) (by kernel_rfl) (by simp) hx (fun Hf _ hf=>Sl.block1 (hf _ List.mem_cons_self) rfl ⟨rfl,trivial⟩) (by simp[aE];omega) (by simp[aE];omega) ?_
      intro v' A' H6 l6 hA'
      refine ab _ (az (by omega)) (aS (by simp[Eqs]) hlt ⟨Heap.le_trans lz (Heap.le_trans l4 l6),?_⟩)
      rw[List.append_nil,hft,if_pos hcr,List.map_append,aE,List.map_append];exact hA'
     ·have hcr:zw ks b 0 b.objs[i]=false:=by rw[zw,h1,h2];exact h3
      exact ab _ (az (by omega)) (aS (by simp[Eqs]) hlt (hnot hcr _ (Heap.le_trans l3 l4)))
    ·refine⟨.i64,1,rfl,fun e=>absurd e (by omega),fun _=>⟨.i64,1,rfl,fun _=>?_,fun e=>absurd rfl e⟩⟩
     refine aa (aa ?_)
     refine aj (fh (((h.s1.field).le lz).rsl O') b.objs[i].id) rfl ⟨rfl,trivial⟩ fun H4 l4=>ai (fun h3=>?_) (fun h3=>?_)
     ·have hcr:zw ks b 1 b.objs[i]=true:=by rw[zw,h1,h2];exact h3
      have hlen:((b.objs.take i).filter (zw ks b 1)).length≤1000000:=Nat.le_trans (List.length_filter_le _ _) (by rw[List.length_take];omega)
      refine aa ?_
      refine af fun r2=>?_
      refine aC (rows:=aE (((b.objs.take i).filter (zw ks b 1)).map fun o:Ob=>o.id)) (news:=[[iV b.objs[i].id]]) (O1:=O') (O2:=[]) (e:=aK) (size:=1) (bytes:=8) (by kernel_rfl) (by simp) hx (fun Hf _ hf=>Sl.block1 (hf _ List.mem_cons_self) rfl ⟨rfl,trivial⟩) (by simp[aE];omega) (by simp[aE];omega) ?_
      intro v' A' H6 l6 hA'
      refine ab _ (az (by omega)) (aS (by simp[Eqs]) hlt ⟨Heap.le_trans lz (Heap.le_trans l4 l6),?_⟩)
      rw[List.append_nil,hft,if_pos hcr,List.map_append,aE,List.map_append];exact hA'
     ·have hcr:zw ks b 1 b.objs[i]=false:=by rw[zw,h1,h2];exact h3
      exact ab _ (az (by omega)) (aS (by simp[Eqs]) hlt (hnot hcr _ (Heap.le_trans l3 l4)))
   ·have hcr:zw ks b p b.objs[i]=false:=by rw[zw,h1,h2];rfl
    exact ab _ (az (by omega)) (aS (by simp[Eqs]) hlt (hnot hcr _ l3))
  ·have h1:(b.objs[i].owner == p)=false:=h1
   have hcr:zw ks b p b.objs[i]=false:=by rw[zw,h1];rfl
   exact ab _ (az (by omega)) (aS (by simp[Eqs]) hlt (hnot hcr _ (Heap.le_refl _)))
 ·have hge:b.objs.length≤i:=by simpa using hb
  rw[List.take_of_length_le hge] at hx
  exact ah hx
theorem Kp {H:Heap} {cv:Value} {ks:List Int} (hk:KindS H cv ks) {v:cn} {b:Bd} (h:BdS H v b) (p:Int) :
  Triple PP kY [cv,.agg (al v b).toArray,iV p] H [] fun r H' O'=>Sl H' 1 r (aE (jl ks b p))∧O'=[]:=Triple.frozenS (Jc hk h p)
theorem Aw {P:Program} {lab n i:Nat} {R:Nat→Value→Heap→Own→Prop} {x:Value} {eqs:List (List Value × List Value)} {H:Heap} {O:Own} {Q:Value→Heap→Own→Prop} (he:Eqs eqs) (hi:i < n) (hr:Cons H O→∃ H3 O3,Ghost H O H3 O3∧R (i + 1) x H3 O3) :
  (Tree.cont lab (L8 (IY n R) (MY n) (n - i)) [x,iV ((i + 1:Nat):Int)] eqs).den P Q H O:=by
 refine⟨he,fun hc=>?_⟩
 obtain⟨H3,O3,g,r⟩:=hr hc
 refine⟨H3,O3,g,⟨i + 1,x,rfl,hi,r⟩,?_⟩
 show n - ((i + 1:Nat):Int).toNat < n - i
 simp;omega
theorem HE {l:List Int} {i:Nat} (h:i < l.length):pC (l.take (i + 1))=JV l[i] (pC (l.take i)):=by
 rw[List.take_add_one,List.getElem?_eq_getElem h,pC,Option.toList_some,List.foldl_append];rfl
theorem Gu {H:Heap} {v:Value} {l:List Int} (h:Sl H 1 v (aE l)) (hl:l.length≤4000000):Triple PP lK [v] H [] fun r H' O'=>Sl H' 1 r (aE (pC l))∧O'=[]:=by
 refine re (vs:=[v]) (by kernel_rfl) ⟨h.one,trivial⟩ ?_
 simp only[lB]
 have hlen:ak .len [v]=some (iV l.length):=by have:=h.len;rwa [aE,List.length_map] at this
 refine de l.length (fun i x H' O'=>O'=[]∧Heap.le H H'∧Sl H' 1 x (aE (pC (l.take i)))) ⟨rfl,Heap.le_refl _,Sl.nil H 1⟩ ?_
 rintro i x H' O' hi - ⟨rfl,hle,hx⟩
 refine ab _ hlen (ab _ (aB _ _) (ai (fun hb=>?_) (fun hb=>?_)))
 ·have hlt:i < l.length:=by simpa using hb
  generalize hout:pC (l.take i)=out at hx
  have hol:out.length≤4000000:=by rw[← hout,xn,List.length_take];omega
  have xlen:ak .len [x]=some (iV out.length):=by have:=hx.len;rwa [aE,List.length_map] at this
  obtain⟨a,h1,h2,h3,h4⟩:=(h.le hle).idx (k:=.i64) (i:=i) (r:=[iV l[i]]) (by simp[aE,hlt])
  refine aQ out.length (fun k H2 O2=>O2=[]∧Heap.le H' H2∧∀ (j:Nat) (y:Int),j < k→out[j]?=some y→decide (y < l[i])=true) ⟨rfl,Heap.le_refl _,fun j y hj=>absurd hj (Nat.not_lt_zero j)⟩ ?_
  rintro k H2 O2 hk - ⟨rfl,hle2,hall⟩
  refine ab _ xlen (ab _ (aB _ _) ?_)
  refine ae (ae ?_)
  have hfin:(∀ y,out[k]?=some y→decide (y < l[i])=false)→JV l[i] out=out.take k++(l[i]::out.drop k):=fun hno=>by
   obtain⟨w1,w2⟩:=Ky hk hall hno
   rw[JV,w1,w2]
  rcases Nat.lt_or_ge k out.length with hkl | hkl
  ·obtain⟨a2,k1,k2,k3,k4⟩:=(hx.le hle2).idx (k:=.i64) (i:=k) (r:=[iV out[k]]) (by simp[aE,hkl])
   refine⟨.pointer (some a2),fun _=>k1,.inr rfl,?_⟩
   refine ae ?_
   refine⟨[iV out[k]],rfl,⟨rfl,trivial⟩,fun _=>.inl k2,?_⟩
   refine ae (ae ?_)
   refine⟨.pointer (some a),fun _=>h1,.inr rfl,?_⟩
   refine ae ?_
   refine⟨[iV l[i]],rfl,⟨rfl,trivial⟩,fun _=>.inl (hle2.read h2),?_⟩
   refine ae (ae ?_)
   refine ab _ (aB _ _) ?_
   refine ae ?_
   refine ab _ (aT _ _) ?_
   have hkd:decide ((k:Int) < (out.length:Int))=true:=by simp[hkl]
   rw[hkd,Bool.true_and]
   refine ai (fun hc=>?_) (fun hc=>?_)
   ·refine ab _ (az (by omega)) (aI (by simp[Eqs]) hkl ⟨rfl,hle2,fun j y hj e=>?_⟩)
    rcases Nat.lt_or_ge j k with hjk | hjk
    ·exact hall j y hjk e
    ·have:j=k:=by omega
     subst this
     rw[List.getElem?_eq_getElem hkl] at e
     obtain rfl:=Option.some.inj e
     exact hc
   ·have hins:=hfin fun y e=>by
     rw[List.getElem?_eq_getElem hkl] at e
     obtain rfl:=Option.some.inj e
     exact hc
    refine ab _ h1 (cG (hle2.read h2) h3 h4 ?_)
    obtain⟨u1,e1,s1⟩:=(hx.le hle2).from (i:=k) (by simp[aE];omega)
    obtain⟨u2,e2,s2⟩:=(hx.le hle2).upto (i:=k) (by simp[aE];omega)
    refine ab _ e1 (af fun r0=>?_)
    refine jH (ad:=⟨r0,0,none⟩) (rows:=[[iV l[i]]]) (news:=(aE out).drop k) (size:=1) (e:=aK) (by kernel_rfl) (fun Hf _ hf=>Sl.block1 (hf _ List.mem_cons_self) rfl ⟨rfl,trivial⟩) s1 (by rw[show jI PP aK=8 by kernel_rfl];simp[aE];omega) (by simp[aE];omega) fun v1 H3 l3 hv1=>?_
    refine ab _ e2 ?_
    refine dV (e:=aK) (size:=1) (bytes:=8) (by kernel_rfl) (s2.le l3) (by simp[aE];omega) (by simp[aE];omega) fun xa Oa H4 lA pa=>?_
    refine aC (rows:=(aE out).take k) (news:=[[iV l[i]]]++(aE out).drop k) (O1:=Oa) (O2:=[]) (e:=aK) (size:=1) (bytes:=8) (by kernel_rfl) (by simp) pa (fun Hf lf _=>(hv1.le lA).le lf) (by simp[aE];omega) (by simp[aE];omega) ?_
    intro v' A' H6 l6 hA'
    refine ab _ (az (by omega)) (Aw (by simp[Eqs]) hlt fun hc=>?_)
    obtain⟨H9,g9,kz,l9⟩:=hA'.freeze (X:=[]) (hc.perm (by simp))
    refine⟨H9,[],(Ghost.perm (by simp)).trans g9,rfl,Heap.le_trans hle (Heap.le_trans hle2 (Heap.le_trans l3 (Heap.le_trans lA (Heap.le_trans l6 l9)))),?_⟩
    have hrows:aE (pC (l.take (i + 1)))=(aE out).take k++([[iV l[i]]]++(aE out).drop k):=by
     rw[HE hlt,hout,hins,aE,aE,List.map_append,List.map_cons,List.map_take,List.map_drop];rfl
    rw[hrows];exact kz
  ·have hkd:decide ((k:Int) < (out.length:Int))=false:=by simp;omega
   have hoff:∀ {P:Prop},On [(Value.bool (decide ((k:Int) < (out.length:Int))),true)]→P:=fun ho=>by
    have:=ho.1
    rw[hkd] at this
    cases this
   refine⟨.pointer (some a),fun ho=>hoff ho,.inr rfl,?_⟩
   refine ae ?_
   refine⟨[iV 0],rfl,⟨rfl,trivial⟩,fun ho=>hoff ho,?_⟩
   refine ae (ae ?_)
   refine⟨.pointer (some a),fun _=>h1,.inr rfl,?_⟩
   refine ae ?_
   refine⟨[iV l[i]],rfl,⟨rfl,trivial⟩,fun _=>.inl (hle2.read h2),?_⟩
   refine ae (ae ?_)
   refine ab _ (aB _ _) ?_
   refine ae ?_
   refine ab _ (aT _ _) ?_
   rw[hkd,Bool.false_and]
   refine ai (fun hc=>by cases hc) (fun hc=>?_)
   have hins:=hfin fun y e=>by
    have:=(List.getElem?_eq_some_iff.1 e).1
    omega
   refine ab _ h1 (cG (hle2.read h2) h3 h4 ?_)
   obtain⟨u1,e1,s1⟩:=(hx.le hle2).from (i:=k) (by simp[aE];omega)
   obtain⟨u2,e2,s2⟩:=(hx.le hle2).upto (i:=k) (by simp[aE];omega)
   refine ab _ e1 (af fun r0=>?_)
   refine jH (ad:=⟨r0,0,none⟩) (rows:=[[iV l[i]]]) (news:=(aE out).drop k) (size:=1) (e:=aK) (by kernel_rfl) (fun Hf _ hf=>Sl.block1 (hf _ List.mem_cons_self) rfl ⟨rfl,trivial⟩) s1 (by rw[show jI PP aK=8 by kernel_rfl];simp[aE];omega) (by simp[aE];omega) fun v1 H3 l3 hv1=>?_
   refine ab _ e2 ?_
   refine dV (e:=aK) (size:=1) (bytes:=8) (by kernel_rfl) (s2.le l3) (by simp[aE];omega) (by simp[aE];omega) fun xa Oa H4 lA pa=>?_
   refine aC (rows:=(aE out).take k) (news:=[[iV l[i]]]++(aE out).drop k) (O1:=Oa) (O2:=[]) (e:=aK) (size:=1) (bytes:=8) (by kernel_rfl) (by simp) pa (fun Hf lf _=>(hv1.le lA).le lf) (by simp[aE];omega) (by simp[aE];omega) ?_
   intro v' A' H6 l6 hA'
   refine ab _ (az (by omega)) (Aw (by simp[Eqs]) hlt fun hc=>?_)
   obtain⟨H9,g9,kz,l9⟩:=hA'.freeze (X:=[]) (hc.perm (by simp))
   refine⟨H9,[],(Ghost.perm (by simp)).trans g9,rfl,Heap.le_trans hle (Heap.le_trans hle2 (Heap.le_trans l3 (Heap.le_trans lA (Heap.le_trans l6 l9)))),?_⟩
   have hrows:aE (pC (l.take (i + 1)))=(aE out).take k++([[iV l[i]]]++(aE out).drop k):=by
    rw[HE hlt,hout,hins,aE,aE,List.map_append,List.map_cons,List.map_take,List.map_drop];rfl
   rw[hrows];exact kz
 ·have hge:l.length≤i:=by simpa using hb
  rw[List.take_of_length_le hge] at hx
  exact ah ⟨hx,rfl⟩
def Qn (ks:List Int) (b:Bd) (p:Int):List Int:=pC ((ao b p).field.filter fun id=>eL ks (b.objs.getD (eY b id).toNat zO))
theorem wV {P:Program} {f:FuncId} {args:List Value} {H:Heap} {O:Own} {e:TypeId} {size:Nat} {x:Value} {rows:List (List Value)} {R:Value→Heap→Own→Prop} {shp:Shp} {K:List Value→List (List Value)→Heap→Own→Prop}
  (hx:OSl e size x rows O) (h:∀ Hf,Sl Hf size x rows→Triple P f args Hf [] R) (hk:∀ v H' ,R v H' []→Heap.le H H'→∃ vs,shp.open v=some vs∧Ones vs∧K vs [] H' []) (hR:∀ v H' O',R v H' O'→O'=[]:=by rintro _ _ _ ⟨_,rfl⟩;rfl) :
  dZ (fun H1 O1 R=>Triple P f args H1 O1 R) false [] [] shp K H O:=by
 intro hc
 obtain⟨Hf,g,hs,hl⟩:=hx.freeze (X:=[]) (by simpa using hc)
 refine⟨Hf,[],[],R,(by rw[List.append_nil] at g;exact g:Ghost H O Hf []),h Hf hs,fun v H' O' hr hle=>?_⟩
 obtain rfl:=hR v H' O' hr
 obtain⟨vs,h1,h2,h3⟩:=hk v H' hr (Heap.le_trans hl hle)
 exact⟨vs,[],[],h1,h2,trivial,rfl,h3⟩
theorem CO {H:Heap} {cv:Value} {ks:List Int} (hk:KindS H cv ks) {v:cn} {b:Bd} (h:BdS H v b) (hB:bdB b) (p:Int) (hp:p=0∨p=1) (hthere:∀ q,p=q→∀ id ∈ (ao b q).field,¬ eY b id < 0) :
  Triple PP jp [cv,.agg (al v b).toArray,iV p] H [] fun r H' O'=>Sl H' 1 r (aE (Qn ks b p))∧O'=[]:=by
 refine oL (vs:=cv::(al v b++[iV p])) (by kernel_rfl) ⟨hk.one,ax (am (h.r [])) ⟨rfl,trivial⟩⟩ ?_
 simp only[jo]
 refine af fun r0=>?_
 rcases hp with rfl | rfl
 ·refine⟨.i64,0,rfl,fun _=>?_,fun e=>absurd rfl e⟩
  have hfl:ak .len [v.f0]=some (iV b.s0.field.length):=by have:=h.s0.field.len;rwa [aE,List.length_map] at this
  have hbl:b.s0.field.length≤1000000:=by obtain⟨_,⟨_,_,x1,_⟩,⟨_,_,x2,_⟩,_⟩:=hB;omega
  refine aa ?_
  refine ab _ hfl ?_
  refine wS b.s0.field.length (fun i x H' O'=>Heap.le H H'∧OSl aK 1 x (aE ((b.s0.field.take i).filter fun id=>eL ks (b.objs.getD (eY b id).toNat zO))) O') (fun _=>⟨H,[],Ghost.refl _ _,Heap.le_refl _,OSl.nil _ _⟩) ?_
  rintro i x H' O' hi - ⟨hle,hx⟩
  refine ab _ (aB _ _) (ai (fun hb=>?_) (fun hb=>?_))
  ·have hlt:i < b.s0.field.length:=by simpa using hb
   obtain⟨a,i1,i2,i3,i4⟩:=(h.s0.field.le hle).idx (k:=.i64) (i:=i) (r:=[iV b.s0.field[i]]) (by simp[aE,hlt])
   have hft:=fK (p:=fun id=>eL ks (b.objs.getD (eY b id).toNat zO)) hlt
   obtain⟨k,ob,e1,e2,e3⟩:=nS (hthere 0 rfl b.s0.field[i] (List.getElem_mem hlt))
   have hob:b.objs.getD (eY b b.s0.field[i]).toNat zO=ob:=by rw[e3,Int.toNat_natCast,List.getD_eq_getElem?_getD,e1];rfl
   rw[hob] at hft
   refine ab _ i1 (cG i2 i3 i4 ?_)
   refine aa (aa ?_)
   refine aj (wz ((h.le hle).r O') b.s0.field[i]) rfl ⟨rfl,trivial⟩ fun H2 l2=>?_
   rw[e3]
   have lz:=Heap.le_trans hle l2
   obtain⟨a2,k1,k2,k3,k4⟩:=(h.objs.le lz).idx (k:=.i64) (i:=k) (r:=Ob.row ob) (by rw[List.getElem?_map,e1];rfl)
   refine ab _ k1 (cG k2 k3 k4 ?_)
   refine aj (zp (hk.le lz) ob) rfl ⟨rfl,trivial⟩ fun H3 l3=>ai (fun hc=>?_) (fun hc=>?_)
   ·have hc:eL ks ob=true:=hc
    have hlen:((b.s0.field.take i).filter fun id=>eL ks (b.objs.getD (eY b id).toNat zO)).length≤1000000:=Nat.le_trans (List.length_filter_le _ _) (by rw[List.length_take];omega)
    refine af fun r2=>?_
    refine aC (rows:=aE ((b.s0.field.take i).filter fun id=>eL ks (b.objs.getD (eY b id).toNat zO))) (news:=[[iV b.s0.field[i]]]) (O1:=O') (O2:=[]) (e:=aK) (size:=1) (bytes:=8) (by kernel_rfl) (by simp) hx (fun Hf _ hf=>Sl.block1 (hf _ List.mem_cons_self) rfl ⟨rfl,trivial⟩) (by rw[aE,List.length_map,List.length_singleton];omega) (by rw[aE,List.length_map,List.length_singleton];omega) ?_
    intro v' A' H6 l6 hA'
    refine ab _ (az (by omega)) (aS (by simp[Eqs]) hlt ⟨Heap.le_trans lz (Heap.le_trans l3 l6),?_⟩)
    rw[List.append_nil,hft,if_pos hc,aE,List.map_append];exact hA'
   ·have hc:eL ks ob=false:=hc
    refine ab _ (az (by omega)) (aS (by simp[Eqs]) hlt ⟨Heap.le_trans lz l3,?_⟩)
    rw[hft,if_neg (by rw[hc];simp),List.append_nil];exact hx
  ·have hge:b.s0.field.length≤i:=by simpa using hb
   rw[List.take_of_length_le hge] at hx
   have hlen:(b.s0.field.filter fun id=>eL ks (b.objs.getD (eY b id).toNat zO)).length≤1000000:=Nat.le_trans (List.length_filter_le _ _) hbl
   refine wV hx (fun Hf hs=>Gu hs (by omega)) ?_
   rintro r H2 ⟨hr,-⟩ l2
   refine⟨[r],rfl,⟨hr.one,trivial⟩,?_⟩
   exact ah ⟨hr,rfl⟩
 ·refine⟨.i64,1,rfl,fun e=>absurd e (by omega),fun _=>⟨.i64,1,rfl,fun _=>?_,fun e=>absurd rfl e⟩⟩
  have hfl:ak .len [v.f1]=some (iV b.s1.field.length):=by have:=h.s1.field.len;rwa [aE,List.length_map] at this
  have hbl:b.s1.field.length≤1000000:=by obtain⟨_,⟨_,_,x1,_⟩,⟨_,_,x2,_⟩,_⟩:=hB;omega
  refine aa ?_
  refine ab _ hfl ?_
  refine wS b.s1.field.length (fun i x H' O'=>Heap.le H H'∧OSl aK 1 x (aE ((b.s1.field.take i).filter fun id=>eL ks (b.objs.getD (eY b id).toNat zO))) O') (fun _=>⟨H,[],Ghost.refl _ _,Heap.le_refl _,OSl.nil _ _⟩) ?_
  rintro i x H' O' hi - ⟨hle,hx⟩
  refine ab _ (aB _ _) (ai (fun hb=>?_) (fun hb=>?_))
  ·have hlt:i < b.s1.field.length:=by simpa using hb
   obtain⟨a,i1,i2,i3,i4⟩:=(h.s1.field.le hle).idx (k:=.i64) (i:=i) (r:=[iV b.s1.field[i]]) (by simp[aE,hlt])
   have hft:=fK (p:=fun id=>eL ks (b.objs.getD (eY b id).toNat zO)) hlt
   obtain⟨k,ob,e1,e2,e3⟩:=nS (hthere 1 rfl b.s1.field[i] (List.getElem_mem hlt))
   have hob:b.objs.getD (eY b b.s1.field[i]).toNat zO=ob:=by rw[e3,Int.toNat_natCast,List.getD_eq_getElem?_getD,e1];rfl
   rw[hob] at hft
   refine ab _ i1 (cG i2 i3 i4 ?_)
   refine aa (aa ?_)
   refine aj (wz ((h.le hle).r O') b.s1.field[i]) rfl ⟨rfl,trivial⟩ fun H2 l2=>?_
   rw[e3]
   have lz:=Heap.le_trans hle l2
   obtain⟨a2,k1,k2,k3,k4⟩:=(h.objs.le lz).idx (k:=.i64) (i:=k) (r:=Ob.row ob) (by rw[List.getElem?_map,e1];rfl)
   refine ab _ k1 (cG k2 k3 k4 ?_)
   refine aj (zp (hk.le lz) ob) rfl ⟨rfl,trivial⟩ fun H3 l3=>ai (fun hc=>?_) (fun hc=>?_)
   ·have hc:eL ks ob=true:=hc
    have hlen:((b.s1.field.take i).filter fun id=>eL ks (b.objs.getD (eY b id).toNat zO)).length≤1000000:=Nat.le_trans (List.length_filter_le _ _) (by rw[List.length_take];omega)
    refine af fun r2=>?_
    refine aC (rows:=aE ((b.s1.field.take i).filter fun id=>eL ks (b.objs.getD (eY b id).toNat zO))) (news:=[[iV b.s1.field[i]]]) (O1:=O') (O2:=[]) (e:=aK) (size:=1) (bytes:=8) (by kernel_rfl) (by simp) hx (fun Hf _ hf=>Sl.block1 (hf _ List.mem_cons_self) rfl ⟨rfl,trivial⟩) (by rw[aE,List.length_map,List.length_singleton];omega) (by rw[aE,List.length_map,List.length_singleton];omega) ?_
    intro v' A' H6 l6 hA'
    refine ab _ (az (by omega)) (aS (by simp[Eqs]) hlt ⟨Heap.le_trans lz (Heap.le_trans l3 l6),?_⟩)
    rw[List.append_nil,hft,if_pos hc,aE,List.map_append];exact hA'
   ·have hc:eL ks ob=false:=hc
    refine ab _ (az (by omega)) (aS (by simp[Eqs]) hlt ⟨Heap.le_trans lz l3,?_⟩)
    rw[hft,if_neg (by rw[hc];simp),List.append_nil];exact hx
  ·have hge:b.s1.field.length≤i:=by simpa using hb
   rw[List.take_of_length_le hge] at hx
   have hlen:(b.s1.field.filter fun id=>eL ks (b.objs.getD (eY b id).toNat zO)).length≤1000000:=Nat.le_trans (List.length_filter_le _ _) hbl
   refine wV hx (fun Hf hs=>Gu hs (by omega)) ?_
   rintro r H2 ⟨hr,-⟩ l2
   refine⟨[r],rfl,⟨hr.one,trivial⟩,?_⟩
   exact ah ⟨hr,rfl⟩
theorem wP {b:Bd} (h:an b=true) {p:Int} (hp:p=0∨p=1) {id:Int} (hid:id ∈ (ao b p).field):∃ (k:Nat) (o:Ob),b.objs[k]?=some o∧o.id=id∧o.owner=p∧eY b id=k:=by
 have hpl:=(aM h).1
 have hm:(id,p) ∈ aL b:=by
  rcases hp with rfl | rfl
  ·have hid:id ∈ b.s0.field:=hid
   simp[aL,cB,hid]
  ·have hid:id ∈ b.s1.field:=hid
   simp[aL,cB,hid]
 obtain⟨k,o,e1,e2,e3⟩:=IN hpl hm
 obtain⟨_,_,v3,_⟩:=cV hpl e1
 exact⟨k,o,e1,e2,e3,by rw[← e2];exact v3⟩
theorem jh:∀ {l:List Ob} {prev:Option Int},E2 prev l=true→(l.map (·.id)).Pairwise (· < ·)
 | [],_,_=>List.Pairwise.nil
 | a::l,prev,h=>by
  simp only[E2,Bool.and_eq_true] at h
  rw[List.map_cons,List.pairwise_cons]
  refine⟨fun x hx=>?_,jh h.2⟩
  obtain⟨o,ho,rfl⟩:=List.mem_map.1 hx
  exact (nM h.2).1 o ho _ rfl
theorem LM (ks:List Int) {b:Bd} (h:an b=true) {p:Int} (hp:p=0∨p=1):Qn ks b p=jl ks b p:=by
 have hw:au p 0 1=true:=by simp only[au,decide_eq_true_eq];omega
 rw[jl,if_pos (by rw[hw,h];rfl),Qn]
 obtain⟨p1,_,_⟩:=fc (aM h).1
 have hfn:(ao b p).field.Nodup:=by
  obtain⟨a,c⟩:=tX (aM h).1
  rcases hp with rfl | rfl
  ·exact a
  ·exact c
 refine y7 (zX (hfn.filter _)) ?_ fun x=>?_
 ·exact (jh p1).sublist ((List.filter_sublist (l:=b.objs)).map _)
 ·rw[(uY _).mem_iff,List.mem_filter,List.mem_map]
  constructor
  ·rintro ⟨hx,hc⟩
   obtain⟨k,o,e1,e2,e3,e4⟩:=wP h hp hx
   have hob:b.objs.getD (eY b x).toNat zO=o:=by rw[e4,Int.toNat_natCast,List.getD_eq_getElem?_getD,e1];rfl
   rw[hob] at hc
   refine⟨o,List.mem_filter.2 ⟨List.mem_of_getElem? e1,?_⟩,e2⟩
   rw[zw,e3,hc,e2]
   simpa using hx
  ·rintro ⟨o,ho,rfl⟩
   obtain⟨ho,hc⟩:=List.mem_filter.1 ho
   simp only[zw,Bool.and_eq_true,beq_iff_eq,List.contains_iff_mem] at hc
   obtain⟨h1,h2,h3⟩:=hc
   obtain⟨k,hk⟩:=List.mem_iff_getElem?.1 ho
   obtain⟨_,_,v3,_⟩:=cV (aM h).1 hk
   refine⟨h3,?_⟩
   rw[v3,Int.toNat_natCast,List.getD_eq_getElem?_getD,hk]
   exact h2
theorem W6 (H:Heap):CdR H Ho zCd:=⟨rfl,EffsS.nil H,TrigsS.nil H⟩
theorem IA {H:Heap} {v:Value} {cs:List Cd} (h:CardsS H v cs) (c:Int) (hn:¬ (c < 0∨c ≥ (cs.length:Int))) :
  ∃ a r,ak (.idx 14) [v,iV c]=some (.pointer (some a))∧H.read (.pointer (some a)) 14=some r∧r.length=14∧Ones r∧CdR H r (BL cs c):=by
 obtain⟨rows,h1,h2,h3⟩:=h
 have hlt:c.toNat < rows.length:=by omega
 obtain⟨a,k1,k2,k3,k4⟩:=h1.idx (k:=.i64) (i:=c.toNat) (List.getElem?_eq_getElem hlt)
 have hk:cs[c.toNat]?=some (BL cs c):=by
  rw[BL,if_neg hn,List.getD_eq_getElem?_getD,List.getElem?_eq_getElem (by omega)];rfl
 refine⟨a,_,?_,k2,k3,k4,h3 c.toNat _ _ (List.getElem?_eq_getElem hlt) hk⟩
 rw[show iV c=iV (c.toNat:Int) by rw[Int.toNat_of_nonneg (by omega)]];exact k1
def Wn (cs:List Cd) (c:Int) (v:Value) (H:Heap):Prop:=∃ cells:List Value,v=.agg cells.toArray∧cells.length=14∧Ones cells∧CdR H cells (BL cs c)
theorem U9 {H:Heap} {O:Own} {v:Value} {cs:List Cd} (h:CardsS H v cs) (o:Ob):Triple PP np [v,.agg o.row.toArray] H O fun r H' O'=>Wn cs o.card r H'∧O'=O:=by
 refine nI (vs:=v::o.row) (by kernel_rfl) ⟨h.one,bE o⟩ ?_
 simp only[nm]
 refine af fun r0=>af fun r1=>?_
 refine aa ?_
 refine ab _ (aB _ _) ?_
 refine aa (ae (ae ?_))
 refine ab _ h.len ?_
 refine ae (ae (ab _ (eR _ _) (ae (ab _ (aR _ _) ?_))))
 refine ai (fun hb=>?_) (fun hb=>?_)
 ·have hb:(decide (o.card < 0) || decide (o.card ≥ (cs.length:Int)))=true:=hb
  refine aa (aa ?_)
  refine ah ⟨⟨Ho,rfl,rfl,⟨rfl,rfl,rfl,rfl,rfl,rfl,rfl,rfl,rfl,rfl,rfl,rfl,rfl,rfl,trivial⟩,?_⟩,rfl⟩
  rw[BL,if_pos (by simpa using hb)];exact W6 H
 ·have hb:(decide (o.card < 0) || decide (o.card ≥ (cs.length:Int)))=false:=hb
  obtain⟨a,r,k1,k2,k3,k4,k5⟩:=IA h o.card (by simpa [Bool.or_eq_false_iff] using hb)
  refine aa ?_
  refine ab _ k1 (ap (fD k2) k3 k4 ?_)
  refine aa (aa ?_)
  exact ah ⟨⟨r,by rw[← Bm k3];rfl,k3,k4,k5⟩,rfl⟩
theorem Ur {H:Heap} {O:Own} {v:Value} {cs:List Cd} (h:CardsS H v cs) (o:Ob):Triple PP fU [v,.agg o.row.toArray] H O fun r H' O'=>Wn cs o.card r H'∧O'=O:=by
 refine gR (vs:=v::o.row) (by kernel_rfl) ⟨h.one,bE o⟩ ?_
 simp only[fP]
 refine af fun r0=>af fun r1=>?_
 refine aa ?_
 refine ab _ (aB _ _) ?_
 refine aa (ae (ae ?_))
 refine ab _ h.len ?_
 refine ae (ae (ab _ (eR _ _) (ae (ab _ (aR _ _) ?_))))
 refine ai (fun hb=>?_) (fun hb=>?_)
 ·have hb:(decide (o.card < 0) || decide (o.card ≥ (cs.length:Int)))=true:=hb
  refine aa (aa ?_)
  refine ah ⟨⟨Ho,rfl,rfl,⟨rfl,rfl,rfl,rfl,rfl,rfl,rfl,rfl,rfl,rfl,rfl,rfl,rfl,rfl,trivial⟩,?_⟩,rfl⟩
  rw[BL,if_pos (by simpa using hb)];exact W6 H
 ·have hb:(decide (o.card < 0) || decide (o.card ≥ (cs.length:Int)))=false:=hb
  obtain⟨a,r,k1,k2,k3,k4,k5⟩:=IA h o.card (by simpa [Bool.or_eq_false_iff] using hb)
  refine aa ?_
  refine ab _ k1 (ap (fD k2) k3 k4 ?_)
  refine aa (aa ?_)
  exact ah ⟨⟨r,by rw[← Bm k3];rfl,k3,k4,k5⟩,rfl⟩
theorem BM {H:Heap} {v:Value} {l:List (List Value)} (h:Sl H 5 v l) (hb:l.length≤2 ^ 30):Triple PP eo [v] H [] fun v' H' O'=>OSl eU 5 v' l O':=by
 refine ii (vs:=[v]) (by kernel_rfl) ⟨h.one,trivial⟩ ?_
 simp only[ef]
 obtain⟨a,cap,rfl,h1,h2,h3⟩:=h
 have hev:ak (.bin .eql .slice) [.slice a l.length cap,.slice none 0 0]=some (.bool a.isNone):=by cases a <;> rfl
 refine ab _ hev (ai (fun hn=>ah ?_) (fun hn=>fun r0=>?_))
 ·have hl:l=[]:=by
   by_cases hl:l=[]
   ·exact hl
   ·obtain⟨ad,rfl,_⟩:=h3 hl;cases hn
  subst hl
  exact OSl.nil eU 5
 ·refine aC (rows:=[]) (news:=l) (O1:=[]) (O2:=[]) (e:=eU) (size:=5) (bytes:=40) (by kernel_rfl) (List.Perm.refl _) (.inl ⟨⟨_,rfl⟩,rfl,rfl⟩) (fun Hf hl _=>Sl.le hl ⟨a,cap,rfl,h1,h2,h3⟩) (by simp;omega) (by simp;omega) ?_
  intro v' O1' H' _ ho
  refine ah ?_
  rw[List.append_nil]
  exact ho
theorem LU {H:Heap} {v:Value} {l:List (List Value)} (h:Sl H 2 v l) (hb:l.length≤2 ^ 30):Triple PP dL [v] H [] fun v' H' O'=>OSl fZ 2 v' l O':=by
 refine gI (vs:=[v]) (by kernel_rfl) ⟨h.one,trivial⟩ ?_
 simp only[dF]
 obtain⟨a,cap,rfl,h1,h2,h3⟩:=h
 have hev:ak (.bin .eql .slice) [.slice a l.length cap,.slice none 0 0]=some (.bool a.isNone):=by cases a <;> rfl
 refine ab _ hev (ai (fun hn=>ah ?_) (fun hn=>fun r0=>?_))
 ·have hl:l=[]:=by
   by_cases hl:l=[]
   ·exact hl
   ·obtain⟨ad,rfl,_⟩:=h3 hl;cases hn
  subst hl
  exact OSl.nil fZ 2
 ·refine aC (rows:=[]) (news:=l) (O1:=[]) (O2:=[]) (e:=fZ) (size:=2) (bytes:=32) (by kernel_rfl) (List.Perm.refl _) (.inl ⟨⟨_,rfl⟩,rfl,rfl⟩) (fun Hf hl _=>Sl.le hl ⟨a,cap,rfl,h1,h2,h3⟩) (by simp;omega) (by simp;omega) ?_
  intro v' O1' H' _ ho
  refine ah ?_
  rw[List.append_nil]
  exact ho
def Wt (c:Cd) (v:Value) (H:Heap):Prop:=∃ cells:List Value,v=.agg cells.toArray∧cells.length=14∧Ones cells∧g cells 1=iV c.kind∧EffsS H (g cells 11) c.tg
theorem dT {l:List Value} (h:Ones l) {i:Nat} (hi:i < l.length):(g l i).oneCell'=true:=by
 rw[g,List.getD_eq_getElem?_getD,List.getElem?_eq_getElem hi]
 exact iP h _ (List.getElem_mem hi)
theorem NI {H:Heap} {cells:List Value} {c:Cd} (h:CdR H cells c) (hl:cells.length=14) (ho:Ones cells) (hli:iC c=true) :
  Triple PP xc [.agg cells.toArray] H [] fun r H' O'=>Wt c r H'∧O'=[]:=by
 simp only[iC,Bool.and_eq_true,Bool.not_eq_true',Bool.or_eq_false_iff,decide_eq_false_iff_not,List.all_eq_true] at hli
 obtain⟨⟨b1,b2⟩,b3⟩:=hli
 obtain⟨hk,⟨erows,e1,e2,e3⟩,⟨trows,t1,t2,t3⟩⟩:=h
 refine xz (vs:=cells) (by rw[← Bm hl];kernel_rfl) ho ?_
 simp only[w8]
 refine af fun r0=>af fun r1=>?_
 refine aa (aa ?_)
 refine ar (Triple.frozenS (BM e1 (by omega))) ?_
 rintro x H1 _ ⟨hx,rfl⟩ l1
 refine⟨[x],rfl,⟨hx.one,trivial⟩,?_⟩
 refine ar (LU (t1.le l1) (by omega)) fun y H2 O2 hy l2=>⟨[y],rfl,⟨hy.one,trivial⟩,?_⟩
 have ylen:=hy.len
 rw[t2] at ylen
 refine aa (aa (aa ?_))
 refine ab _ ylen ?_
 refine aQ c.tr.length (fun i H' O'=>Heap.le H2 H'∧∃ rows' A,O'.Perm A∧OSl fZ 2 y rows' A∧rows'.length=c.tr.length∧∀ j,i≤j→rows'[j]?=trows[j]?) ⟨Heap.le_refl _,trows,O2,by simp,hy,t2,fun _ _=>rfl⟩ ?_
 rintro i H' O' hi - ⟨hle,rows',A,hp,hA,hrl,hrest⟩
 refine ab _ (aB _ _) (ai (fun hb=>?_) (fun hb=>?_))
 ·have hlt:i < c.tr.length:=by simpa using hb
  have hri:rows'[i]?=some trows[i]:=by rw[hrest i (Nat.le_refl _)];exact List.getElem?_eq_getElem (by omega)
  obtain⟨er,k1,k2⟩:=t3 i trows[i] c.tr[i] (List.getElem?_eq_getElem (by omega)) (List.getElem?_eq_getElem hlt)
  have hb3:=b3 _ (List.getElem_mem hlt)
  obtain⟨a,i1,i2,i3,i4⟩:=hA.idx (fun p h=>hp.mem_iff.2 h) H' (k:=.i64) hri
  obtain⟨w1,w2⟩:=hA.rows_ok hri
  refine ab _ i1 (ap i3 w1 w2 (af fun r2=>?_))
  refine aa (aa (aa ?_))
  refine ar (Triple.frozenS (BM (k1.le (Heap.le_trans l1 (Heap.le_trans l2 hle))) (by rw[k2];omega))) ?_
  rintro z H3 _ ⟨hz,rfl⟩ l3
  refine⟨[z],rfl,⟨hz.one,trivial⟩,?_⟩
  obtain⟨a2,j1,j2⟩:=hA.store (O:=[]++O') (O2:=[]) (by simpa using hp) (k:=.i64) hri
  obtain⟨A',hst,hA'⟩:=j2 1 [z] (by simp[w1]) ⟨hz.one,trivial⟩
  refine ab _ j1 ?_
  refine aw rfl (aw rfl ?_)
  refine⟨_,hst,?_⟩
  refine ab _ (az (by omega)) (aI (by simp[Eqs]) hlt ⟨Heap.le_trans hle l3,_,A',by simp,hA',by simp[hrl],fun j hj=>?_⟩)
  rw[List.getElem?_set_ne (by omega)]
  exact hrest j (by omega)
 ·refine aa (aa (aa ?_))
  refine kZ ⟨⟨[g cells 0,g cells 1,g cells 2,g cells 3,g cells 4,g cells 5,g cells 6,g cells 7,g cells 8,g cells 9,g cells 10,x,y,g cells 13],rfl,rfl,?_,hk,⟨erows,hx.le (Heap.le_trans l2 hle),e2,e3⟩⟩,rfl⟩
  exact⟨dT ho (by omega),dT ho (by omega),dT ho (by omega),dT ho (by omega),dT ho (by omega),dT ho (by omega),dT ho (by omega),dT ho (by omega),dT ho (by omega),dT ho (by omega),dT ho (by omega),hx.one,hy.one,dT ho (by omega),trivial⟩
theorem QA {H:Heap} {v:Value} {cs:List Cd} (h:CardsS H v cs) (hli:dh cs=true) (o:Ob):Triple PP nq [v,.agg o.row.toArray] H [] fun r H' O'=>Wt (BL cs o.card) r H'∧O'=[]:=by
 refine tL (vs:=v::o.row) (by kernel_rfl) ⟨h.one,bE o⟩ ?_
 simp only[rM]
 refine af fun r0=>af fun r1=>?_
 refine aa ?_
 refine ar (U9 (O:=[]) h o) ?_
 rintro _ H1 _ ⟨⟨cells,rfl,k1,k2,k3⟩,rfl⟩ l1
 refine⟨cells,by simp[Shp.open,k1],k2,?_⟩
 have hrow:=Bm k1
 refine ar (NI (cells:=[g cells 0,g cells 1,g cells 2,g cells 3,g cells 4,g cells 5,g cells 6,g cells 7,g cells 8,g cells 9,g cells 10,g cells 11,g cells 12,g cells 13]) (by rw[hrow];exact k3) rfl (by rw[hrow];exact k2) (BC hli _)) ?_
 rintro _ H2 _ ⟨⟨cells2,rfl,m1,m2,m3,m4⟩,rfl⟩ l2
 refine⟨cells2,by simp[Shp.open,m1],m2,?_⟩
 refine aa (aa ?_)
 exact ah ⟨⟨cells2,by rw[← Bm m1];rfl,m1,m2,m3,m4⟩,rfl⟩
theorem IZ {α:Type} {p:α→Bool} {l:List α} {i:Nat} (h:i < l.length):((l.take (i + 1)).filter p).length=((l.take i).filter p).length + if p l[i] then 1 else 0:=by
 rw[List.take_add_one,List.getElem?_eq_getElem h,List.filter_append,List.length_append]
 congr 1
 by_cases hp:p l[i] <;> simp[hp]
theorem J1 {H:Heap} {O:Own} {v:Value} {tg:List Int} (h:EffsS H v tg) {i:Nat} (hi:i < tg.length) :
  ∃ a r,ak (.idx 5) [v,iV i]=some (.pointer (some a))∧H.read (.pointer (some a)) 5=some r∧r.length=5∧Ones r∧g r 1=iV tg[i]∧Reads H O (aO (.pointer (some a)) 1) 1 [iV tg[i]]:=by
 obtain⟨rows,h1,h2,h3⟩:=h
 have hlt:i < rows.length:=by omega
 obtain⟨a,k1,k2,k3,k4⟩:=h1.idx (k:=.i64) (i:=i) (List.getElem?_eq_getElem hlt)
 have hg:=h3 i _ _ (List.getElem?_eq_getElem hlt) (List.getElem?_eq_getElem hi)
 obtain⟨a2,j1,_,j3,_⟩:=(h1.rsl O).idx .i64 i rows[i] (by simp[hlt])
 obtain rfl:a2=a:=by rw[j1] at k1;simpa using k1
 have hr:=j3 1 1 (by omega)
 refine⟨_,_,k1,k2,k3,k4,hg,?_⟩
 have e:((rows[i]).drop 1).take 1=[iV tg[i]]:=by
  match hm:rows[i],k3 with
  | [_,b,_,_,_],_=>rw[hm] at hg;simpa [g] using hg
 rw[e] at hr
 exact hr
theorem QJ {H:Heap} {O:Own} {v:Value} {tg:List Int} (h:EffsS H v tg) (hb:tg.length≤1000000):RetO PP si [v] H O (iV (dU tg).length):=by
 refine xy (vs:=[v]) (by kernel_rfl) ⟨h.one,trivial⟩ ?_
 simp only[rZ]
 refine ab _ h.len ?_
 refine de tg.length (fun i x H' O'=>O'=O∧Heap.le H H'∧x=iV (dU (tg.take i)).length) ⟨rfl,Heap.le_refl _,rfl⟩ ?_
 rintro i x H' O' hi - ⟨rfl,hle,rfl⟩
 refine ab _ (aB _ _) (ai (fun hb=>?_) (fun hb=>?_))
 ·have hlt:i < tg.length:=by simpa using hb
  obtain⟨a,r,k1,k2,k3,k4,k5,_⟩:=J1 (O:=O') (h.le hle) hlt
  refine ab _ k1 (ap (fD k2) k3 k4 (af fun r0=>?_))
  refine aa (aa ?_)
  rw[k5]
  refine ab _ (aY _ _) ?_
  have hft:=IZ (p:=fun t:Int=>t != 0) hlt
  have hfl:((tg.take i).filter fun t:Int=>t != 0).length≤tg.length:=Nat.le_trans (List.length_filter_le _ _) (by rw[List.length_take];omega)
  refine ai (fun hc=>?_) (fun hc=>?_)
  ·have hc:(tg[i] != 0)=true:=hc
   rw[if_pos hc] at hft
   refine ab _ (az (by rw[dU];omega)) (ab _ (az (by omega)) (aS (by simp[Eqs]) hlt ⟨rfl,hle,?_⟩))
   rw[dU,dU,hft]
  ·have hc:(tg[i] != 0)=false:=hc
   rw[if_neg (by rw[hc];simp)] at hft
   refine ab _ (az (by omega)) (aS (by simp[Eqs]) hlt ⟨rfl,hle,?_⟩)
   rw[dU,dU,hft];rfl
 ·have hge:tg.length≤i:=by simpa using hb
  rw[List.take_of_length_le hge]
  exact ah ⟨rfl,rfl⟩
def UA (c:Int):Ob:=⟨0,c,0,0,0,0,0,0,0,false,false,false⟩
def Vq (k:Int):Bool:=k == 3 || k == 4
def nF (cs:List Cd) (x:It):Bool:=(Vq (BL cs x.card).kind && decide (x.trig < 0)) && decide ((x.tgs.length:Int) ≥ ((dU (BL cs x.card).tg).length:Int))
def nE (cs:List Cd) (x:It):Bool:=(x.trig == -1 && Vq (BL cs x.card).kind) && decide ((x.tgs.length:Int) ≥ ((dU (BL cs x.card).tg).length:Int))
theorem LF {cs:List Cd} (h:dh cs=true) (c:Int):(BL cs c).tg.length≤5:=by
 have:=BC h c
 simp only[iC,Bool.and_eq_true,Bool.not_eq_true',Bool.or_eq_false_iff,decide_eq_false_iff_not] at this
 omega
theorem U3 {H:Heap} {v:Value} {cs:List Cd} (h:CardsS H v cs) (hli:dh cs=true) {row:List Value} {x:It} (hx:ItR H [] row x):RetO PP wc [v,.agg row.toArray] H [] (.bool (nF cs x)):=by
 obtain⟨s,rfl,hs⟩:=hx
 refine AW (vs:=[v,iV x.player,iV x.id,iV x.card,iV x.trig,s]) (by kernel_rfl) ⟨h.one,rfl,rfl,rfl,rfl,hs.one,trivial⟩ ?_
 simp only[vN]
 refine af fun r0=>?_
 refine aa ?_
 refine ar (QA h hli (UA x.card)) ?_
 rintro _ H1 _ ⟨⟨cells,rfl,k1,k2,k3,k4⟩,rfl⟩ l1
 refine⟨cells,by simp[Shp.open,k1],k2,af fun r1=>?_⟩
 have k3:g cells 1=iV (BL cs x.card).kind:=k3
 have k4:EffsS H1 (g cells 11) (BL cs x.card).tg:=k4
 refine aa (aa ?_)
 rw[k3]
 have hsl:ak .len [s]=some (iV x.tgs.length):=by have:=hs.len;rwa [List.length_map] at this
 refine ab _ (ay _ _) (aa (ae (ae (ab _ (ay _ _) (ae (ab _ (aR _ _) (aa (ae (ae (ab _ (aB _ _) (ae (ab _ (aT _ _) ?_))))))))))))
 refine ai (fun hb=>?_) (fun hb=>?_)
 ·have hb:(Vq (BL cs x.card).kind && decide (x.trig < 0))=true:=hb
  refine aa ?_
  refine ab _ hsl ?_
  refine aa ?_
  refine aj (QJ k4 (by have:=LF hli x.card;omega)) rfl ⟨rfl,trivial⟩ fun H2 l2=>?_
  refine ab _ (cI _ _) (ah ⟨?_,rfl⟩)
  rw[nF,hb,Bool.true_and]
 ·have hb:(Vq (BL cs x.card).kind && decide (x.trig < 0))=false:=hb
  refine ah ⟨?_,rfl⟩
  rw[nF,hb,Bool.false_and]
theorem ON {H:Heap} {v:Value} {tg:List Int} (h:EffsS H v tg) (hb:tg.length≤1000000):Triple PP mC [v] H [] fun r _ O'=>OSl eA 1 r (aE (dU tg)) O':=by
 refine sk (vs:=[v]) (by kernel_rfl) ⟨h.one,trivial⟩ ?_
 simp only[lV]
 refine de tg.length (fun i x H' O'=>Heap.le H H'∧OSl eA 1 x (aE (dU (tg.take i))) O') ⟨Heap.le_refl _,OSl.nil _ _⟩ ?_
 rintro i x H' O' hi - ⟨hle,hx⟩
 refine ab _ (h.le hle).len ?_
 refine ab _ (aB _ _) (ai (fun hb=>?_) (fun hb=>?_))
 ·have hlt:i < tg.length:=by simpa using hb
  obtain⟨a,r,k1,k2,k3,k4,k5,k6⟩:=J1 (O:=O') (h.le hle) hlt
  have hft:=fK (p:=fun t:Int=>t != 0) hlt
  refine ab _ k1 ?_
  refine aw rfl ?_
  refine ap k6 rfl ⟨rfl,trivial⟩ ?_
  refine ab _ (aY _ _) ?_
  refine ai (fun hc=>?_) (fun hc=>?_)
  ·have hc:(tg[i] != 0)=true:=hc
   have hlen:(dU (tg.take i)).length≤1000000:=by rw[dU];exact Nat.le_trans (List.length_filter_le _ _) (by rw[List.length_take];omega)
   refine ab _ k1 ?_
   refine aw rfl ?_
   refine ap k6 rfl ⟨rfl,trivial⟩ (af fun r2=>?_)
   refine aC (rows:=aE (dU (tg.take i))) (news:=[[iV tg[i]]]) (O1:=O') (O2:=[]) (e:=eA) (size:=1) (bytes:=8) (by kernel_rfl) (by simp) hx (fun Hf _ hf=>Sl.block1 (hf _ List.mem_cons_self) rfl ⟨rfl,trivial⟩) (by rw[aE,List.length_map,List.length_singleton];omega) (by rw[aE,List.length_map,List.length_singleton];omega) ?_
   intro v' A' H6 l6 hA'
   refine ab _ (az (by omega)) (aS (by simp[Eqs]) hlt ⟨Heap.le_trans hle l6,?_⟩)
   rw[List.append_nil,dU,hft,if_pos hc,aE,List.map_append];exact hA'
  ·have hc:(tg[i] != 0)=false:=hc
   refine ab _ (az (by omega)) (aS (by simp[Eqs]) hlt ⟨hle,?_⟩)
   rw[dU,hft,if_neg (by rw[hc];simp),List.append_nil];exact hx
 ·have hge:tg.length≤i:=by simpa using hb
  rw[List.take_of_length_le hge] at hx
  exact ah hx
theorem Un {H:Heap} {v:Value} {cs:List Cd} (h:CardsS H v cs) (hli:dh cs=true) {row:List Value} {x:It} (hx:ItR H [] row x):RetO PP mB [v,.agg row.toArray] H [] (.bool (nE cs x)):=by
 obtain⟨s,rfl,hs⟩:=hx
 refine sj (vs:=[v,iV x.player,iV x.id,iV x.card,iV x.trig,s]) (by kernel_rfl) ⟨h.one,rfl,rfl,rfl,rfl,hs.one,trivial⟩ ?_
 simp only[lU]
 refine af fun r0=>?_
 refine aa ?_
 refine ar (Ur (O:=[]) h (UA x.card)) ?_
 rintro _ H1 _ ⟨⟨cells,rfl,k1,k2,k3⟩,rfl⟩ l1
 refine⟨cells,by simp[Shp.open,k1],k2,af fun r1=>?_⟩
 have k5:g cells 1=iV (BL cs x.card).kind:=k3.kind
 have k4:EffsS H1 (g cells 11) (BL cs x.card).tg:=k3.eff
 refine aa (aa ?_)
 rw[k5]
 have hsl:ak .len [s]=some (iV x.tgs.length):=by have:=hs.len;rwa [List.length_map] at this
 refine ab _ (ay _ _) (aa (ae (ae (ab _ (ay _ _) (ae (aa (ae (ae (ae (ae (ab _ (ay _ _) (ae (ae (ae (ab _ (aR _ _) (ae (ab _ (aT _ _) ?_)))))))))))))))))
 refine ai (fun hb=>?_) (fun hb=>?_)
 ·have hb:(x.trig == -1 && Vq (BL cs x.card).kind)=true:=hb
  refine aa ?_
  refine ab _ hsl ?_
  refine aa ?_
  refine ar (ON k4 (by have:=LF hli x.card;omega)) fun y H2 O2 hy l2=>⟨[y],rfl,⟨hy.one,trivial⟩,?_⟩
  have hyl:=hy.len
  rw[aE,List.length_map] at hyl
  refine ab _ hyl ?_
  refine ab _ (cI _ _) (kZ ⟨?_,rfl⟩)
  rw[nE,hb,Bool.true_and]
 ·have hb:(x.trig == -1 && Vq (BL cs x.card).kind)=false:=hb
  refine ah ⟨?_,rfl⟩
  rw[nE,hb,Bool.false_and]
theorem Rk {cs:List Cd} {x:It} (h:cQ x false=true):nE cs x=nF cs x:=by
 have ht:(x.trig == -1)=decide (x.trig < 0):=by
  simp only[cQ,Bool.and_eq_true,au,decide_eq_true_eq] at h
  obtain⟨_,_,_,h4,_⟩:=h
  rw[Bool.eq_iff_iff];simp;omega
 rw[nE,nF,ht,Bool.and_comm (decide (x.trig < 0))]
end Go.Proofs.YtdhobpmnkfmcfaaGreatDoor
