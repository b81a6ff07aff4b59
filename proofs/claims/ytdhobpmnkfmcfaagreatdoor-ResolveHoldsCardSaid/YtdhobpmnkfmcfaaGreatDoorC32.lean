/- Cards are drawn: the program's. -/
import Derived.Test.YtdhobpmnkfmcfaaGreatDoorRW
import Derived.Test.YtdhobpmnkfmcfaaGreatDoorKN
import Derived.Test.YtdhobpmnkfmcfaaGreatDoorC21
namespace Go.Proofs.YtdhobpmnkfmcfaaGreatDoor
open Go Go.Sx
set_option maxRecDepth 100000
set_option maxHeartbeats 1000000
def ka (b:Bd) (p id:Int):Bd:=eB (Hm b p id) (fM b id).toNat (cw (b.objs.getD (fM b id).toNat zO) 1)
def eu:Nat→Bd→Int→Bd
 | 0,b,_=>b
 | n + 1,b,p=>match (aF b p).lib.getLast? with
  | none=>bu b p { aF b p with empty:=true }
  | some id=>eu n (ka b p id) p
def oL (b:Bd) (p n:Int):Bd × Int:=if (!ar b || (!au p 0 1 || decide (n < 0)))=true then (zBd,2) else (eu n.toNat b p,0)
def wD (w:dG) (x1 x2 x3 x4:Value):dG:={ w with l0:=x1,h0:=x2,l1:=x3,h1:=x4 }
def mkD (b:Bd) (os:List Ob) (a1 a2 a3 a4:List Int):Bd:={ b with objs:=os,s0:={ b.s0 with lib:=a1,hand:=a2 },s1:={ b.s1 with lib:=a3,hand:=a4 } }
theorem yK {n:Nat} (h:n + 1 < 2 ^ 63):ak (.bin .sub .int) [iV ((n + 1:Nat):Int),iV 1]=some (iV (n:Int)):=by
 simp only [ak,fh,eE,if_true]
 rw [gC (by omega) (by omega)]
 congr 3
 omega
theorem DO {b:Bd} (h:ar b=true) {p:Int} (hp:p=0∨p=1) {l:List Int} {id:Int} (hl:(aF b p).lib=l++[id]) :
  ∃ (k:Nat) (o:Ob),b.objs[k]?=some o∧o.id=id∧o.owner=p∧fM b id=k∧ar (Hm b p id)=true∧bm (Hm b p id) id=0∧zT (Hm b p id) id=k∧i64 id∧ka b p id=eB (Hm b p id) k (cw o 1)∧ar (ka b p id)=true:=by
 obtain ⟨_,m2,_,m4⟩:=Ij hp hl
 have hpl:=(aS h).1
 obtain ⟨k,o,e1,e2,e3⟩:=Ls hpl m4
 obtain ⟨v1,_,v3,_⟩:=dr hpl e1
 rw [e2] at v3
 have hmv:=OY h hp hl
 have hidx:fM (Hm b p id) id=k:=by rw [fM,m2];exact v3
 have hn:¬ ((k:Int) < 0):=by omega
 have hid:=wW v1
 have hd:ka b p id=eB (Hm b p id) k (cw o 1):=by
  simp only [ka,v3,Int.toNat_natCast,List.getD_eq_getElem?_getD,e1,Option.getD_some]
 refine ⟨k,o,e1,e2,e3,v3,hmv,by simp [bm,hmv,hidx,hn],by rw [zT,if_pos hmv,hidx,if_neg hn],by rw [← e2];omega,hd,?_⟩
 rw [hd]
 exact HF (o:=o) hmv (by rw [m2];exact e1) rfl rfl rfl (zG 1 v1)
theorem Td {H:Heap} {v:dG} {b:Bd} (h:BdS H v b) (hB:bdB b) (p n:Int) (hn1000:n≤1000):Triple PP Az [.agg (ao v b).toArray,iV p,iV n] H [] fun r _ O'=>∃ w,r=.tuple #[.agg (ao w (oL b p n).1).toArray,iV (oL b p n).2]∧OwnB tys w (oL b p n).1 O':=by
 refine EI (vs:=ao v b++[iV p,iV n]) (by kernel_rfl) (aE (ap (h.r [])) ⟨rfl,rfl,trivial⟩) ?_
 simp only [uC]
 refine af fun r0=>af fun r1=>?_
 refine ab ?_
 refine ai (dD (h.r [])) rfl ⟨rfl,trivial⟩ fun H1 l1=>aa _ (aJ _) (aj (fun hb=>?_) (fun hb=>?_))
 ·have e:oL b p n=(zBd,2):=by rw [oL,if_pos (by rw [vz hb];rfl)]
  refine ab (ab ?_)
  exact ah ⟨AP,by rw [e];rfl,by rw [e];exact OwnB.zero tys⟩
 have hval:ar b=true:=sN hb
 replace h:=h.le l1
 refine ai (dd p 0 1 H1 []) rfl ⟨rfl,trivial⟩ fun H2 l2=>?_
 refine aa _ (aJ _) (ae (aa _ (aI _ _) (ae (aa _ (aP _ _) ?_))))
 refine aj (fun hb=>?_) (fun hb=>?_)
 ·have e:oL b p n=(zBd,2):=by
   have hb:(!au p 0 1 || decide (n < 0))=true:=hb
   rw [oL,if_pos (by rw [hb];simp)]
  refine ab (ab ?_)
  exact ah ⟨AP,by rw [e];rfl,by rw [e];exact OwnB.zero tys⟩
 have hb:(!au p 0 1 || decide (n < 0))=false:=hb
 have e:oL b p n=(eu n.toNat b p,0):=by rw [oL,if_neg (by rw [hb,hval];simp)]
 simp only [Bool.or_eq_false_iff,Bool.not_eq_false',decide_eq_false_iff_not] at hb
 obtain ⟨hb1,hb2⟩:=hb
 have hp:p=0∨p=1:=by simp only [au,decide_eq_true_eq] at hb1;omega
 obtain ⟨n0,rfl⟩:∃ n0:Nat,n=n0:=⟨n.toNat,by omega⟩
 rw [Int.toNat_natCast] at e
 rw [e]
 clear e
 replace h:=h.le l2
 refine ab ?_
 refine ax (I4 h hB) ?_
 rintro _ H3 O3 ⟨w,rfl,ho⟩ l3
 refine ⟨ao w b,rfl,bM H3 ho,?_⟩
 rw [List.append_nil]
 obtain ⟨_,⟨m2,m3,_,_⟩,⟨m6,m7,_,_⟩,_⟩:=hB
 refine ab ?_
 rcases hp with rfl | rfl
 ·refine ⟨.i64,0,rfl,fun _=>?_,fun e=>absurd rfl e⟩
  refine ln (fun vs H' O'=>∃ (m:Nat) (x1 x2 x3 x4:Value) (os:List Ob) (a1 a2 a3 a4:List Int),vs=[iV m,x1,x2,x3,x4]∧m≤1000∧OwnB tys (wD w x1 x2 x3 x4) (mkD b os a1 a2 a3 a4) O'∧ar (mkD b os a1 a2 a3 a4)=true∧eu n0 b 0=eu m (mkD b os a1 a2 a3 a4) 0∧a1.length + a2.length≤4000000)
   (fun vs _ _=>match g vs 0 with | .int _ k=>k.toNat | _=>0) ⟨n0,_,_,_,_,b.objs,b.s0.lib,b.s0.hand,b.s1.lib,b.s1.hand,rfl,by omega,ho,hval,rfl,by omega⟩ ?_
  rintro vs H' O' - - - ⟨m,x1,x2,x3,x4,os,a1,a2,a3,a4,rfl,hm,hown,hv,hgo,hlen⟩
  refine aa _ (bN _ _) (aj (fun hb=>?_) (fun hb=>?_))
  ·have hb:=of_decide_eq_true hb
   obtain ⟨m',rfl⟩:∃ m':Nat,m=m' + 1:=⟨m - 1,by omega⟩
   have hR:=hown.r (fun p hp=>hp) H'
   have hl1:ak .len [x1]=some (iV a1.length):=by have:=hR.s0.lib.len;rwa [aG,List.length_map] at this
   refine ab ?_
   refine aa _ hl1 (aa _ (aC _ _) (aj (fun hb=>?_) (fun hb=>?_)))
   ·have h0:a1=[]:=by
     have:a1.length=0:=by simpa using hb
     exact List.eq_nil_of_length_eq_zero this
    subst h0
    have e:eu n0 b 0=bu (mkD b os [] a2 a3 a4) 0 { aF (mkD b os [] a2 a3 a4) 0 with empty:=true }:=by rw [hgo];rfl
    rw [e]
    refine ab (ab (ab (ab ?_)))
    refine ah ⟨wD w x1 x2 x3 x4,rfl,?_⟩
    obtain ⟨Oo,A0,B0,C0,D0,A1,B1,C1,D1,Os,Oq,Oa,Obk,hq,hh⟩:=hown
    exact ⟨Oo,A0,B0,C0,D0,A1,B1,C1,D1,Os,Oq,Oa,Obk,hq,⟨hh.objs,hh.l0,hh.h0,hh.f0,hh.g0,hh.l1,hh.h1,hh.f1,hh.g1,hh.stack,hh.queue,hh.att,hh.blocks⟩⟩
   ·obtain ⟨l,id,rfl⟩:∃ l id,a1=l++[id]:=by
     have hne:a1 ≠ []:=by rintro rfl;simp at hb
     exact ⟨a1.dropLast,a1.getLast hne,(List.dropLast_concat_getLast hne).symm⟩
    obtain ⟨k,ob,e1,e2,e3,e4,hmv,hE,hI,hid,hd,hdv⟩:=DO hv (p:=0) (.inl rfl) (l:=l) (id:=id) rfl
    have hll:(l++[id]).length=l.length + 1:=by simp
    rw [hll]
    have hls:l.length + 1 < 2 ^ 63:=by rw [hll] at hlen;omega
    refine ab ?_
    refine aa _ (yK hls) ?_
    obtain ⟨a,i1,i2,_,i3,i4⟩:=hR.s0.lib.idx .i64 l.length [iV id] (by show (aG (l++[id]))[l.length]?=_;simp [aG])
    refine aa _ i1 (aw i2 i3 i4 ?_)
    refine ab ?_
    refine aa _ (yK hls) ?_
    obtain ⟨A,R,hp1,hA,back⟩:=OwnB.pick_l0 hown
    have hA:OSl aM 1 x1 (aG (l++[id])) A:=hA
    obtain ⟨u,su,hu⟩:=hA.upto (i:=l.length) (by simp [aG])
    have hu:OSl aM 1 u (aG l) A:=by
     have:(aG (l++[id])).take l.length=aG l:=by simp [aG]
     rwa [this] at hu
    have ho1:=OwnB.perm (back u l A hu) hp1
    refine aa _ su ?_
    refine ab ?_
    refine af fun r2=>?_
    obtain ⟨A2,R2,hp2,hA2,back2⟩:=OwnB.pick_h0 ho1
    have hA2:OSl aM 1 x2 (aG a2) A2:=hA2
    refine aD (rows:=aG a2) (news:=[[iV id]]) (O1:=A2) (O2:=R2) (e:=aM) (size:=1) (bytes:=8) (by kernel_rfl) hp2 hA2 (fun Hf _ hf=>Sl.block1 (hf _ List.mem_cons_self) rfl ⟨rfl,trivial⟩) (by simp [aG];omega) (by simp [aG];omega) ?_
    intro y A' H6 l6 hA'
    have hA3:OSl aM 1 y (aG (a2++[id])) A':=by rw [aG,List.map_append];exact hA'
    have ho2:=back2 y (a2++[id]) A' hA3
    have emid:Hm (mkD b os (l++[id]) a2 a3 a4) 0 id=mkD b os l (a2++[id]) a3 a4:=by
     simp only [Hm,SR,bu,aF,mkD,if_true,List.dropLast_concat]
    rw [emid] at hmv hE hI hd
    have ho2:OwnB tys (wD w u y x3 x4) (mkD b os l (a2++[id]) a3 a4) (A'++R2):=ho2
    refine ab (ab (ab ?_))
    refine ai (ze (ho2.r (fun p hp=>hp) H6) hid) rfl ⟨rfl,rfl,trivial⟩ fun H7 l7=>?_
    rw [hI]
    refine ab (ab ?_)
    have e1':(mkD b os l (a2++[id]) a3 a4).objs[k]?=some ob:=e1
    obtain ⟨a5,k1,k2,_,k3,k4⟩:=(ho2.r (fun p hp=>hp) H7).objs.idx .i64 k (Ob.row ob) (by rw [List.getElem?_map,e1'];rfl)
    have k1:ak (.idx 12) [w.o,iV k]=some (.pointer (some a5)):=k1
    refine aa _ k1 (aw k2 k3 k4 ?_)
    refine ai (J2 ob 1 H7 _) rfl (vs:=(cw ob 1).row) (bG _) fun H8 l8=>?_
    obtain ⟨a6,q1,O1,q2,O2,q3,q4⟩:=OwnB.store_ob ho2 (X:=[]) (O':=A'++R2) (by simp) e1' (cw ob 1)
    have q1:ak (.idx 12) [w.o,iV k]=some (.pointer (some a6)):=q1
    rw [List.append_nil] at q3
    refine aa _ q1 ?_
    refine aK rfl ?_
    refine ⟨_,q2,?_⟩
    refine aa _ (yK (by omega)) ?_
    refine fj (by simp [Eqs]) ⟨m',u,y,x3,x4,os.set k (cw ob 1),l,(a2++[id]),a3,a4,rfl,by omega,OwnB.perm q4 q3,by rw [hd] at hdv;exact hdv,?_,by rw [hll] at hlen;simp only [List.length_append,List.length_cons,List.length_nil];omega⟩ ?_
    ·rw [hgo,eu]
     have egl:(aF (mkD b os (l++[id]) a2 a3 a4) 0).lib.getLast?=some id:=by
      show (l++[id]).getLast?=some id
      simp
     rw [egl]
     show eu m' (ka _ 0 id) 0=_
     rw [hd];rfl
    ·show ((m':Int)).toNat < (((m' + 1:Nat):Int)).toNat
     omega
  ·have hm0:m=0:=by have:=of_decide_eq_false hb;omega
   subst hm0
   have e:eu n0 b 0=mkD b os a1 a2 a3 a4:=by rw [hgo];rfl
   rw [e]
   refine ab (ab (ab ?_))
   exact ah ⟨wD w x1 x2 x3 x4,rfl,hown⟩
 ·refine ⟨.i64,1,rfl,fun e=>absurd e (by omega),fun _=>⟨.i64,1,rfl,fun _=>?_,fun e=>absurd rfl e⟩⟩
  refine ln (fun vs H' O'=>∃ (m:Nat) (x1 x2 x3 x4:Value) (os:List Ob) (a1 a2 a3 a4:List Int),vs=[iV m,x1,x2,x3,x4]∧m≤1000∧OwnB tys (wD w x1 x2 x3 x4) (mkD b os a1 a2 a3 a4) O'∧ar (mkD b os a1 a2 a3 a4)=true∧eu n0 b 1=eu m (mkD b os a1 a2 a3 a4) 1∧a3.length + a4.length≤4000000)
   (fun vs _ _=>match g vs 0 with | .int _ k=>k.toNat | _=>0) ⟨n0,_,_,_,_,b.objs,b.s0.lib,b.s0.hand,b.s1.lib,b.s1.hand,rfl,by omega,ho,hval,rfl,by omega⟩ ?_
  rintro vs H' O' - - - ⟨m,x1,x2,x3,x4,os,a1,a2,a3,a4,rfl,hm,hown,hv,hgo,hlen⟩
  refine aa _ (bN _ _) (aj (fun hb=>?_) (fun hb=>?_))
  ·have hb:=of_decide_eq_true hb
   obtain ⟨m',rfl⟩:∃ m':Nat,m=m' + 1:=⟨m - 1,by omega⟩
   have hR:=hown.r (fun p hp=>hp) H'
   have hl1:ak .len [x3]=some (iV a3.length):=by have:=hR.s1.lib.len;rwa [aG,List.length_map] at this
   refine ab ?_
   refine aa _ hl1 (aa _ (aC _ _) (aj (fun hb=>?_) (fun hb=>?_)))
   ·have h0:a3=[]:=by
     have:a3.length=0:=by simpa using hb
     exact List.eq_nil_of_length_eq_zero this
    subst h0
    have e:eu n0 b 1=bu (mkD b os a1 a2 [] a4) 1 { aF (mkD b os a1 a2 [] a4) 1 with empty:=true }:=by rw [hgo];rfl
    rw [e]
    refine ab (ab (ab (ab ?_)))
    refine ah ⟨wD w x1 x2 x3 x4,rfl,?_⟩
    obtain ⟨Oo,A0,B0,C0,D0,A1,B1,C1,D1,Os,Oq,Oa,Obk,hq,hh⟩:=hown
    exact ⟨Oo,A0,B0,C0,D0,A1,B1,C1,D1,Os,Oq,Oa,Obk,hq,⟨hh.objs,hh.l0,hh.h0,hh.f0,hh.g0,hh.l1,hh.h1,hh.f1,hh.g1,hh.stack,hh.queue,hh.att,hh.blocks⟩⟩
   ·obtain ⟨l,id,rfl⟩:∃ l id,a3=l++[id]:=by
     have hne:a3 ≠ []:=by rintro rfl;simp at hb
     exact ⟨a3.dropLast,a3.getLast hne,(List.dropLast_concat_getLast hne).symm⟩
    obtain ⟨k,ob,e1,e2,e3,e4,hmv,hE,hI,hid,hd,hdv⟩:=DO hv (p:=1) (.inr rfl) (l:=l) (id:=id) rfl
    have hll:(l++[id]).length=l.length + 1:=by simp
    rw [hll]
    have hls:l.length + 1 < 2 ^ 63:=by rw [hll] at hlen;omega
    refine ab ?_
    refine aa _ (yK hls) ?_
    obtain ⟨a,i1,i2,_,i3,i4⟩:=hR.s1.lib.idx .i64 l.length [iV id] (by show (aG (l++[id]))[l.length]?=_;simp [aG])
    refine aa _ i1 (aw i2 i3 i4 ?_)
    refine ab ?_
    refine aa _ (yK hls) ?_
    obtain ⟨A,R,hp1,hA,back⟩:=OwnB.pick_l1 hown
    have hA:OSl aM 1 x3 (aG (l++[id])) A:=hA
    obtain ⟨u,su,hu⟩:=hA.upto (i:=l.length) (by simp [aG])
    have hu:OSl aM 1 u (aG l) A:=by
     have:(aG (l++[id])).take l.length=aG l:=by simp [aG]
     rwa [this] at hu
    have ho1:=OwnB.perm (back u l A hu) hp1
    refine aa _ su ?_
    refine ab ?_
    refine af fun r2=>?_
    obtain ⟨A2,R2,hp2,hA2,back2⟩:=OwnB.pick_h1 ho1
    have hA2:OSl aM 1 x4 (aG a4) A2:=hA2
    refine aD (rows:=aG a4) (news:=[[iV id]]) (O1:=A2) (O2:=R2) (e:=aM) (size:=1) (bytes:=8) (by kernel_rfl) hp2 hA2 (fun Hf _ hf=>Sl.block1 (hf _ List.mem_cons_self) rfl ⟨rfl,trivial⟩) (by simp [aG];omega) (by simp [aG];omega) ?_
    intro y A' H6 l6 hA'
    have hA3:OSl aM 1 y (aG (a4++[id])) A':=by rw [aG,List.map_append];exact hA'
    have ho2:=back2 y (a4++[id]) A' hA3
    have emid:Hm (mkD b os a1 a2 (l++[id]) a4) 1 id=mkD b os a1 a2 l (a4++[id]):=by
     simp only [Hm,SR,bu,aF,mkD,show ¬ ((1:Int)=0) by omega,if_false,List.dropLast_concat]
    rw [emid] at hmv hE hI hd
    have ho2:OwnB tys (wD w x1 x2 u y) (mkD b os a1 a2 l (a4++[id])) (A'++R2):=ho2
    refine ab (ab (ab ?_))
    refine ai (ze (ho2.r (fun p hp=>hp) H6) hid) rfl ⟨rfl,rfl,trivial⟩ fun H7 l7=>?_
    rw [hI]
    refine ab (ab ?_)
    have e1':(mkD b os a1 a2 l (a4++[id])).objs[k]?=some ob:=e1
    obtain ⟨a5,k1,k2,_,k3,k4⟩:=(ho2.r (fun p hp=>hp) H7).objs.idx .i64 k (Ob.row ob) (by rw [List.getElem?_map,e1'];rfl)
    have k1:ak (.idx 12) [w.o,iV k]=some (.pointer (some a5)):=k1
    refine aa _ k1 (aw k2 k3 k4 ?_)
    refine ai (J2 ob 1 H7 _) rfl (vs:=(cw ob 1).row) (bG _) fun H8 l8=>?_
    obtain ⟨a6,q1,O1,q2,O2,q3,q4⟩:=OwnB.store_ob ho2 (X:=[]) (O':=A'++R2) (by simp) e1' (cw ob 1)
    have q1:ak (.idx 12) [w.o,iV k]=some (.pointer (some a6)):=q1
    rw [List.append_nil] at q3
    refine aa _ q1 ?_
    refine aK rfl ?_
    refine ⟨_,q2,?_⟩
    refine aa _ (yK (by omega)) ?_
    refine fj (by simp [Eqs]) ⟨m',x1,x2,u,y,os.set k (cw ob 1),a1,a2,l,(a4++[id]),rfl,by omega,OwnB.perm q4 q3,by rw [hd] at hdv;exact hdv,?_,by rw [hll] at hlen;simp only [List.length_append,List.length_cons,List.length_nil];omega⟩ ?_
    ·rw [hgo,eu]
     have egl:(aF (mkD b os a1 a2 (l++[id]) a4) 1).lib.getLast?=some id:=by
      show (l++[id]).getLast?=some id
      simp
     rw [egl]
     show eu m' (ka _ 1 id) 1=_
     rw [hd];rfl
    ·show ((m':Int)).toNat < (((m' + 1:Nat):Int)).toNat
     omega
  ·have hm0:m=0:=by have:=of_decide_eq_false hb;omega
   subst hm0
   have e:eu n0 b 1=mkD b os a1 a2 a3 a4:=by rw [hgo];rfl
   rw [e]
   refine ab (ab (ab ?_))
   exact ah ⟨wD w x1 x2 x3 x4,rfl,hown⟩
end Go.Proofs.YtdhobpmnkfmcfaaGreatDoor
namespace Go.Proofs.YtdhobpmnkfmcfaaGreatDoor
open Go Go.Sx
set_option maxRecDepth 100000
set_option maxHeartbeats 1000000
end Go.Proofs.YtdhobpmnkfmcfaaGreatDoor
namespace Go.Proofs.YtdhobpmnkfmcfaaGreatDoor
open Go Go.Sx
set_option maxRecDepth 100000
set_option maxHeartbeats 1000000
theorem Gh {b:Bd} (h:fO b=true):bdB b:=by
 simp only [fO,gJ,mL,Bool.and_eq_true,Bool.not_eq_true',decide_eq_true_eq,decide_eq_false_iff_not,List.all_eq_true] at h
 obtain ⟨⟨a1,a2,a3,a4⟩,⟨a5,a6,a7,a8⟩,⟨a9,a10⟩,⟨a11,a12⟩,⟨a13,a14⟩,a15⟩:=h
 refine ⟨by omega,⟨by omega,by omega,by omega,by omega⟩,⟨by omega,by omega,by omega,by omega⟩,⟨by omega,fun x hx=>?_⟩,⟨by omega,fun x hx=>?_⟩,by omega,by omega⟩
 ·have:=a10 x hx;omega
 ·have:=a12 x hx;omega
end Go.Proofs.YtdhobpmnkfmcfaaGreatDoor
namespace Go.Proofs.YtdhobpmnkfmcfaaGreatDoor
open Go Go.Sx
set_option maxRecDepth 100000
set_option maxHeartbeats 1000000
theorem Su (H:Heap):BdS H AP zBd :=
 ⟨Sl.nil H 12,⟨Sl.nil H 1,Sl.nil H 1,Sl.nil H 1,Sl.nil H 1⟩,⟨Sl.nil H 1,Sl.nil H 1,Sl.nil H 1,Sl.nil H 1⟩,⟨[],Sl.nil H 5,rfl,fun i r x h=>by simp at h⟩,⟨[],Sl.nil H 5,rfl,fun i r x h=>by simp at h⟩,Sl.nil H 1,Sl.nil H 2⟩
def QF (b:Bd) (o:Ob):Bd:=if 0≤fM b o.id then eB b (fM b o.id).toNat o else b
theorem Vh {H:Heap} {v:dG} {b:Bd} (h:BdS H v b) (hB:bdB b) (o:Ob):Triple PP kB [.agg (ao v b).toArray,.agg o.row.toArray] H [] fun r _ O'=>∃ w,r=.agg (ao w (QF b o)).toArray∧OwnB tys w (QF b o) O':=by
 refine u7 (vs:=ao v b++o.row) (by kernel_rfl) (aE (ap (h.r [])) (bG o)) ?_
 simp only [ke]
 refine af fun r0=>af fun r1=>af fun r2=>?_
 refine ab ?_
 refine ax (SI h hB) ?_
 rintro _ H3 O3 ⟨w,rfl,ho⟩ l3
 refine ⟨ao w b,rfl,bM H3 ho,?_⟩
 refine ab (ab (ab ?_))
 refine ai (CN (ho.r (fun p hp=>List.mem_append_left _ hp) H3) o.id) rfl ⟨rfl,trivial⟩ fun H4 l4=>aa _ (dt _ _) (aj (fun hb=>?_) (fun hb=>?_))
 ·have hb:=of_decide_eq_true hb
  obtain ⟨k,x,e1,e2,e3⟩:=xJ (b:=b) (id:=o.id) (by omega)
  have e:QF b o=eB b k o:=by simp [QF,e3]
  rw [e,e3]
  obtain ⟨a',q1,O1,q2,O2,q3,q4⟩:=OwnB.store_ob ho (X:=[]) (O':=O3++[]) (by simp) e1 o
  refine ab (ab ?_)
  refine aa _ q1 (aK rfl ⟨_,q2,?_⟩)
  refine ab (ab (ab ?_))
  exact ah ⟨w,rfl,OwnB.perm q4 (by simpa using q3)⟩
 ·have hb:=of_decide_eq_false hb
  have e:QF b o=b:=by rw [QF,if_neg (by omega)]
  rw [e]
  refine ab (ab (ab ?_))
  exact ah ⟨w,rfl,OwnB.perm ho (by simp)⟩
theorem V8 {H:Heap} {v:dG} {b:Bd} (h:BdS H v b) (hB:bdB b) (o:Ob):Triple PP kB [.agg (ao v b).toArray,.agg o.row.toArray] H [] fun r H' O'=>(∃ w,r=.agg (ao w (QF b o)).toArray∧BdS H' w (QF b o))∧O'=[] :=
 Triple.frozen (Vh h hB o)
theorem Rb {b:Bd} (h:ar b=true) (id:Int):∀ x ∈ b.stack,onR id x=mc id x:=by
 intro x hx
 have hf:=List.all_eq_true.1 (aS h).2.2.2 x hx
 have ht:=IJ hf
 simp only [onR,mc]
 by_cases hn:x.trig < 0
 ·simp [ht hn]
 ·have:¬ x.trig=-1:=by omega
  simp [hn,this]
end Go.Proofs.YtdhobpmnkfmcfaaGreatDoor
namespace Go.Proofs.YtdhobpmnkfmcfaaGreatDoor
open Go Go.Sx
set_option maxRecDepth 100000
set_option maxHeartbeats 1000000
theorem Vi (o:Ob) (H:Heap) (O:Own):RetO PP nR [.agg o.row.toArray] H O (.agg (Q1 o).row.toArray):=by
 refine tG (vs:=o.row) (by kernel_rfl) (bG o) ?_
 simp only [jx]
 refine af fun r0=>af fun r1=>?_
 repeat (first | refine ab ?_ | refine ae ?_)
 exact ah ⟨rfl,rfl⟩
theorem TO (o:Ob) (z:Int) (H:Heap) (O:Own):RetO PP mA [.agg o.row.toArray,iV z] H O (.agg (cw o z).row.toArray):=by
 refine sF (vs:=o.row++[iV z]) (by kernel_rfl) (aE (bG o) ⟨rfl,trivial⟩) ?_
 simp only [iP]
 refine af fun r0=>af fun r1=>?_
 refine ab ?_
 refine ai (Vi o H O) rfl (vs:=(Q1 o).row) (bG _) fun H1 l1=>?_
 refine ab ?_
 refine aa _ (aC _ _) ?_
 repeat (first | refine ab ?_ | refine ae ?_)
 exact ah ⟨rfl,rfl⟩
theorem zE {l:List Int} {i:Nat} (h:i < l.length) (id:Int):cQ (l.take (i + 1)) id=cQ (l.take i) id++(if l[i] != id then [l[i]] else []):=by
 rw [List.take_add_one,List.getElem?_eq_getElem h,cQ,List.filter_append]
 congr 1
 simp only [Option.toList_some,List.filter_cons,List.filter_nil]
theorem Ji (l:List Int) (id:Int):(cQ l id).length≤l.length:=List.length_filter_le _ _
theorem L9 {H:Heap} {v:Value} {l:List Int} (h:Sl H 1 v (aG l)) (hl:l.length≤1000000) (id:Int):Triple PP gh [v,iV id] H [] fun v' _ O'=>OSl aM 1 v' (aG (cQ l id)) O':=by
 refine pz (vs:=[v,iV id]) (by kernel_rfl) ⟨h.one,rfl,trivial⟩ ?_
 simp only [fW]
 have hlen:ak .len [v]=some (iV l.length):=by have:=h.len;rwa [aG,List.length_map] at this
 refine dn l.length (fun i x H' O'=>Heap.le H H'∧OSl aM 1 x (aG (cQ (l.take i) id)) O') ⟨Heap.le_refl _,OSl.nil _ _⟩ ?_
 rintro i x H' O' hi - ⟨hle,hx⟩
 refine aa _ hlen (aa _ (aI _ _) (aj (fun hb=>?_) (fun hb=>?_)))
 ·have hlt:i < l.length:=by simpa using hb
  obtain ⟨a,h1,h2,h3,h4⟩:=(h.le hle).idx (k:=.i64) (i:=i) (r:=[iV l[i]]) (by simp [aG,hlt])
  refine aa _ h1 (cY h2 h3 h4 (aa _ (ba _ _) (aj (fun hc=>?_) (fun hc=>?_))))
  ·refine aa _ h1 (cY h2 h3 h4 (af fun r0=>?_))
   have hw:(cQ (l.take i) id).length≤1000000:=Nat.le_trans (Ji _ _) (by rw [List.length_take];omega)
   refine aD (rows:=aG (cQ (l.take i) id)) (news:=[[iV l[i]]]) (O1:=O') (O2:=[]) (e:=aM) (size:=1) (bytes:=8) (by kernel_rfl) (by simp) hx (fun Hf _ hf=>Sl.block1 (hf _ List.mem_cons_self) rfl ⟨rfl,trivial⟩) (by simp [aG];omega) (by simp [aG];omega) ?_
   intro v' A' H6 l6 hA'
   refine aa _ (aA (by omega)) (aT (by simp [Eqs]) hlt ⟨Heap.le_trans hle l6,?_⟩)
   rw [List.append_nil,zE hlt,if_pos hc,aG,List.map_append];exact hA'
  ·refine aa _ (aA (by omega)) (aT (by simp [Eqs]) hlt ⟨hle,?_⟩)
   have hc:(l[i] != id)=false:=hc
   rw [zE hlt,if_neg (by rw [hc];simp),List.append_nil];exact hx
 ·have hge:l.length≤i:=by simpa using hb
  rw [List.take_of_length_le hge] at hx
  exact ah hx
theorem Triple.frozenS {P:Program} {f:FuncId} {args:List Value} {H:Heap} {e:TypeId} {size:Nat} {rows:List (List Value)} (h:Triple P f args H [] fun v _ O'=>OSl e size v rows O') :
  Triple P f args H [] fun v H' O'=>Sl H' size v rows∧O'=[]:=by
 refine h.ghost ?_
 intro v H' O' _ hc ho
 obtain ⟨H'',g,k,_⟩:=ho.freeze (X:=[]) (by simpa using hc)
 exact ⟨H'',[],by simpa using g,k,rfl⟩
theorem jP {H:Heap} {v:Value} {l:List Int} (h:Sl H 1 v (aG l)) (hl:l.length≤1000000) (id:Int):Triple PP gh [v,iV id] H [] fun v' H' O'=>Sl H' 1 v' (aG (cQ l id))∧O'=[] :=
 Triple.frozenS (L9 h hl id)
def NM (b:Bd) (id:Int):Bd:={ oG b id with stack:=b.stack.filter fun x=>!onR id x }
def prR (id:Int) (row:List Value):Bool:=(asI (g row 3) == some (-1)) && asI (g row 1) == some id
theorem T8 {b:Bd} (h:ar b=true) (id:Int):NM b id=oG b id:=by
 have:(b.stack.filter fun x=>!onR id x)=b.stack.filter fun x=>!mc id x:=List.filter_congr fun x hx=>by rw [Rb h id x hx]
 simp only [NM,oG,this]
theorem fg {α:Type} {p:α→Bool} {l:List α} {i:Nat} (h:i < l.length):(l.take (i + 1)).filter p=(l.take i).filter p++(if p l[i] then [l[i]] else []):=by
 rw [List.take_add_one,List.getElem?_eq_getElem h,List.filter_append]
 congr 1
 simp only [Option.toList_some,List.filter_cons,List.filter_nil]
theorem wn {P:Program} {lab key:Nat} {x0:Value} {body:(List Value→Heap→Own→Prop)→List Value→Tree} {H:Heap} {O:Own} {Q:Value→Heap→Own→Prop} (n:Nat) (R:Nat→Value→Heap→Own→Prop)
  (h0:Cons H O→∃ H1 O1,Ghost H O H1 O1∧R 0 x0 H1 O1) (step:∀ i x H' O',i≤n→Heap.le H H'→R i x H' O'→(body (NL (IY n R) (MY n) (n - i)) [x,iV i]).den P Q H' O') :
  (Tree.loop lab key [x0,iV 0] body).den P Q H O:=by
 refine ⟨IY n R,MY n,fun hc=>?_,?_⟩
 ·obtain ⟨H1,O1,g,r⟩:=h0 hc
  exact ⟨H1,O1,g,0,x0,rfl,Nat.zero_le _,r⟩
 ·rintro vs H' O' _ _ hle ⟨i,x,rfl,hi,hr⟩
  exact step i x H' O' hi hle hr
theorem Wa {H:Heap} {v:dG} {b:Bd} (h:BdS H v b) (hB:bdB b) (id:Int):Triple PP ot [.agg (ao v b).toArray,iV id] H [] fun r H' O'=>(∃ w,r=.agg (ao w (NM b id)).toArray∧BdS H' w (NM b id))∧O'=[]:=by
 refine vd (vs:=ao v b++[iV id]) (by kernel_rfl) (aE (ap (h.r [])) ⟨rfl,trivial⟩) ?_
 simp only [kh]
 have hB':=hB
 obtain ⟨b1,⟨b2,b3,b4,b5⟩,⟨b6,b7,b8,b9⟩,⟨b10,b10'⟩,b11,b12,b13⟩:=hB
 refine af fun r0=>af fun r1=>?_
 refine ab ?_
 refine ax (Triple.frozen (SI h hB')) ?_
 rintro _ H1 _ ⟨⟨w,rfl,hw⟩,rfl⟩ l1
 refine ⟨ao w b,rfl,ap (hw.r []),?_⟩
 repeat (first | refine ab ?_ | refine ae ?_)
 refine ax (jP hw.s0.lib b2 id) ?_
 rintro x0 K0 _ ⟨z0,rfl⟩ j0
 refine ⟨[x0],rfl,⟨z0.one,trivial⟩,?_⟩
 replace hw:=hw.le j0
 refine ax (jP hw.s0.hand b3 id) ?_
 rintro x1 K1 _ ⟨z1,rfl⟩ j1
 refine ⟨[x1],rfl,⟨z1.one,trivial⟩,?_⟩
 replace hw:=hw.le j1
 replace z0:=z0.le j1
 refine ax (jP hw.s0.field b4 id) ?_
 rintro x2 K2 _ ⟨z2,rfl⟩ j2
 refine ⟨[x2],rfl,⟨z2.one,trivial⟩,?_⟩
 replace hw:=hw.le j2
 replace z0:=z0.le j2
 replace z1:=z1.le j2
 refine ax (jP hw.s0.grave b5 id) ?_
 rintro x3 K3 _ ⟨z3,rfl⟩ j3
 refine ⟨[x3],rfl,⟨z3.one,trivial⟩,?_⟩
 replace hw:=hw.le j3
 replace z0:=z0.le j3
 replace z1:=z1.le j3
 replace z2:=z2.le j3
 repeat (first | refine ab ?_ | refine ae ?_)
 refine ax (jP hw.s1.lib b6 id) ?_
 rintro x4 K4 _ ⟨z4,rfl⟩ j4
 refine ⟨[x4],rfl,⟨z4.one,trivial⟩,?_⟩
 replace hw:=hw.le j4
 replace z0:=z0.le j4
 replace z1:=z1.le j4
 replace z2:=z2.le j4
 replace z3:=z3.le j4
 refine ax (jP hw.s1.hand b7 id) ?_
 rintro x5 K5 _ ⟨z5,rfl⟩ j5
 refine ⟨[x5],rfl,⟨z5.one,trivial⟩,?_⟩
 replace hw:=hw.le j5
 replace z0:=z0.le j5
 replace z1:=z1.le j5
 replace z2:=z2.le j5
 replace z3:=z3.le j5
 replace z4:=z4.le j5
 refine ax (jP hw.s1.field b8 id) ?_
 rintro x6 K6 _ ⟨z6,rfl⟩ j6
 refine ⟨[x6],rfl,⟨z6.one,trivial⟩,?_⟩
 replace hw:=hw.le j6
 replace z0:=z0.le j6
 replace z1:=z1.le j6
 replace z2:=z2.le j6
 replace z3:=z3.le j6
 replace z4:=z4.le j6
 replace z5:=z5.le j6
 refine ax (jP hw.s1.grave b9 id) ?_
 rintro x7 K7 _ ⟨z7,rfl⟩ j7
 refine ⟨[x7],rfl,⟨z7.one,trivial⟩,?_⟩
 replace hw:=hw.le j7
 replace z0:=z0.le j7
 replace z1:=z1.le j7
 replace z2:=z2.le j7
 replace z3:=z3.le j7
 replace z4:=z4.le j7
 replace z5:=z5.le j7
 replace z6:=z6.le j7
 have hsl:=ItsR.len (hw.r []).stack
 have hsone:=ItsR.one (hw.r []).stack
 obtain ⟨rows,hs,hrl,hit⟩:=hw.stack
 refine ab (ab (ab (ab ?_)))
 refine dn b.stack.length (fun i x H' O'=>Heap.le K7 H'∧OSl bB 5 x ((rows.take i).filter fun r=>!prR id r) O') ⟨Heap.le_refl _,OSl.nil _ _⟩ ?_
 rintro i x H' O' hi - ⟨hle,hx⟩
 refine ab ?_
 refine aa _ hsl (aa _ (aI _ _) (aj (fun hb=>?_) (fun hb=>?_)))
 ·have hlt:i < b.stack.length:=by simpa using hb
  have hlt2:i < rows.length:=by omega
  obtain ⟨s,hrow,hst⟩:=hit i rows[i] b.stack[i] (List.getElem?_eq_getElem hlt2) (List.getElem?_eq_getElem hlt)
  obtain ⟨a,h1,h2,h3,h4⟩:=(hs.le hle).idx (k:=.i64) (i:=i) (List.getElem?_eq_getElem hlt2)
  have hpr:prR id rows[i]=onR id b.stack[i]:=by
   rw [hrow]
   show ((some b.stack[i].trig == some (-1)) && (some b.stack[i].id == some id))=onR id b.stack[i]
   simp [onR]
  have hft:=fg (p:=fun r=>!prR id r) hlt2
  simp only [hpr] at hft
  rw [hrow] at h2 h3 h4
  refine ab ?_
  refine aa _ h1 (cY h2 h3 h4 (af fun r2=>?_))
  refine ab (ab (aa _ (ba _ _) (ab (ae (ae (ae (aa _ (ba _ _) (ae (aa _ (aP _ _) ?_)))))))))
  have hcond:(b.stack[i].trig != -1 || b.stack[i].id != id)=!onR id b.stack[i]:=by
   simp only [onR,bne,Bool.not_and]
  refine aj (fun hc=>?_) (fun hc=>?_)
  ·have hc:(b.stack[i].trig != -1 || b.stack[i].id != id)=true:=hc
   rw [hcond] at hc
   have hw1:((rows.take i).filter fun r=>!prR id r).length≤1000000:=Nat.le_trans (List.length_filter_le _ _) (by rw [List.length_take];omega)
   refine ab ?_
   refine af fun r3=>?_
   refine aD (rows:=(rows.take i).filter fun r=>!prR id r) (news:=[[iV b.stack[i].player,iV b.stack[i].id,iV b.stack[i].card,iV b.stack[i].trig,s]]) (O1:=O') (O2:=[]) (e:=bB) (size:=5) (bytes:=56) (by kernel_rfl) (by simp) hx
    (fun Hf _ hf=>Sl.block1 (hf _ List.mem_cons_self) rfl h4) (by simp;omega) (by simp;omega) ?_
   intro v' A' H6 l6 hA'
   refine aa _ (aA (by omega)) (aT (by simp [Eqs]) hlt ⟨Heap.le_trans hle l6,?_⟩)
   rw [List.append_nil,hft,if_pos hc,hrow];exact hA'
  ·have hc:(b.stack[i].trig != -1 || b.stack[i].id != id)=false:=hc
   rw [hcond] at hc
   refine aa _ (aA (by omega)) (aT (by simp [Eqs]) hlt ⟨hle,?_⟩)
   rw [hft,if_neg (by rw [hc];simp),List.append_nil];exact hx
 have hge:b.stack.length≤i:=by simpa using hb
 rw [List.take_of_length_le (by omega)] at hx
 clear hb
 have hbl:ak .len [w.b]=some (iV b.blocks.length):=by have:=hw.blocks.len;rwa [List.length_map] at this
 refine wn b.blocks.length (fun j y H2 O2=>Heap.le H' H2∧Sl H2 5 x (rows.filter fun r=>!prR id r)∧OSl bq 2 y (((b.blocks.take j).filter fun x=>!eR id x).map Bl.row) O2) (fun hc=>?_) ?_
 ·obtain ⟨H2,g,k,l2⟩:=hx.freeze (X:=[]) (by simpa using hc)
  exact ⟨H2,[],by simpa using g,l2,k,OSl.nil _ _⟩
 rintro j y H2 O2 hj - ⟨hle2,hxs,hy⟩
 refine ab ?_
 refine aa _ hbl (aa _ (aI _ _) (aj (fun hb=>?_) (fun hb=>?_)))
 ·have hlt:j < b.blocks.length:=by simpa using hb
  obtain ⟨a,h1,h2,h3,h4⟩:=(hw.blocks.le (Heap.le_trans hle hle2)).idx (k:=.i64) (i:=j) (r:=Bl.row b.blocks[j]) (by simp [hlt])
  have hft:=fg (p:=fun x=>!eR id x) hlt
  refine ab ?_
  refine aa _ h1 (cY h2 h3 h4 (af fun r2=>?_))
  refine ab (ab (aa _ (ba _ _) (ab (ae (ae (ae (aa _ (ba _ _) (ae (aa _ (aU _ _) ?_)))))))))
  have hcond:(b.blocks[j].blocker != id && b.blocks[j].attacker != id)=!eR id b.blocks[j]:=by
   simp only [eR,bne,Bool.not_or]
  refine aj (fun hc=>?_) (fun hc=>?_)
  ·have hc:(b.blocks[j].blocker != id && b.blocks[j].attacker != id)=true:=hc
   rw [hcond] at hc
   have hw1:((b.blocks.take j).filter fun x=>!eR id x).length≤1000000:=Nat.le_trans (List.length_filter_le _ _) (by rw [List.length_take];omega)
   refine ab ?_
   refine af fun r3=>?_
   refine aD (rows:=((b.blocks.take j).filter fun x=>!eR id x).map Bl.row) (news:=[Bl.row b.blocks[j]]) (O1:=O2) (O2:=[]) (e:=bq) (size:=2) (bytes:=16) (by kernel_rfl) (by simp) hy
    (fun Hf _ hf=>Sl.block1 (hf _ List.mem_cons_self) rfl h4) (by simp;omega) (by simp;omega) ?_
   intro v' A' H6 l6 hA'
   refine aa _ (aA (by omega)) (aT (by simp [Eqs]) hlt ⟨Heap.le_trans hle2 l6,hxs.le l6,?_⟩)
   rw [List.append_nil,hft,if_pos hc,List.map_append];exact hA'
  ·have hc:(b.blocks[j].blocker != id && b.blocks[j].attacker != id)=false:=hc
   rw [hcond] at hc
   refine aa _ (aA (by omega)) (aT (by simp [Eqs]) hlt ⟨hle2,hxs,?_⟩)
   rw [hft,if_neg (by rw [hc];simp),List.append_nil];exact hy
 have hge2:b.blocks.length≤j:=by simpa using hb
 rw [List.take_of_length_le hge2] at hy
 have lz:=Heap.le_trans hle hle2
 refine ab ?_
 refine ax (jP (hw.att.le lz) b12 id) ?_
 rintro x8 K8 _ ⟨z8,rfl⟩ j8
 refine ⟨[x8],rfl,⟨z8.one,trivial⟩,?_⟩
 have lz8:=Heap.le_trans lz j8
 repeat (first | refine ab ?_ | refine ae ?_)
 intro hc
 obtain ⟨H9,g9,k9,l9⟩:=hy.freeze (X:=[]) (hc.perm (by simp))
 have lz9:=Heap.le_trans lz8 l9
 obtain ⟨f1,f2⟩:=PY (p:=fun r=>!prR id r) (q:=fun x=>!onR id x) (R:=fun r (x:It)=>∃ s,r=[iV x.player,iV x.id,iV x.card,iV x.trig,s]∧Sl H9 2 s (x.tgs.map Tg.row)) (fun r x ⟨s,e,_⟩=>by
  rw [e]
  show (!((some x.trig == some (-1)) && (some x.id == some id)))=!onR id x
  simp [onR]) rows b.stack hrl fun i r x a c=>by
   obtain ⟨s,e,k⟩:=hit i r x a c
   exact ⟨s,e,k.le lz9⟩
 refine ⟨H9,[],(Ghost.perm (by simp)).trans g9,⟨⟨w.o,x0,x1,x2,x3,x4,x5,x6,x7,x,w.q,x8,y⟩,rfl,?_⟩,rfl⟩
 exact ⟨hw.objs.le lz9,⟨z0.le lz9,z1.le lz9,z2.le lz9,z3.le lz9⟩,⟨z4.le lz9,z5.le lz9,z6.le lz9,z7.le lz9⟩,⟨_,hxs.le (Heap.le_trans j8 l9),f1,f2⟩,hw.queue.le lz9,z8.le l9,k9⟩
theorem V9 {H:Heap} {v:dG} {b:Bd} (h:BdS H v b) (hB:bdB b) (o:Ob) (ho:o.owner=0∨o.owner=1) (z:Int):Triple PP oq [.agg (ao v b).toArray,.agg o.row.toArray,iV z] H [] fun r H' O'=>(∃ w,r=.agg (ao w (oD b o.owner z o.id)).toArray∧BdS H' w (oD b o.owner z o.id))∧O'=[]:=by
 refine u9 (vs:=ao v b++(o.row++[iV z])) (by kernel_rfl) (aE (ap (h.r [])) (aE (bG o) ⟨rfl,trivial⟩)) ?_
 simp only [kg]
 obtain ⟨b1,⟨b2,b3,b4,b5⟩,⟨b6,b7,b8,b9⟩,_⟩:=hB
 refine af fun r0=>af fun r1=>af fun r2=>?_
 refine ab ?_
 have el:g (ao v b++(o.row++[iV z])) 40=iV o.owner:=rfl
 rw [el]
 rcases ho with ho | ho
 ·rw [ho]
  refine ⟨.i64,0,rfl,fun _=>?_,fun e=>absurd rfl e⟩
  refine aa _ (aC _ _) (aj (fun hb=>?_) (fun n0=>?_))
  ·have hz:z=0:=by simpa using hb
   subst hz
   refine ab (ab ?_)
   refine dU (e:=aM) (size:=1) (bytes:=8) (by kernel_rfl) h.s0.lib (by simp [aG];omega) (by simp [aG];omega) fun xa Oa H1 lA pa=>?_
   refine af fun r3=>?_
   refine aD (rows:=aG b.s0.lib) (news:=[[iV o.id]]) (O1:=Oa) (O2:=[]) (e:=aM) (size:=1) (bytes:=8) (by kernel_rfl) (by simp) pa (fun Hf _ hf=>Sl.block1 (hf _ List.mem_cons_self) rfl ⟨rfl,trivial⟩) (by simp [aG];omega) (by simp [aG];omega) ?_
   intro v' A' H6 l6 hA'
   have hA2:OSl aM 1 v' (aG (b.s0.lib++[o.id])) A':=by rw [aG,List.map_append];exact hA'
   refine ab (ab (ab (ab ?_)))
   intro hc
   obtain ⟨H9,g9,kz,l9⟩:=hA2.freeze (X:=[]) (hc.perm (by simp))
   have lz:=Heap.le_trans lA (Heap.le_trans l6 l9)
   exact ⟨H9,[],(Ghost.perm (by simp)).trans g9,⟨{ v with l0:=v' },rfl,⟨(h.le lz).objs,⟨kz,(h.le lz).s0.hand,(h.le lz).s0.field,(h.le lz).s0.grave⟩,(h.le lz).s1,(h.le lz).stack,(h.le lz).queue,(h.le lz).att,(h.le lz).blocks⟩⟩,rfl⟩
  refine aa _ (aC _ _) (aj (fun hb=>?_) (fun n1=>?_))
  ·have hz:z=1:=by simpa using hb
   subst hz
   refine ab (ab ?_)
   refine dU (e:=aM) (size:=1) (bytes:=8) (by kernel_rfl) h.s0.hand (by simp [aG];omega) (by simp [aG];omega) fun xa Oa H1 lA pa=>?_
   refine af fun r3=>?_
   refine aD (rows:=aG b.s0.hand) (news:=[[iV o.id]]) (O1:=Oa) (O2:=[]) (e:=aM) (size:=1) (bytes:=8) (by kernel_rfl) (by simp) pa (fun Hf _ hf=>Sl.block1 (hf _ List.mem_cons_self) rfl ⟨rfl,trivial⟩) (by simp [aG];omega) (by simp [aG];omega) ?_
   intro v' A' H6 l6 hA'
   have hA2:OSl aM 1 v' (aG (b.s0.hand++[o.id])) A':=by rw [aG,List.map_append];exact hA'
   refine ab (ab (ab (ab ?_)))
   intro hc
   obtain ⟨H9,g9,kz,l9⟩:=hA2.freeze (X:=[]) (hc.perm (by simp))
   have lz:=Heap.le_trans lA (Heap.le_trans l6 l9)
   exact ⟨H9,[],(Ghost.perm (by simp)).trans g9,⟨{ v with h0:=v' },rfl,⟨(h.le lz).objs,⟨(h.le lz).s0.lib,kz,(h.le lz).s0.field,(h.le lz).s0.grave⟩,(h.le lz).s1,(h.le lz).stack,(h.le lz).queue,(h.le lz).att,(h.le lz).blocks⟩⟩,rfl⟩
  refine aa _ (aC _ _) (aj (fun hb=>?_) (fun n2=>?_))
  ·have hz:z=2:=by simpa using hb
   subst hz
   refine ab (ab ?_)
   refine dU (e:=aM) (size:=1) (bytes:=8) (by kernel_rfl) h.s0.field (by simp [aG];omega) (by simp [aG];omega) fun xa Oa H1 lA pa=>?_
   refine af fun r3=>?_
   refine aD (rows:=aG b.s0.field) (news:=[[iV o.id]]) (O1:=Oa) (O2:=[]) (e:=aM) (size:=1) (bytes:=8) (by kernel_rfl) (by simp) pa (fun Hf _ hf=>Sl.block1 (hf _ List.mem_cons_self) rfl ⟨rfl,trivial⟩) (by simp [aG];omega) (by simp [aG];omega) ?_
   intro v' A' H6 l6 hA'
   have hA2:OSl aM 1 v' (aG (b.s0.field++[o.id])) A':=by rw [aG,List.map_append];exact hA'
   refine ab (ab (ab (ab ?_)))
   intro hc
   obtain ⟨H9,g9,kz,l9⟩:=hA2.freeze (X:=[]) (hc.perm (by simp))
   have lz:=Heap.le_trans lA (Heap.le_trans l6 l9)
   exact ⟨H9,[],(Ghost.perm (by simp)).trans g9,⟨{ v with f0:=v' },rfl,⟨(h.le lz).objs,⟨(h.le lz).s0.lib,(h.le lz).s0.hand,kz,(h.le lz).s0.grave⟩,(h.le lz).s1,(h.le lz).stack,(h.le lz).queue,(h.le lz).att,(h.le lz).blocks⟩⟩,rfl⟩
  refine aa _ (aC _ _) (aj (fun hb=>?_) (fun n3=>?_))
  ·have hz:z=3:=by simpa using hb
   subst hz
   refine ab (ab ?_)
   refine dU (e:=aM) (size:=1) (bytes:=8) (by kernel_rfl) h.s0.grave (by simp [aG];omega) (by simp [aG];omega) fun xa Oa H1 lA pa=>?_
   refine af fun r3=>?_
   refine aD (rows:=aG b.s0.grave) (news:=[[iV o.id]]) (O1:=Oa) (O2:=[]) (e:=aM) (size:=1) (bytes:=8) (by kernel_rfl) (by simp) pa (fun Hf _ hf=>Sl.block1 (hf _ List.mem_cons_self) rfl ⟨rfl,trivial⟩) (by simp [aG];omega) (by simp [aG];omega) ?_
   intro v' A' H6 l6 hA'
   have hA2:OSl aM 1 v' (aG (b.s0.grave++[o.id])) A':=by rw [aG,List.map_append];exact hA'
   refine ab (ab (ab (ab ?_)))
   intro hc
   obtain ⟨H9,g9,kz,l9⟩:=hA2.freeze (X:=[]) (hc.perm (by simp))
   have lz:=Heap.le_trans lA (Heap.le_trans l6 l9)
   exact ⟨H9,[],(Ghost.perm (by simp)).trans g9,⟨{ v with g0:=v' },rfl,⟨(h.le lz).objs,⟨(h.le lz).s0.lib,(h.le lz).s0.hand,(h.le lz).s0.field,kz⟩,(h.le lz).s1,(h.le lz).stack,(h.le lz).queue,(h.le lz).att,(h.le lz).blocks⟩⟩,rfl⟩
  refine ab (ab (ab ?_))
  have e:oD b 0 z o.id=b:=by
   have n0:¬ z=0:=by simpa using n0
   have n1:¬ z=1:=by simpa using n1
   have n2:¬ z=2:=by simpa using n2
   have n3:¬ z=3:=by simpa using n3
   simp only [oD,Jw,n0,n1,n2,n3,if_false]
   rfl
  rw [e]
  exact ah ⟨⟨v,rfl,h⟩,rfl⟩
 ·rw [ho]
  refine ⟨.i64,1,rfl,fun e=>absurd e (by omega),fun _=>⟨.i64,1,rfl,fun _=>?_,fun e=>absurd rfl e⟩⟩
  refine aa _ (aC _ _) (aj (fun hb=>?_) (fun n0=>?_))
  ·have hz:z=0:=by simpa using hb
   subst hz
   refine ab (ab ?_)
   refine dU (e:=aM) (size:=1) (bytes:=8) (by kernel_rfl) h.s1.lib (by simp [aG];omega) (by simp [aG];omega) fun xa Oa H1 lA pa=>?_
   refine af fun r3=>?_
   refine aD (rows:=aG b.s1.lib) (news:=[[iV o.id]]) (O1:=Oa) (O2:=[]) (e:=aM) (size:=1) (bytes:=8) (by kernel_rfl) (by simp) pa (fun Hf _ hf=>Sl.block1 (hf _ List.mem_cons_self) rfl ⟨rfl,trivial⟩) (by simp [aG];omega) (by simp [aG];omega) ?_
   intro v' A' H6 l6 hA'
   have hA2:OSl aM 1 v' (aG (b.s1.lib++[o.id])) A':=by rw [aG,List.map_append];exact hA'
   refine ab (ab (ab (ab ?_)))
   intro hc
   obtain ⟨H9,g9,kz,l9⟩:=hA2.freeze (X:=[]) (hc.perm (by simp))
   have lz:=Heap.le_trans lA (Heap.le_trans l6 l9)
   exact ⟨H9,[],(Ghost.perm (by simp)).trans g9,⟨{ v with l1:=v' },rfl,⟨(h.le lz).objs,(h.le lz).s0,⟨kz,(h.le lz).s1.hand,(h.le lz).s1.field,(h.le lz).s1.grave⟩,(h.le lz).stack,(h.le lz).queue,(h.le lz).att,(h.le lz).blocks⟩⟩,rfl⟩
  refine aa _ (aC _ _) (aj (fun hb=>?_) (fun n1=>?_))
  ·have hz:z=1:=by simpa using hb
   subst hz
   refine ab (ab ?_)
   refine dU (e:=aM) (size:=1) (bytes:=8) (by kernel_rfl) h.s1.hand (by simp [aG];omega) (by simp [aG];omega) fun xa Oa H1 lA pa=>?_
   refine af fun r3=>?_
   refine aD (rows:=aG b.s1.hand) (news:=[[iV o.id]]) (O1:=Oa) (O2:=[]) (e:=aM) (size:=1) (bytes:=8) (by kernel_rfl) (by simp) pa (fun Hf _ hf=>Sl.block1 (hf _ List.mem_cons_self) rfl ⟨rfl,trivial⟩) (by simp [aG];omega) (by simp [aG];omega) ?_
   intro v' A' H6 l6 hA'
   have hA2:OSl aM 1 v' (aG (b.s1.hand++[o.id])) A':=by rw [aG,List.map_append];exact hA'
   refine ab (ab (ab (ab ?_)))
   intro hc
   obtain ⟨H9,g9,kz,l9⟩:=hA2.freeze (X:=[]) (hc.perm (by simp))
   have lz:=Heap.le_trans lA (Heap.le_trans l6 l9)
   exact ⟨H9,[],(Ghost.perm (by simp)).trans g9,⟨{ v with h1:=v' },rfl,⟨(h.le lz).objs,(h.le lz).s0,⟨(h.le lz).s1.lib,kz,(h.le lz).s1.field,(h.le lz).s1.grave⟩,(h.le lz).stack,(h.le lz).queue,(h.le lz).att,(h.le lz).blocks⟩⟩,rfl⟩
  refine aa _ (aC _ _) (aj (fun hb=>?_) (fun n2=>?_))
  ·have hz:z=2:=by simpa using hb
   subst hz
   refine ab (ab ?_)
   refine dU (e:=aM) (size:=1) (bytes:=8) (by kernel_rfl) h.s1.field (by simp [aG];omega) (by simp [aG];omega) fun xa Oa H1 lA pa=>?_
   refine af fun r3=>?_
   refine aD (rows:=aG b.s1.field) (news:=[[iV o.id]]) (O1:=Oa) (O2:=[]) (e:=aM) (size:=1) (bytes:=8) (by kernel_rfl) (by simp) pa (fun Hf _ hf=>Sl.block1 (hf _ List.mem_cons_self) rfl ⟨rfl,trivial⟩) (by simp [aG];omega) (by simp [aG];omega) ?_
   intro v' A' H6 l6 hA'
   have hA2:OSl aM 1 v' (aG (b.s1.field++[o.id])) A':=by rw [aG,List.map_append];exact hA'
   refine ab (ab (ab (ab ?_)))
   intro hc
   obtain ⟨H9,g9,kz,l9⟩:=hA2.freeze (X:=[]) (hc.perm (by simp))
   have lz:=Heap.le_trans lA (Heap.le_trans l6 l9)
   exact ⟨H9,[],(Ghost.perm (by simp)).trans g9,⟨{ v with f1:=v' },rfl,⟨(h.le lz).objs,(h.le lz).s0,⟨(h.le lz).s1.lib,(h.le lz).s1.hand,kz,(h.le lz).s1.grave⟩,(h.le lz).stack,(h.le lz).queue,(h.le lz).att,(h.le lz).blocks⟩⟩,rfl⟩
  refine aa _ (aC _ _) (aj (fun hb=>?_) (fun n3=>?_))
  ·have hz:z=3:=by simpa using hb
   subst hz
   refine ab (ab ?_)
   refine dU (e:=aM) (size:=1) (bytes:=8) (by kernel_rfl) h.s1.grave (by simp [aG];omega) (by simp [aG];omega) fun xa Oa H1 lA pa=>?_
   refine af fun r3=>?_
   refine aD (rows:=aG b.s1.grave) (news:=[[iV o.id]]) (O1:=Oa) (O2:=[]) (e:=aM) (size:=1) (bytes:=8) (by kernel_rfl) (by simp) pa (fun Hf _ hf=>Sl.block1 (hf _ List.mem_cons_self) rfl ⟨rfl,trivial⟩) (by simp [aG];omega) (by simp [aG];omega) ?_
   intro v' A' H6 l6 hA'
   have hA2:OSl aM 1 v' (aG (b.s1.grave++[o.id])) A':=by rw [aG,List.map_append];exact hA'
   refine ab (ab (ab (ab ?_)))
   intro hc
   obtain ⟨H9,g9,kz,l9⟩:=hA2.freeze (X:=[]) (hc.perm (by simp))
   have lz:=Heap.le_trans lA (Heap.le_trans l6 l9)
   exact ⟨H9,[],(Ghost.perm (by simp)).trans g9,⟨{ v with g1:=v' },rfl,⟨(h.le lz).objs,(h.le lz).s0,⟨(h.le lz).s1.lib,(h.le lz).s1.hand,(h.le lz).s1.field,kz⟩,(h.le lz).stack,(h.le lz).queue,(h.le lz).att,(h.le lz).blocks⟩⟩,rfl⟩
  refine ab (ab (ab ?_))
  have e:oD b 1 z o.id=b:=by
   have n0:¬ z=0:=by simpa using n0
   have n1:¬ z=1:=by simpa using n1
   have n2:¬ z=2:=by simpa using n2
   have n3:¬ z=3:=by simpa using n3
   simp only [oD,Jw,n0,n1,n2,n3,if_false]
   rfl
  rw [e]
  exact ah ⟨⟨v,rfl,h⟩,rfl⟩
theorem Vm {b:Bd} (h:bdB b) (id:Int):bdB (NM b id):=by
 have:=SJ h id
 exact ⟨this.1,this.2.1,this.2.2.1,⟨Nat.le_trans (List.length_filter_le _ _) h.2.2.2.1.1,fun x hx=>h.2.2.2.1.2 x (List.mem_filter.1 hx).1⟩,this.2.2.2.2⟩
theorem TE {b:Bd} (h:bdB b) (k:Nat) (o:Ob):bdB (eB b k o):=⟨by simpa [eB] using h.1,h.2⟩
def Rm (b:Bd) (k:Nat) (o:Ob) (z:Int):Bd:=oD (eB (NM b o.id) k o) o.owner z o.id
theorem Vj {H:Heap} {v:dG} {b:Bd} (h:BdS H v b) (hB:bdB b) {k:Nat} {o:Ob} (hk:b.objs[k]?=some o) (hidx:fM b o.id=k) (ho:o.owner=0∨o.owner=1) (z:Int) :
  Triple PP jB [.agg (ao v b).toArray,iV o.id,iV z] H [] fun r H' O'=>(∃ w,r=.agg (ao w (Rm b k (cw o z) z)).toArray∧BdS H' w (Rm b k (cw o z) z))∧O'=[]:=by
 refine tA (vs:=ao v b++[iV o.id,iV z]) (by kernel_rfl) (aE (ap (h.r [])) ⟨rfl,rfl,trivial⟩) ?_
 simp only [jt]
 refine af fun r0=>af fun r1=>?_
 refine ab (ab ?_)
 refine ai (CN (h.r []) o.id) rfl ⟨rfl,trivial⟩ fun H1 l1=>?_
 rw [hidx]
 replace h:=h.le l1
 obtain ⟨a,h1,h2,_,h3,h4⟩:=(h.r []).objs.idx .i64 k (Ob.row o) (by rw [List.getElem?_map,hk];rfl)
 refine aa _ h1 (aw h2 h3 h4 ?_)
 refine ai (TO o z H1 []) rfl (vs:=(cw o z).row) (bG _) fun H2 l2=>af fun r2=>?_
 replace h:=h.le l2
 refine ab (ab (ab (ab ?_)))
 refine ax (Wa h hB o.id) ?_
 rintro _ H3 _ ⟨⟨w1,rfl,hw1⟩,rfl⟩ l3
 refine ⟨ao w1 (NM b o.id),rfl,ap (hw1.r []),?_⟩
 have hB1:=Vm hB o.id
 refine ax (V8 hw1 hB1 (cw o z)) ?_
 have hset:QF (NM b o.id) (cw o z)=eB (NM b o.id) k (cw o z):=by
  have:fM (NM b o.id) (cw o z).id=k:=hidx
  simp only [QF,this,Int.toNat_natCast]
  rw [if_pos (by omega)]
 rw [hset]
 rintro _ H4 _ ⟨⟨w2,rfl,hw2⟩,rfl⟩ l4
 refine ⟨ao w2 (eB (NM b o.id) k (cw o z)),rfl,ap (hw2.r []),?_⟩
 refine ax (V9 hw2 (TE hB1 _ _) (cw o z) ho z) ?_
 rintro _ H5 _ ⟨⟨w3,rfl,hw3⟩,rfl⟩ l5
 refine ⟨ao w3 _,rfl,ap (hw3.r []),?_⟩
 refine ab (ab ?_)
 exact ah ⟨⟨w3,rfl,hw3⟩,rfl⟩
end Go.Proofs.YtdhobpmnkfmcfaaGreatDoor
namespace Go.Proofs.YtdhobpmnkfmcfaaGreatDoor
open Go Go.Sx
set_option maxRecDepth 100000
set_option maxHeartbeats 1000000
end Go.Proofs.YtdhobpmnkfmcfaaGreatDoor
namespace Go.Proofs.YtdhobpmnkfmcfaaGreatDoor
open Go Go.Sx
set_option maxRecDepth 100000
set_option maxHeartbeats 1000000
end Go.Proofs.YtdhobpmnkfmcfaaGreatDoor
namespace Go.Proofs.YtdhobpmnkfmcfaaGreatDoor
open Go Go.Sx
set_option maxRecDepth 100000
set_option maxHeartbeats 1000000
theorem Ln {H:Heap} {O:Own} {v:Value} {ks:List Int} (h:KindS H v ks) (c:Int) :
  (∃ x:Bool,(x=true ↔ (c < 0∨c ≥ (ks.length:Int)))∧ak .len [v]=some (iV ks.length)∧x=(decide (c < 0) || decide (c ≥ (ks.length:Int)))) ∧
  (¬ (c < 0∨c ≥ (ks.length:Int))→∃ a r,ak (.idx 14) [v,iV c]=some (.pointer (some a))∧H.read (.pointer (some a)) 14=some r∧r.length=14∧Ones r∧g r 1=iV (Fz ks c)):=by
 obtain ⟨rows,h1,h2,h3⟩:=h
 refine ⟨⟨_,?_,?_,rfl⟩,fun hn=>?_⟩
 ·simp
 ·have:=h1.len;rw [this,h2]
 ·have hlt:c.toNat < rows.length:=by omega
  obtain ⟨a,k1,k2,k3,k4⟩:=h1.idx (k:=.i64) (i:=c.toNat) (List.getElem?_eq_getElem hlt)
  have hk:ks[c.toNat]?=some (ks.getD c.toNat 0):=by
   rw [List.getD_eq_getElem?_getD,List.getElem?_eq_getElem (by omega)];rfl
  have e:=h3 c.toNat _ _ (List.getElem?_eq_getElem hlt) hk
  refine ⟨a,_,?_,k2,k3,k4,?_⟩
  ·rw [show iV c=iV (c.toNat:Int) by rw [Int.toNat_of_nonneg (by omega)]];exact k1
  ·rw [e,Fz,if_neg hn]
theorem CJ {r:List Value} (h:r.length=14):([g r 0,g r 1,g r 2,g r 3,g r 4,g r 5,g r 6,g r 7,g r 8,g r 9,g r 10,g r 11,g r 12,g r 13]:List Value)=r:=KD h
abbrev Jh:List Value:=[.string ⟨#[]⟩,iV 0,iV 0,iV 0,iV 0,iV 0,iV 0,iV 0,iV 0,iV 0,iV 0,.slice none 0 0,.slice none 0 0,iV 0]
def VO (ks:List Int) (c:Int) (r:Value) (_:Heap):Prop:=∃ cells:List Value,r=.agg cells.toArray∧cells.length=14∧Ones cells∧g cells 1=iV (Fz ks c)
theorem Vz {H:Heap} {O:Own} {v:Value} {ks:List Int} (h:KindS H v ks) (o:Ob):Triple PP mU [v,.agg o.row.toArray] H O fun r H' O'=>VO ks o.card r H'∧O'=O:=by
 refine nh (vs:=v::o.row) (by kernel_rfl) ⟨h.one,bG o⟩ ?_
 simp only [km]
 obtain ⟨⟨x,hx,hlen,ex⟩,hlook⟩:=Ln (O:=O) h o.card
 refine af fun r0=>af fun r1=>?_
 refine ab ?_
 refine aa _ (aI _ _) ?_
 refine ab (ae (ae ?_))
 refine aa _ hlen ?_
 refine ae (ae (aa _ (eY _ _) (ae (aa _ (aP _ _) ?_))))
 refine aj (fun hb=>?_) (fun hb=>?_)
 ·have hb:(decide (o.card < 0) || decide (o.card ≥ (ks.length:Int)))=true:=hb
  rw [← ex] at hb
  refine ab (ab ?_)
  refine ah ⟨⟨Jh,rfl,rfl,⟨rfl,rfl,rfl,rfl,rfl,rfl,rfl,rfl,rfl,rfl,rfl,rfl,rfl,rfl,trivial⟩,?_⟩,rfl⟩
  rw [Fz,if_pos (hx.1 hb)];rfl
 ·have hb:(decide (o.card < 0) || decide (o.card ≥ (ks.length:Int)))=false:=hb
  rw [← ex] at hb
  obtain ⟨a,r,k1,k2,k3,k4,k5⟩:=hlook (fun e=>by rw [hx.2 e] at hb;cases hb)
  refine ab ?_
  refine aa _ k1 (aw (gQ k2) k3 k4 ?_)
  refine ab (ab ?_)
  exact ah ⟨⟨r,by rw [← CJ k3];rfl,k3,k4,k5⟩,rfl⟩
theorem Vk {H:Heap} {O:Own} {v:Value} {ks:List Int} (h:KindS H v ks) (o:Ob):Triple PP jD [v,.agg o.row.toArray] H O fun r H' O'=>VO ks o.card r H'∧O'=O:=by
 refine lw (vs:=v::o.row) (by kernel_rfl) ⟨h.one,bG o⟩ ?_
 simp only [fw]
 obtain ⟨⟨x,hx,hlen,ex⟩,hlook⟩:=Ln (O:=O) h o.card
 refine af fun r0=>af fun r1=>?_
 refine ab ?_
 refine aa _ (aI _ _) ?_
 refine ab (ae (ae ?_))
 refine aa _ hlen ?_
 refine ae (ae (aa _ (eY _ _) (ae (aa _ (aP _ _) ?_))))
 refine aj (fun hb=>?_) (fun hb=>?_)
 ·have hb:(decide (o.card < 0) || decide (o.card ≥ (ks.length:Int)))=true:=hb
  rw [← ex] at hb
  refine ab (ab ?_)
  refine ah ⟨⟨Jh,rfl,rfl,⟨rfl,rfl,rfl,rfl,rfl,rfl,rfl,rfl,rfl,rfl,rfl,rfl,rfl,rfl,trivial⟩,?_⟩,rfl⟩
  rw [Fz,if_pos (hx.1 hb)];rfl
 ·have hb:(decide (o.card < 0) || decide (o.card ≥ (ks.length:Int)))=false:=hb
  rw [← ex] at hb
  obtain ⟨a,r,k1,k2,k3,k4,k5⟩:=hlook (fun e=>by rw [hx.2 e] at hb;cases hb)
  refine ab ?_
  refine aa _ k1 (aw (gQ k2) k3 k4 ?_)
  refine ab (ab ?_)
  exact ah ⟨⟨r,by rw [← CJ k3];rfl,k3,k4,k5⟩,rfl⟩
theorem FV {H:Heap} {O:Own} {v:Value} {ks:List Int} (h:KindS H v ks) (o:Ob):RetO PP qo [v,.agg o.row.toArray] H O (.bool (eU ks o)):=by
 refine vX (vs:=v::o.row) (by kernel_rfl) ⟨h.one,bG o⟩ ?_
 simp only [li]
 refine af fun r0=>?_
 refine ab ?_
 refine aa _ (aC _ _) (aj (fun hb=>ah ⟨?_,rfl⟩) (fun hb=>?_))
 ·have hb:(o.card == -1)=true:=hb
  rw [eU,hb];rfl
 ·have hb:(o.card == -1)=false:=hb
  refine ab ?_
  refine wq (Vz h o) ?_
  rintro _ H1 ⟨cells,rfl,k1,k2,k3⟩ l1
  refine ⟨cells,by simp [Shp.open,k1],k2,?_⟩
  dsimp only
  rw [k3]
  refine aa _ (aC _ _) ?_
  refine ah ⟨?_,rfl⟩
  rw [eU,hb];rfl
theorem E2 {H:Heap} {O:Own} {v:Value} {ks:List Int} (h:KindS H v ks) (o:Ob):RetO PP kD [v,.agg o.row.toArray] H O (.bool (eU ks o)):=by
 refine oz (vs:=v::o.row) (by kernel_rfl) ⟨h.one,bG o⟩ ?_
 simp only [fu]
 refine af fun r0=>?_
 refine ab ?_
 refine aa _ (aC _ _) (aj (fun hb=>ah ⟨?_,rfl⟩) (fun hb=>?_))
 ·have hb:(o.card == -1)=true:=hb
  rw [eU,hb];rfl
 ·have hb:(o.card == -1)=false:=hb
  refine ab ?_
  refine wq (Vk h o) ?_
  rintro _ H1 ⟨cells,rfl,k1,k2,k3⟩ l1
  refine ⟨cells,by simp [Shp.open,k1],k2,?_⟩
  dsimp only
  rw [k3]
  refine aa _ (aC _ _) ?_
  refine ah ⟨?_,rfl⟩
  rw [eU,hb];rfl
def y3 (ks:List Int) (b:Bd) (p:Int) (o:Ob):Bool:=o.owner == p && (eU ks o && (aF b p).field.contains o.id)
def jI (ks:List Int) (b:Bd) (p:Int):List Int:=if (au p 0 1 && ar b)=true then (b.objs.filter (y3 ks b p)).map (·.id) else []
theorem I2 {H:Heap} {cv:Value} {ks:List Int} (hk:KindS H cv ks) {v:dG} {b:Bd} (h:BdS H v b) (p:Int) :
  Triple PP lm [cv,.agg (ao v b).toArray,iV p] H [] fun r _ O'=>OSl aM 1 r (aG (jI ks b p)) O':=by
 refine wa (vs:=cv::(ao v b++[iV p])) (by kernel_rfl) ⟨hk.one,aE (ap (h.r [])) ⟨rfl,trivial⟩⟩ ?_
 simp only [ll]
 refine af fun r0=>?_
 refine ai (dd p 0 1 H []) rfl ⟨rfl,trivial⟩ fun H1 l1=>aa _ (aJ _) (aj (fun hb=>?_) (fun hb=>?_))
 ·have e:jI ks b p=[]:=by rw [jI,if_neg];rw [show au p 0 1=false from vz hb];simp
  rw [e]
  exact ah (OSl.nil _ _)
 have hw:au p 0 1=true:=sN hb
 replace h:=h.le l1
 replace hk:=hk.le l1
 refine ab ?_
 refine ai (dD (h.r [])) rfl ⟨rfl,trivial⟩ fun H2 l2=>aa _ (aJ _) (aj (fun hb=>?_) (fun hb=>?_))
 ·have e:jI ks b p=[]:=by rw [jI,if_neg];rw [show ar b=false from vz hb];simp
  rw [e]
  exact ah (OSl.nil _ _)
 have hv:ar b=true:=sN hb
 have hobl:=wV hv
 have e:jI ks b p=(b.objs.filter (y3 ks b p)).map (·.id):=by rw [jI,if_pos (by rw [hw,hv];rfl)]
 rw [e]
 clear hb e
 replace h:=h.le l2
 replace hk:=hk.le l2
 have lo:=h.objs.len
 rw [List.length_map] at lo
 have hp:p=0∨p=1:=by simp only [au,decide_eq_true_eq] at hw;omega
 refine ab ?_
 refine aa _ lo ?_
 refine dn b.objs.length (fun i x H' O'=>Heap.le H2 H'∧OSl aM 1 x (aG (((b.objs.take i).filter (y3 ks b p)).map (·.id))) O') ⟨Heap.le_refl _,OSl.nil _ _⟩ ?_
 rintro i x H' O' hi - ⟨hle,hx⟩
 refine aa _ (aI _ _) (aj (fun hb=>?_) (fun hb=>?_))
 ·have hlt:i < b.objs.length:=by simpa using hb
  obtain ⟨a,i1,i2,i3,i4⟩:=(h.objs.le hle).idx (k:=.i64) (i:=i) (r:=Ob.row b.objs[i]) (by simp [hlt])
  have hft:=fg (p:=y3 ks b p) hlt
  have hnot:y3 ks b p b.objs[i]=false→∀ H3,Heap.le H' H3→(Heap.le H2 H3∧OSl aM 1 x (aG (((b.objs.take (i + 1)).filter (y3 ks b p)).map (·.id))) O'):=fun hn H3 l3=>by
   rw [hft,if_neg (by rw [hn];simp),List.append_nil];exact ⟨Heap.le_trans hle l3,hx⟩
  refine aa _ i1 (cY i2 i3 i4 (af fun r1=>?_))
  refine ab (ab ?_)
  refine aa _ (aC _ _) ?_
  refine aj (fun h1=>?_) (fun h1=>?_)
  ·have h1:(b.objs[i].owner == p)=true:=h1
   refine ab ?_
   refine ai (FV (hk.le hle) b.objs[i]) rfl ⟨rfl,trivial⟩ fun H3 l3=>aj (fun h2=>?_) (fun h2=>?_)
   ·have lz:=Heap.le_trans hle l3
    rcases hp with rfl | rfl
    ·refine ⟨.i64,0,rfl,fun _=>?_,fun e=>absurd rfl e⟩
     refine ab (ab ?_)
     refine ai (eF (((h.s0.field).le lz).rsl O') b.objs[i].id) rfl ⟨rfl,trivial⟩ fun H4 l4=>aj (fun h3=>?_) (fun h3=>?_)
     ·have hcr:y3 ks b 0 b.objs[i]=true:=by rw [y3,h1,h2];exact h3
      have hlen:((b.objs.take i).filter (y3 ks b 0)).length≤1000000:=Nat.le_trans (List.length_filter_le _ _) (by rw [List.length_take];omega)
      refine ab ?_
      refine af fun r2=>?_
      refine aD (rows:=aG (((b.objs.take i).filter (y3 ks b 0)).map fun o:Ob=>o.id)) (news:=[[iV b.objs[i].id]]) (O1:=O') (O2:=[]) (e:=aM) (size:=1) (bytes:=8) (by kernel_rfl) (by simp) hx (fun Hf _ hf=>Sl.block1 (hf _ List.mem_cons_self) rfl ⟨rfl,trivial⟩) (by simp [aG];omega) (by simp [aG];omega) ?_
      intro v' A' H6 l6 hA'
      refine aa _ (aA (by omega)) (aT (by simp [Eqs]) hlt ⟨Heap.le_trans lz (Heap.le_trans l4 l6),?_⟩)
      rw [List.append_nil,hft,if_pos hcr,List.map_append,aG,List.map_append];exact hA'
     ·have hcr:y3 ks b 0 b.objs[i]=false:=by rw [y3,h1,h2];exact h3
      exact aa _ (aA (by omega)) (aT (by simp [Eqs]) hlt (hnot hcr _ (Heap.le_trans l3 l4)))
    ·refine ⟨.i64,1,rfl,fun e=>absurd e (by omega),fun _=>⟨.i64,1,rfl,fun _=>?_,fun e=>absurd rfl e⟩⟩
     refine ab (ab ?_)
     refine ai (eF (((h.s1.field).le lz).rsl O') b.objs[i].id) rfl ⟨rfl,trivial⟩ fun H4 l4=>aj (fun h3=>?_) (fun h3=>?_)
     ·have hcr:y3 ks b 1 b.objs[i]=true:=by rw [y3,h1,h2];exact h3
      have hlen:((b.objs.take i).filter (y3 ks b 1)).length≤1000000:=Nat.le_trans (List.length_filter_le _ _) (by rw [List.length_take];omega)
      refine ab ?_
      refine af fun r2=>?_
      refine aD (rows:=aG (((b.objs.take i).filter (y3 ks b 1)).map fun o:Ob=>o.id)) (news:=[[iV b.objs[i].id]]) (O1:=O') (O2:=[]) (e:=aM) (size:=1) (bytes:=8) (by kernel_rfl) (by simp) hx (fun Hf _ hf=>Sl.block1 (hf _ List.mem_cons_self) rfl ⟨rfl,trivial⟩) (by simp [aG];omega) (by simp [aG];omega) ?_
      intro v' A' H6 l6 hA'
      refine aa _ (aA (by omega)) (aT (by simp [Eqs]) hlt ⟨Heap.le_trans lz (Heap.le_trans l4 l6),?_⟩)
      rw [List.append_nil,hft,if_pos hcr,List.map_append,aG,List.map_append];exact hA'
     ·have hcr:y3 ks b 1 b.objs[i]=false:=by rw [y3,h1,h2];exact h3
      exact aa _ (aA (by omega)) (aT (by simp [Eqs]) hlt (hnot hcr _ (Heap.le_trans l3 l4)))
   ·have hcr:y3 ks b p b.objs[i]=false:=by rw [y3,h1,h2];rfl
    exact aa _ (aA (by omega)) (aT (by simp [Eqs]) hlt (hnot hcr _ l3))
  ·have h1:(b.objs[i].owner == p)=false:=h1
   have hcr:y3 ks b p b.objs[i]=false:=by rw [y3,h1];rfl
   exact aa _ (aA (by omega)) (aT (by simp [Eqs]) hlt (hnot hcr _ (Heap.le_refl _)))
 ·have hge:b.objs.length≤i:=by simpa using hb
  rw [List.take_of_length_le hge] at hx
  exact ah hx
theorem J3 {H:Heap} {cv:Value} {ks:List Int} (hk:KindS H cv ks) {v:dG} {b:Bd} (h:BdS H v b) (p:Int) :
  Triple PP lm [cv,.agg (ao v b).toArray,iV p] H [] fun r H' O'=>Sl H' 1 r (aG (jI ks b p))∧O'=[]:=Triple.frozenS (I2 hk h p)
end Go.Proofs.YtdhobpmnkfmcfaaGreatDoor
namespace Go.Proofs.YtdhobpmnkfmcfaaGreatDoor
open Go Go.Sx
set_option maxRecDepth 100000
set_option maxHeartbeats 1000000
theorem Af {P:Program} {lab n i:Nat} {R:Nat→Value→Heap→Own→Prop} {x:Value} {eqs:List (List Value × List Value)} {H:Heap} {O:Own} {Q:Value→Heap→Own→Prop} (he:Eqs eqs) (hi:i < n) (hr:Cons H O→∃ H3 O3,Ghost H O H3 O3∧R (i + 1) x H3 O3) :
  (Tree.cont lab (NL (IY n R) (MY n) (n - i)) [x,iV ((i + 1:Nat):Int)] eqs).den P Q H O:=by
 refine ⟨he,fun hc=>?_⟩
 obtain ⟨H3,O3,g,r⟩:=hr hc
 refine ⟨H3,O3,g,⟨i + 1,x,rfl,hi,r⟩,?_⟩
 show n - ((i + 1:Nat):Int).toNat < n - i
 simp;omega
theorem HD {l:List Int} {i:Nat} (h:i < l.length):ox (l.take (i + 1))=JK l[i] (ox (l.take i)):=by
 rw [List.take_add_one,List.getElem?_eq_getElem h,ox,Option.toList_some,List.foldl_append];rfl
theorem Gs {H:Heap} {v:Value} {l:List Int} (h:Sl H 1 v (aG l)) (hl:l.length≤4000000):Triple PP lM [v] H [] fun r H' O'=>Sl H' 1 r (aG (ox l))∧O'=[]:=by
 refine qF (vs:=[v]) (by kernel_rfl) ⟨h.one,trivial⟩ ?_
 simp only [hU]
 have hlen:ak .len [v]=some (iV l.length):=by have:=h.len;rwa [aG,List.length_map] at this
 refine dn l.length (fun i x H' O'=>O'=[]∧Heap.le H H'∧Sl H' 1 x (aG (ox (l.take i)))) ⟨rfl,Heap.le_refl _,Sl.nil H 1⟩ ?_
 rintro i x H' O' hi - ⟨rfl,hle,hx⟩
 refine aa _ hlen (aa _ (aI _ _) (aj (fun hb=>?_) (fun hb=>?_)))
 ·have hlt:i < l.length:=by simpa using hb
  generalize hout:ox (l.take i)=out at hx
  have hol:out.length≤4000000:=by rw [← hout,w9,List.length_take];omega
  have xlen:ak .len [x]=some (iV out.length):=by have:=hx.len;rwa [aG,List.length_map] at this
  obtain ⟨a,h1,h2,h3,h4⟩:=(h.le hle).idx (k:=.i64) (i:=i) (r:=[iV l[i]]) (by simp [aG,hlt])
  refine aX out.length (fun k H2 O2=>O2=[]∧Heap.le H' H2∧∀ (j:Nat) (y:Int),j < k→out[j]?=some y→decide (y < l[i])=true) ⟨rfl,Heap.le_refl _,fun j y hj=>absurd hj (Nat.not_lt_zero j)⟩ ?_
  rintro k H2 O2 hk - ⟨rfl,hle2,hall⟩
  refine aa _ xlen (aa _ (aI _ _) ?_)
  refine ae (ae ?_)
  have hfin:(∀ y,out[k]?=some y→decide (y < l[i])=false)→JK l[i] out=out.take k++(l[i]::out.drop k):=fun hno=>by
   obtain ⟨w1,w2⟩:=Kr hk hall hno
   rw [JK,w1,w2]
  rcases Nat.lt_or_ge k out.length with hkl | hkl
  ·obtain ⟨a2,k1,k2,k3,k4⟩:=(hx.le hle2).idx (k:=.i64) (i:=k) (r:=[iV out[k]]) (by simp [aG,hkl])
   refine ⟨.pointer (some a2),fun _=>k1,.inr rfl,?_⟩
   refine ae ?_
   refine ⟨[iV out[k]],rfl,⟨rfl,trivial⟩,fun _=>.inl k2,?_⟩
   refine ae (ae ?_)
   refine ⟨.pointer (some a),fun _=>h1,.inr rfl,?_⟩
   refine ae ?_
   refine ⟨[iV l[i]],rfl,⟨rfl,trivial⟩,fun _=>.inl (hle2.read h2),?_⟩
   refine ae (ae ?_)
   refine aa _ (aI _ _) ?_
   refine ae ?_
   refine aa _ (aU _ _) ?_
   have hkd:decide ((k:Int) < (out.length:Int))=true:=by simp [hkl]
   rw [hkd,Bool.true_and]
   refine aj (fun hc=>?_) (fun hc=>?_)
   ·refine aa _ (aA (by omega)) (aR (by simp [Eqs]) hkl ⟨rfl,hle2,fun j y hj e=>?_⟩)
    rcases Nat.lt_or_ge j k with hjk | hjk
    ·exact hall j y hjk e
    ·have:j=k:=by omega
     subst this
     rw [List.getElem?_eq_getElem hkl] at e
     obtain rfl:=Option.some.inj e
     exact hc
   ·have hins:=hfin fun y e=>by
     rw [List.getElem?_eq_getElem hkl] at e
     obtain rfl:=Option.some.inj e
     exact hc
    refine aa _ h1 (cY (hle2.read h2) h3 h4 ?_)
    obtain ⟨u1,e1,s1⟩:=(hx.le hle2).from (i:=k) (by simp [aG];omega)
    obtain ⟨u2,e2,s2⟩:=(hx.le hle2).upto (i:=k) (by simp [aG];omega)
    refine aa _ e1 (af fun r0=>?_)
    refine nz (ad:=⟨r0,0,none⟩) (rows:=[[iV l[i]]]) (news:=(aG out).drop k) (size:=1) (e:=aM) (by kernel_rfl) (fun Hf _ hf=>Sl.block1 (hf _ List.mem_cons_self) rfl ⟨rfl,trivial⟩) s1 (by rw [show lg PP aM=8 by kernel_rfl];simp [aG];omega) (by simp [aG];omega) fun v1 H3 l3 hv1=>?_
    refine aa _ e2 ?_
    refine dU (e:=aM) (size:=1) (bytes:=8) (by kernel_rfl) (s2.le l3) (by simp [aG];omega) (by simp [aG];omega) fun xa Oa H4 lA pa=>?_
    refine aD (rows:=(aG out).take k) (news:=[[iV l[i]]]++(aG out).drop k) (O1:=Oa) (O2:=[]) (e:=aM) (size:=1) (bytes:=8) (by kernel_rfl) (by simp) pa (fun Hf lf _=>(hv1.le lA).le lf) (by simp [aG];omega) (by simp [aG];omega) ?_
    intro v' A' H6 l6 hA'
    refine aa _ (aA (by omega)) (Af (by simp [Eqs]) hlt fun hc=>?_)
    obtain ⟨H9,g9,kz,l9⟩:=hA'.freeze (X:=[]) (hc.perm (by simp))
    refine ⟨H9,[],(Ghost.perm (by simp)).trans g9,rfl,Heap.le_trans hle (Heap.le_trans hle2 (Heap.le_trans l3 (Heap.le_trans lA (Heap.le_trans l6 l9)))),?_⟩
    have hrows:aG (ox (l.take (i + 1)))=(aG out).take k++([[iV l[i]]]++(aG out).drop k):=by
     rw [HD hlt,hout,hins,aG,aG,List.map_append,List.map_cons,List.map_take,List.map_drop];rfl
    rw [hrows];exact kz
  ·have hkd:decide ((k:Int) < (out.length:Int))=false:=by simp;omega
   have hoff:∀ {P:Prop},On [(Value.bool (decide ((k:Int) < (out.length:Int))),true)]→P:=fun ho=>by
    have:=ho.1
    rw [hkd] at this
    cases this
   refine ⟨.pointer (some a),fun ho=>hoff ho,.inr rfl,?_⟩
   refine ae ?_
   refine ⟨[iV 0],rfl,⟨rfl,trivial⟩,fun ho=>hoff ho,?_⟩
   refine ae (ae ?_)
   refine ⟨.pointer (some a),fun _=>h1,.inr rfl,?_⟩
   refine ae ?_
   refine ⟨[iV l[i]],rfl,⟨rfl,trivial⟩,fun _=>.inl (hle2.read h2),?_⟩
   refine ae (ae ?_)
   refine aa _ (aI _ _) ?_
   refine ae ?_
   refine aa _ (aU _ _) ?_
   rw [hkd,Bool.false_and]
   refine aj (fun hc=>by cases hc) (fun hc=>?_)
   have hins:=hfin fun y e=>by
    have:=(List.getElem?_eq_some_iff.1 e).1
    omega
   refine aa _ h1 (cY (hle2.read h2) h3 h4 ?_)
   obtain ⟨u1,e1,s1⟩:=(hx.le hle2).from (i:=k) (by simp [aG];omega)
   obtain ⟨u2,e2,s2⟩:=(hx.le hle2).upto (i:=k) (by simp [aG];omega)
   refine aa _ e1 (af fun r0=>?_)
   refine nz (ad:=⟨r0,0,none⟩) (rows:=[[iV l[i]]]) (news:=(aG out).drop k) (size:=1) (e:=aM) (by kernel_rfl) (fun Hf _ hf=>Sl.block1 (hf _ List.mem_cons_self) rfl ⟨rfl,trivial⟩) s1 (by rw [show lg PP aM=8 by kernel_rfl];simp [aG];omega) (by simp [aG];omega) fun v1 H3 l3 hv1=>?_
   refine aa _ e2 ?_
   refine dU (e:=aM) (size:=1) (bytes:=8) (by kernel_rfl) (s2.le l3) (by simp [aG];omega) (by simp [aG];omega) fun xa Oa H4 lA pa=>?_
   refine aD (rows:=(aG out).take k) (news:=[[iV l[i]]]++(aG out).drop k) (O1:=Oa) (O2:=[]) (e:=aM) (size:=1) (bytes:=8) (by kernel_rfl) (by simp) pa (fun Hf lf _=>(hv1.le lA).le lf) (by simp [aG];omega) (by simp [aG];omega) ?_
   intro v' A' H6 l6 hA'
   refine aa _ (aA (by omega)) (Af (by simp [Eqs]) hlt fun hc=>?_)
   obtain ⟨H9,g9,kz,l9⟩:=hA'.freeze (X:=[]) (hc.perm (by simp))
   refine ⟨H9,[],(Ghost.perm (by simp)).trans g9,rfl,Heap.le_trans hle (Heap.le_trans hle2 (Heap.le_trans l3 (Heap.le_trans lA (Heap.le_trans l6 l9)))),?_⟩
   have hrows:aG (ox (l.take (i + 1)))=(aG out).take k++([[iV l[i]]]++(aG out).drop k):=by
    rw [HD hlt,hout,hins,aG,aG,List.map_append,List.map_cons,List.map_take,List.map_drop];rfl
   rw [hrows];exact kz
 ·have hge:l.length≤i:=by simpa using hb
  rw [List.take_of_length_le hge] at hx
  exact ah ⟨hx,rfl⟩
def Qb (ks:List Int) (b:Bd) (p:Int):List Int:=ox ((aF b p).field.filter fun id=>eU ks (b.objs.getD (fM b id).toNat zO))
theorem wt {P:Program} {f:FuncId} {args:List Value} {H:Heap} {O:Own} {e:TypeId} {size:Nat} {x:Value} {rows:List (List Value)} {R:Value→Heap→Own→Prop} {shp:Shp} {K:List Value→List (List Value)→Heap→Own→Prop}
  (hx:OSl e size x rows O) (h:∀ Hf,Sl Hf size x rows→Triple P f args Hf [] R) (hk:∀ v H' ,R v H' []→Heap.le H H'→∃ vs,shp.open v=some vs∧Ones vs∧K vs [] H' []) (hR:∀ v H' O',R v H' O'→O'=[]:=by rintro _ _ _ ⟨_,rfl⟩;rfl) :
  dZ (fun H1 O1 R=>Triple P f args H1 O1 R) false [] [] shp K H O:=by
 intro hc
 obtain ⟨Hf,g,hs,hl⟩:=hx.freeze (X:=[]) (by simpa using hc)
 refine ⟨Hf,[],[],R,(by rw [List.append_nil] at g;exact g:Ghost H O Hf []),h Hf hs,fun v H' O' hr hle=>?_⟩
 obtain rfl:=hR v H' O' hr
 obtain ⟨vs,h1,h2,h3⟩:=hk v H' hr (Heap.le_trans hl hle)
 exact ⟨vs,[],[],h1,h2,trivial,rfl,h3⟩
theorem CO {H:Heap} {cv:Value} {ks:List Int} (hk:KindS H cv ks) {v:dG} {b:Bd} (h:BdS H v b) (hB:bdB b) (p:Int) (hp:p=0∨p=1) (hthere:∀ q,p=q→∀ id ∈ (aF b q).field,¬ fM b id < 0) :
  Triple PP jL [cv,.agg (ao v b).toArray,iV p] H [] fun r H' O'=>Sl H' 1 r (aG (Qb ks b p))∧O'=[]:=by
 refine nT (vs:=cv::(ao v b++[iV p])) (by kernel_rfl) ⟨hk.one,aE (ap (h.r [])) ⟨rfl,trivial⟩⟩ ?_
 simp only [eV]
 refine af fun r0=>?_
 rcases hp with rfl | rfl
 ·refine ⟨.i64,0,rfl,fun _=>?_,fun e=>absurd rfl e⟩
  have hfl:ak .len [v.f0]=some (iV b.s0.field.length):=by have:=h.s0.field.len;rwa [aG,List.length_map] at this
  have hbl:b.s0.field.length≤1000000:=by obtain ⟨_,⟨_,_,x1,_⟩,⟨_,_,x2,_⟩,_⟩:=hB;omega
  refine ab ?_
  refine aa _ hfl ?_
  refine wn b.s0.field.length (fun i x H' O'=>Heap.le H H'∧OSl aM 1 x (aG ((b.s0.field.take i).filter fun id=>eU ks (b.objs.getD (fM b id).toNat zO))) O') (fun _=>⟨H,[],Ghost.refl _ _,Heap.le_refl _,OSl.nil _ _⟩) ?_
  rintro i x H' O' hi - ⟨hle,hx⟩
  refine aa _ (aI _ _) (aj (fun hb=>?_) (fun hb=>?_))
  ·have hlt:i < b.s0.field.length:=by simpa using hb
   obtain ⟨a,i1,i2,i3,i4⟩:=(h.s0.field.le hle).idx (k:=.i64) (i:=i) (r:=[iV b.s0.field[i]]) (by simp [aG,hlt])
   have hft:=fg (p:=fun id=>eU ks (b.objs.getD (fM b id).toNat zO)) hlt
   obtain ⟨k,ob,e1,e2,e3⟩:=xJ (hthere 0 rfl b.s0.field[i] (List.getElem_mem hlt))
   have hob:b.objs.getD (fM b b.s0.field[i]).toNat zO=ob:=by rw [e3,Int.toNat_natCast,List.getD_eq_getElem?_getD,e1];rfl
   rw [hob] at hft
   refine aa _ i1 (cY i2 i3 i4 ?_)
   refine ab (ab ?_)
   refine ai (CN ((h.le hle).r O') b.s0.field[i]) rfl ⟨rfl,trivial⟩ fun H2 l2=>?_
   rw [e3]
   have lz:=Heap.le_trans hle l2
   obtain ⟨a2,k1,k2,k3,k4⟩:=(h.objs.le lz).idx (k:=.i64) (i:=k) (r:=Ob.row ob) (by rw [List.getElem?_map,e1];rfl)
   refine aa _ k1 (cY k2 k3 k4 ?_)
   refine ai (E2 (hk.le lz) ob) rfl ⟨rfl,trivial⟩ fun H3 l3=>aj (fun hc=>?_) (fun hc=>?_)
   ·have hc:eU ks ob=true:=hc
    have hlen:((b.s0.field.take i).filter fun id=>eU ks (b.objs.getD (fM b id).toNat zO)).length≤1000000:=Nat.le_trans (List.length_filter_le _ _) (by rw [List.length_take];omega)
    refine af fun r2=>?_
    refine aD (rows:=aG ((b.s0.field.take i).filter fun id=>eU ks (b.objs.getD (fM b id).toNat zO))) (news:=[[iV b.s0.field[i]]]) (O1:=O') (O2:=[]) (e:=aM) (size:=1) (bytes:=8) (by kernel_rfl) (by simp) hx (fun Hf _ hf=>Sl.block1 (hf _ List.mem_cons_self) rfl ⟨rfl,trivial⟩) (by rw [aG,List.length_map,List.length_singleton];omega) (by rw [aG,List.length_map,List.length_singleton];omega) ?_
    intro v' A' H6 l6 hA'
    refine aa _ (aA (by omega)) (aT (by simp [Eqs]) hlt ⟨Heap.le_trans lz (Heap.le_trans l3 l6),?_⟩)
    rw [List.append_nil,hft,if_pos hc,aG,List.map_append];exact hA'
   ·have hc:eU ks ob=false:=hc
    refine aa _ (aA (by omega)) (aT (by simp [Eqs]) hlt ⟨Heap.le_trans lz l3,?_⟩)
    rw [hft,if_neg (by rw [hc];simp),List.append_nil];exact hx
  ·have hge:b.s0.field.length≤i:=by simpa using hb
   rw [List.take_of_length_le hge] at hx
   have hlen:(b.s0.field.filter fun id=>eU ks (b.objs.getD (fM b id).toNat zO)).length≤1000000:=Nat.le_trans (List.length_filter_le _ _) hbl
   refine wt hx (fun Hf hs=>Gs hs (by omega)) ?_
   rintro r H2 ⟨hr,-⟩ l2
   refine ⟨[r],rfl,⟨hr.one,trivial⟩,?_⟩
   exact ah ⟨hr,rfl⟩
 ·refine ⟨.i64,1,rfl,fun e=>absurd e (by omega),fun _=>⟨.i64,1,rfl,fun _=>?_,fun e=>absurd rfl e⟩⟩
  have hfl:ak .len [v.f1]=some (iV b.s1.field.length):=by have:=h.s1.field.len;rwa [aG,List.length_map] at this
  have hbl:b.s1.field.length≤1000000:=by obtain ⟨_,⟨_,_,x1,_⟩,⟨_,_,x2,_⟩,_⟩:=hB;omega
  refine ab ?_
  refine aa _ hfl ?_
  refine wn b.s1.field.length (fun i x H' O'=>Heap.le H H'∧OSl aM 1 x (aG ((b.s1.field.take i).filter fun id=>eU ks (b.objs.getD (fM b id).toNat zO))) O') (fun _=>⟨H,[],Ghost.refl _ _,Heap.le_refl _,OSl.nil _ _⟩) ?_
  rintro i x H' O' hi - ⟨hle,hx⟩
  refine aa _ (aI _ _) (aj (fun hb=>?_) (fun hb=>?_))
  ·have hlt:i < b.s1.field.length:=by simpa using hb
   obtain ⟨a,i1,i2,i3,i4⟩:=(h.s1.field.le hle).idx (k:=.i64) (i:=i) (r:=[iV b.s1.field[i]]) (by simp [aG,hlt])
   have hft:=fg (p:=fun id=>eU ks (b.objs.getD (fM b id).toNat zO)) hlt
   obtain ⟨k,ob,e1,e2,e3⟩:=xJ (hthere 1 rfl b.s1.field[i] (List.getElem_mem hlt))
   have hob:b.objs.getD (fM b b.s1.field[i]).toNat zO=ob:=by rw [e3,Int.toNat_natCast,List.getD_eq_getElem?_getD,e1];rfl
   rw [hob] at hft
   refine aa _ i1 (cY i2 i3 i4 ?_)
   refine ab (ab ?_)
   refine ai (CN ((h.le hle).r O') b.s1.field[i]) rfl ⟨rfl,trivial⟩ fun H2 l2=>?_
   rw [e3]
   have lz:=Heap.le_trans hle l2
   obtain ⟨a2,k1,k2,k3,k4⟩:=(h.objs.le lz).idx (k:=.i64) (i:=k) (r:=Ob.row ob) (by rw [List.getElem?_map,e1];rfl)
   refine aa _ k1 (cY k2 k3 k4 ?_)
   refine ai (E2 (hk.le lz) ob) rfl ⟨rfl,trivial⟩ fun H3 l3=>aj (fun hc=>?_) (fun hc=>?_)
   ·have hc:eU ks ob=true:=hc
    have hlen:((b.s1.field.take i).filter fun id=>eU ks (b.objs.getD (fM b id).toNat zO)).length≤1000000:=Nat.le_trans (List.length_filter_le _ _) (by rw [List.length_take];omega)
    refine af fun r2=>?_
    refine aD (rows:=aG ((b.s1.field.take i).filter fun id=>eU ks (b.objs.getD (fM b id).toNat zO))) (news:=[[iV b.s1.field[i]]]) (O1:=O') (O2:=[]) (e:=aM) (size:=1) (bytes:=8) (by kernel_rfl) (by simp) hx (fun Hf _ hf=>Sl.block1 (hf _ List.mem_cons_self) rfl ⟨rfl,trivial⟩) (by rw [aG,List.length_map,List.length_singleton];omega) (by rw [aG,List.length_map,List.length_singleton];omega) ?_
    intro v' A' H6 l6 hA'
    refine aa _ (aA (by omega)) (aT (by simp [Eqs]) hlt ⟨Heap.le_trans lz (Heap.le_trans l3 l6),?_⟩)
    rw [List.append_nil,hft,if_pos hc,aG,List.map_append];exact hA'
   ·have hc:eU ks ob=false:=hc
    refine aa _ (aA (by omega)) (aT (by simp [Eqs]) hlt ⟨Heap.le_trans lz l3,?_⟩)
    rw [hft,if_neg (by rw [hc];simp),List.append_nil];exact hx
  ·have hge:b.s1.field.length≤i:=by simpa using hb
   rw [List.take_of_length_le hge] at hx
   have hlen:(b.s1.field.filter fun id=>eU ks (b.objs.getD (fM b id).toNat zO)).length≤1000000:=Nat.le_trans (List.length_filter_le _ _) hbl
   refine wt hx (fun Hf hs=>Gs hs (by omega)) ?_
   rintro r H2 ⟨hr,-⟩ l2
   refine ⟨[r],rfl,⟨hr.one,trivial⟩,?_⟩
   exact ah ⟨hr,rfl⟩
theorem wk {b:Bd} (h:ar b=true) {p:Int} (hp:p=0∨p=1) {id:Int} (hid:id ∈ (aF b p).field):∃ (k:Nat) (o:Ob),b.objs[k]?=some o∧o.id=id∧o.owner=p∧fM b id=k:=by
 have hpl:=(aS h).1
 have hm:(id,p) ∈ aL b:=by
  rcases hp with rfl | rfl
  ·have hid:id ∈ b.s0.field:=hid
   simp [aL,cB,hid]
  ·have hid:id ∈ b.s1.field:=hid
   simp [aL,cB,hid]
 obtain ⟨k,o,e1,e2,e3⟩:=Ls hpl hm
 obtain ⟨_,_,v3,_⟩:=dr hpl e1
 exact ⟨k,o,e1,e2,e3,by rw [← e2];exact v3⟩
theorem lB:∀ {l:List Ob} {prev:Option Int},E9 prev l=true→(l.map (·.id)).Pairwise (· < ·)
 | [],_,_=>List.Pairwise.nil
 | a::l,prev,h=>by
  simp only [E9,Bool.and_eq_true] at h
  rw [List.map_cons,List.pairwise_cons]
  refine ⟨fun x hx=>?_,lB h.2⟩
  obtain ⟨o,ho,rfl⟩:=List.mem_map.1 hx
  exact (nl h.2).1 o ho _ rfl
theorem LD (ks:List Int) {b:Bd} (h:ar b=true) {p:Int} (hp:p=0∨p=1):Qb ks b p=jI ks b p:=by
 have hw:au p 0 1=true:=by simp only [au,decide_eq_true_eq];omega
 rw [jI,if_pos (by rw [hw,h];rfl),Qb]
 obtain ⟨p1,_,_⟩:=fc (aS h).1
 have hfn:(aF b p).field.Nodup:=by
  obtain ⟨a,c⟩:=zN (aS h).1
  rcases hp with rfl | rfl
  ·exact a
  ·exact c
 refine yL (zJ (hfn.filter _)) ?_ fun x=>?_
 ·exact (lB p1).sublist ((List.filter_sublist (l:=b.objs)).map _)
 ·rw [(uR _).mem_iff,List.mem_filter,List.mem_map]
  constructor
  ·rintro ⟨hx,hc⟩
   obtain ⟨k,o,e1,e2,e3,e4⟩:=wk h hp hx
   have hob:b.objs.getD (fM b x).toNat zO=o:=by rw [e4,Int.toNat_natCast,List.getD_eq_getElem?_getD,e1];rfl
   rw [hob] at hc
   refine ⟨o,List.mem_filter.2 ⟨List.mem_of_getElem? e1,?_⟩,e2⟩
   rw [y3,e3,hc,e2]
   simpa using hx
  ·rintro ⟨o,ho,rfl⟩
   obtain ⟨ho,hc⟩:=List.mem_filter.1 ho
   simp only [y3,Bool.and_eq_true,beq_iff_eq,List.contains_iff_mem] at hc
   obtain ⟨h1,h2,h3⟩:=hc
   obtain ⟨k,hk⟩:=List.mem_iff_getElem?.1 ho
   obtain ⟨_,_,v3,_⟩:=dr (aS h).1 hk
   refine ⟨h3,?_⟩
   rw [v3,Int.toNat_natCast,List.getD_eq_getElem?_getD,hk]
   exact h2
end Go.Proofs.YtdhobpmnkfmcfaaGreatDoor
namespace Go.Proofs.YtdhobpmnkfmcfaaGreatDoor
open Go Go.Sx
set_option maxRecDepth 100000
set_option maxHeartbeats 1000000
theorem WC (H:Heap):CdR H Jh zCd:=⟨rfl,EffsS.nil H,TrigsS.nil H⟩
theorem Im {H:Heap} {v:Value} {cs:List Cd} (h:CardsS H v cs) (c:Int) (hn:¬ (c < 0∨c ≥ (cs.length:Int))) :
  ∃ a r,ak (.idx 14) [v,iV c]=some (.pointer (some a))∧H.read (.pointer (some a)) 14=some r∧r.length=14∧Ones r∧CdR H r (BJ cs c):=by
 obtain ⟨rows,h1,h2,h3⟩:=h
 have hlt:c.toNat < rows.length:=by omega
 obtain ⟨a,k1,k2,k3,k4⟩:=h1.idx (k:=.i64) (i:=c.toNat) (List.getElem?_eq_getElem hlt)
 have hk:cs[c.toNat]?=some (BJ cs c):=by
  rw [BJ,if_neg hn,List.getD_eq_getElem?_getD,List.getElem?_eq_getElem (by omega)];rfl
 refine ⟨a,_,?_,k2,k3,k4,h3 c.toNat _ _ (List.getElem?_eq_getElem hlt) hk⟩
 rw [show iV c=iV (c.toNat:Int) by rw [Int.toNat_of_nonneg (by omega)]];exact k1
def VP (cs:List Cd) (c:Int) (v:Value) (H:Heap):Prop:=∃ cells:List Value,v=.agg cells.toArray∧cells.length=14∧Ones cells∧CdR H cells (BJ cs c)
theorem UM {H:Heap} {O:Own} {v:Value} {cs:List Cd} (h:CardsS H v cs) (o:Ob):Triple PP mU [v,.agg o.row.toArray] H O fun r H' O'=>VP cs o.card r H'∧O'=O:=by
 refine nh (vs:=v::o.row) (by kernel_rfl) ⟨h.one,bG o⟩ ?_
 simp only [km]
 refine af fun r0=>af fun r1=>?_
 refine ab ?_
 refine aa _ (aI _ _) ?_
 refine ab (ae (ae ?_))
 refine aa _ h.len ?_
 refine ae (ae (aa _ (eY _ _) (ae (aa _ (aP _ _) ?_))))
 refine aj (fun hb=>?_) (fun hb=>?_)
 ·have hb:(decide (o.card < 0) || decide (o.card ≥ (cs.length:Int)))=true:=hb
  refine ab (ab ?_)
  refine ah ⟨⟨Jh,rfl,rfl,⟨rfl,rfl,rfl,rfl,rfl,rfl,rfl,rfl,rfl,rfl,rfl,rfl,rfl,rfl,trivial⟩,?_⟩,rfl⟩
  rw [BJ,if_pos (by simpa using hb)];exact WC H
 ·have hb:(decide (o.card < 0) || decide (o.card ≥ (cs.length:Int)))=false:=hb
  obtain ⟨a,r,k1,k2,k3,k4,k5⟩:=Im h o.card (by simpa [Bool.or_eq_false_iff] using hb)
  refine ab ?_
  refine aa _ k1 (aw (gQ k2) k3 k4 ?_)
  refine ab (ab ?_)
  exact ah ⟨⟨r,by rw [← CJ k3];rfl,k3,k4,k5⟩,rfl⟩
theorem TS {H:Heap} {O:Own} {v:Value} {cs:List Cd} (h:CardsS H v cs) (o:Ob):Triple PP jD [v,.agg o.row.toArray] H O fun r H' O'=>VP cs o.card r H'∧O'=O:=by
 refine lw (vs:=v::o.row) (by kernel_rfl) ⟨h.one,bG o⟩ ?_
 simp only [fw]
 refine af fun r0=>af fun r1=>?_
 refine ab ?_
 refine aa _ (aI _ _) ?_
 refine ab (ae (ae ?_))
 refine aa _ h.len ?_
 refine ae (ae (aa _ (eY _ _) (ae (aa _ (aP _ _) ?_))))
 refine aj (fun hb=>?_) (fun hb=>?_)
 ·have hb:(decide (o.card < 0) || decide (o.card ≥ (cs.length:Int)))=true:=hb
  refine ab (ab ?_)
  refine ah ⟨⟨Jh,rfl,rfl,⟨rfl,rfl,rfl,rfl,rfl,rfl,rfl,rfl,rfl,rfl,rfl,rfl,rfl,rfl,trivial⟩,?_⟩,rfl⟩
  rw [BJ,if_pos (by simpa using hb)];exact WC H
 ·have hb:(decide (o.card < 0) || decide (o.card ≥ (cs.length:Int)))=false:=hb
  obtain ⟨a,r,k1,k2,k3,k4,k5⟩:=Im h o.card (by simpa [Bool.or_eq_false_iff] using hb)
  refine ab ?_
  refine aa _ k1 (aw (gQ k2) k3 k4 ?_)
  refine ab (ab ?_)
  exact ah ⟨⟨r,by rw [← CJ k3];rfl,k3,k4,k5⟩,rfl⟩
theorem BL {H:Heap} {v:Value} {l:List (List Value)} (h:Sl H 5 v l) (hb:l.length≤2 ^ 30):Triple PP dN [v] H [] fun v' H' O'=>OSl eA 5 v' l O':=by
 refine im (vs:=[v]) (by kernel_rfl) ⟨h.one,trivial⟩ ?_
 simp only [cq]
 obtain ⟨a,cap,rfl,h1,h2,h3⟩:=h
 have hev:ak (.bin .eql .slice) [.slice a l.length cap,.slice none 0 0]=some (.bool a.isNone):=by cases a <;> rfl
 refine aa _ hev (aj (fun hn=>ah ?_) (fun hn=>fun r0=>?_))
 ·have hl:l=[]:=by
   by_cases hl:l=[]
   ·exact hl
   ·obtain ⟨ad,rfl,_⟩:=h3 hl;cases hn
  subst hl
  exact OSl.nil eA 5
 ·refine aD (rows:=[]) (news:=l) (O1:=[]) (O2:=[]) (e:=eA) (size:=5) (bytes:=40) (by kernel_rfl) (List.Perm.refl _) (.inl ⟨⟨_,rfl⟩,rfl,rfl⟩) (fun Hf hl _=>Sl.le hl ⟨a,cap,rfl,h1,h2,h3⟩) (by simp;omega) (by simp;omega) ?_
  intro v' O1' H' _ ho
  refine ah ?_
  rw [List.append_nil]
  exact ho
theorem LK {H:Heap} {v:Value} {l:List (List Value)} (h:Sl H 2 v l) (hb:l.length≤2 ^ 30):Triple PP dq [v] H [] fun v' H' O'=>OSl fN 2 v' l O':=by
 refine gy (vs:=[v]) (by kernel_rfl) ⟨h.one,trivial⟩ ?_
 simp only [bX]
 obtain ⟨a,cap,rfl,h1,h2,h3⟩:=h
 have hev:ak (.bin .eql .slice) [.slice a l.length cap,.slice none 0 0]=some (.bool a.isNone):=by cases a <;> rfl
 refine aa _ hev (aj (fun hn=>ah ?_) (fun hn=>fun r0=>?_))
 ·have hl:l=[]:=by
   by_cases hl:l=[]
   ·exact hl
   ·obtain ⟨ad,rfl,_⟩:=h3 hl;cases hn
  subst hl
  exact OSl.nil fN 2
 ·refine aD (rows:=[]) (news:=l) (O1:=[]) (O2:=[]) (e:=fN) (size:=2) (bytes:=32) (by kernel_rfl) (List.Perm.refl _) (.inl ⟨⟨_,rfl⟩,rfl,rfl⟩) (fun Hf hl _=>Sl.le hl ⟨a,cap,rfl,h1,h2,h3⟩) (by simp;omega) (by simp;omega) ?_
  intro v' O1' H' _ ho
  refine ah ?_
  rw [List.append_nil]
  exact ho
def VT (c:Cd) (v:Value) (H:Heap):Prop:=∃ cells:List Value,v=.agg cells.toArray∧cells.length=14∧Ones cells∧g cells 1=iV c.kind∧EffsS H (g cells 11) c.tg
theorem dB {l:List Value} (h:Ones l) {i:Nat} (hi:i < l.length):(g l i).oneCell'=true:=by
 rw [g,List.getD_eq_getElem?_getD,List.getElem?_eq_getElem hi]
 exact jg h _ (List.getElem_mem hi)
theorem ND {H:Heap} {cells:List Value} {c:Cd} (h:CdR H cells c) (hl:cells.length=14) (ho:Ones cells) (hli:iD c=true) :
  Triple PP wS [.agg cells.toArray] H [] fun r H' O'=>VT c r H'∧O'=[]:=by
 simp only [iD,Bool.and_eq_true,Bool.not_eq_true',Bool.or_eq_false_iff,decide_eq_false_iff_not,List.all_eq_true] at hli
 obtain ⟨⟨b1,b2⟩,b3⟩:=hli
 obtain ⟨hk,⟨erows,e1,e2,e3⟩,⟨trows,t1,t2,t3⟩⟩:=h
 refine xj (vs:=cells) (by rw [← CJ hl];kernel_rfl) ho ?_
 simp only [rJ]
 refine af fun r0=>af fun r1=>?_
 refine ab (ab ?_)
 refine ax (Triple.frozenS (BL e1 (by omega))) ?_
 rintro x H1 _ ⟨hx,rfl⟩ l1
 refine ⟨[x],rfl,⟨hx.one,trivial⟩,?_⟩
 refine ax (LK (t1.le l1) (by omega)) fun y H2 O2 hy l2=>⟨[y],rfl,⟨hy.one,trivial⟩,?_⟩
 have ylen:=hy.len
 rw [t2] at ylen
 refine ab (ab (ab ?_))
 refine aa _ ylen ?_
 refine aX c.tr.length (fun i H' O'=>Heap.le H2 H'∧∃ rows' A,O'.Perm A∧OSl fN 2 y rows' A∧rows'.length=c.tr.length∧∀ j,i≤j→rows'[j]?=trows[j]?) ⟨Heap.le_refl _,trows,O2,by simp,hy,t2,fun _ _=>rfl⟩ ?_
 rintro i H' O' hi - ⟨hle,rows',A,hp,hA,hrl,hrest⟩
 refine aa _ (aI _ _) (aj (fun hb=>?_) (fun hb=>?_))
 ·have hlt:i < c.tr.length:=by simpa using hb
  have hri:rows'[i]?=some trows[i]:=by rw [hrest i (Nat.le_refl _)];exact List.getElem?_eq_getElem (by omega)
  obtain ⟨er,k1,k2⟩:=t3 i trows[i] c.tr[i] (List.getElem?_eq_getElem (by omega)) (List.getElem?_eq_getElem hlt)
  have hb3:=b3 _ (List.getElem_mem hlt)
  obtain ⟨a,i1,i2,i3,i4⟩:=hA.idx (fun p h=>hp.mem_iff.2 h) H' (k:=.i64) hri
  obtain ⟨w1,w2⟩:=hA.rows_ok hri
  refine aa _ i1 (aw i3 w1 w2 (af fun r2=>?_))
  refine ab (ab (ab ?_))
  refine ax (Triple.frozenS (BL (k1.le (Heap.le_trans l1 (Heap.le_trans l2 hle))) (by rw [k2];omega))) ?_
  rintro z H3 _ ⟨hz,rfl⟩ l3
  refine ⟨[z],rfl,⟨hz.one,trivial⟩,?_⟩
  obtain ⟨a2,j1,j2⟩:=hA.store (O:=[]++O') (O2:=[]) (by simpa using hp) (k:=.i64) hri
  obtain ⟨A',hst,hA'⟩:=j2 1 [z] (by simp [w1]) ⟨hz.one,trivial⟩
  refine aa _ j1 ?_
  refine aK rfl (aK rfl ?_)
  refine ⟨_,hst,?_⟩
  refine aa _ (aA (by omega)) (aR (by simp [Eqs]) hlt ⟨Heap.le_trans hle l3,_,A',by simp,hA',by simp [hrl],fun j hj=>?_⟩)
  rw [List.getElem?_set_ne (by omega)]
  exact hrest j (by omega)
 ·refine ab (ab (ab ?_))
  refine uT ⟨⟨[g cells 0,g cells 1,g cells 2,g cells 3,g cells 4,g cells 5,g cells 6,g cells 7,g cells 8,g cells 9,g cells 10,x,y,g cells 13],rfl,rfl,?_,hk,⟨erows,hx.le (Heap.le_trans l2 hle),e2,e3⟩⟩,rfl⟩
  exact ⟨dB ho (by omega),dB ho (by omega),dB ho (by omega),dB ho (by omega),dB ho (by omega),dB ho (by omega),dB ho (by omega),dB ho (by omega),dB ho (by omega),dB ho (by omega),dB ho (by omega),hx.one,hy.one,dB ho (by omega),trivial⟩
theorem Ql {H:Heap} {v:Value} {cs:List Cd} (h:CardsS H v cs) (hli:eQ cs=true) (o:Ob):Triple PP rV [v,.agg o.row.toArray] H [] fun r H' O'=>VT (BJ cs o.card) r H'∧O'=[]:=by
 refine tJ (vs:=v::o.row) (by kernel_rfl) ⟨h.one,bG o⟩ ?_
 simp only [mS]
 refine af fun r0=>af fun r1=>?_
 refine ab ?_
 refine ax (UM (O:=[]) h o) ?_
 rintro _ H1 _ ⟨⟨cells,rfl,k1,k2,k3⟩,rfl⟩ l1
 refine ⟨cells,by simp [Shp.open,k1],k2,?_⟩
 have hrow:=CJ k1
 refine ax (ND (cells:=[g cells 0,g cells 1,g cells 2,g cells 3,g cells 4,g cells 5,g cells 6,g cells 7,g cells 8,g cells 9,g cells 10,g cells 11,g cells 12,g cells 13]) (by rw [hrow];exact k3) rfl (by rw [hrow];exact k2) (BC hli _)) ?_
 rintro _ H2 _ ⟨⟨cells2,rfl,m1,m2,m3,m4⟩,rfl⟩ l2
 refine ⟨cells2,by simp [Shp.open,m1],m2,?_⟩
 refine ab (ab ?_)
 exact ah ⟨⟨cells2,by rw [← CJ m1];rfl,m1,m2,m3,m4⟩,rfl⟩
theorem IK {α:Type} {p:α→Bool} {l:List α} {i:Nat} (h:i < l.length):((l.take (i + 1)).filter p).length=((l.take i).filter p).length + if p l[i] then 1 else 0:=by
 rw [List.take_add_one,List.getElem?_eq_getElem h,List.filter_append,List.length_append]
 congr 1
 by_cases hp:p l[i] <;> simp [hp]
theorem JS {H:Heap} {O:Own} {v:Value} {tg:List Int} (h:EffsS H v tg) {i:Nat} (hi:i < tg.length) :
  ∃ a r,ak (.idx 5) [v,iV i]=some (.pointer (some a))∧H.read (.pointer (some a)) 5=some r∧r.length=5∧Ones r∧g r 1=iV tg[i]∧Reads H O (be (.pointer (some a)) 1) 1 [iV tg[i]]:=by
 obtain ⟨rows,h1,h2,h3⟩:=h
 have hlt:i < rows.length:=by omega
 obtain ⟨a,k1,k2,k3,k4⟩:=h1.idx (k:=.i64) (i:=i) (List.getElem?_eq_getElem hlt)
 have hg:=h3 i _ _ (List.getElem?_eq_getElem hlt) (List.getElem?_eq_getElem hi)
 obtain ⟨a2,j1,_,j3,_⟩:=(h1.rsl O).idx .i64 i rows[i] (by simp [hlt])
 obtain rfl:a2=a:=by rw [j1] at k1;simpa using k1
 have hr:=j3 1 1 (by omega)
 refine ⟨_,_,k1,k2,k3,k4,hg,?_⟩
 have e:((rows[i]).drop 1).take 1=[iV tg[i]]:=by
  match hm:rows[i],k3 with
  | [_,b,_,_,_],_=>rw [hm] at hg;simpa [g] using hg
 rw [e] at hr
 exact hr
theorem Qu {H:Heap} {O:Own} {v:Value} {tg:List Int} (h:EffsS H v tg) (hb:tg.length≤1000000):RetO PP si [v] H O (iV (dC tg).length):=by
 refine xi (vs:=[v]) (by kernel_rfl) ⟨h.one,trivial⟩ ?_
 simp only [lZ]
 refine aa _ h.len ?_
 refine dn tg.length (fun i x H' O'=>O'=O∧Heap.le H H'∧x=iV (dC (tg.take i)).length) ⟨rfl,Heap.le_refl _,rfl⟩ ?_
 rintro i x H' O' hi - ⟨rfl,hle,rfl⟩
 refine aa _ (aI _ _) (aj (fun hb=>?_) (fun hb=>?_))
 ·have hlt:i < tg.length:=by simpa using hb
  obtain ⟨a,r,k1,k2,k3,k4,k5,_⟩:=JS (O:=O') (h.le hle) hlt
  refine aa _ k1 (aw (gQ k2) k3 k4 (af fun r0=>?_))
  refine ab (ab ?_)
  rw [k5]
  refine aa _ (ba _ _) ?_
  have hft:=IK (p:=fun t:Int=>t != 0) hlt
  have hfl:((tg.take i).filter fun t:Int=>t != 0).length≤tg.length:=Nat.le_trans (List.length_filter_le _ _) (by rw [List.length_take];omega)
  refine aj (fun hc=>?_) (fun hc=>?_)
  ·have hc:(tg[i] != 0)=true:=hc
   rw [if_pos hc] at hft
   refine aa _ (aA (by rw [dC];omega)) (aa _ (aA (by omega)) (aT (by simp [Eqs]) hlt ⟨rfl,hle,?_⟩))
   rw [dC,dC,hft]
  ·have hc:(tg[i] != 0)=false:=hc
   rw [if_neg (by rw [hc];simp)] at hft
   refine aa _ (aA (by omega)) (aT (by simp [Eqs]) hlt ⟨rfl,hle,?_⟩)
   rw [dC,dC,hft];rfl
 ·have hge:tg.length≤i:=by simpa using hb
  rw [List.take_of_length_le hge]
  exact ah ⟨rfl,rfl⟩
end Go.Proofs.YtdhobpmnkfmcfaaGreatDoor
namespace Go.Proofs.YtdhobpmnkfmcfaaGreatDoor
open Go Go.Sx
set_option maxRecDepth 100000
set_option maxHeartbeats 1000000
def We (c:Int):Ob:=⟨0,c,0,0,0,0,0,0,0,false,false,false⟩
def U2 (k:Int):Bool:=k == 3 || k == 4
def nc (cs:List Cd) (x:It):Bool:=(U2 (BJ cs x.card).kind && decide (x.trig < 0)) && decide ((x.tgs.length:Int) ≥ ((dC (BJ cs x.card).tg).length:Int))
def nb (cs:List Cd) (x:It):Bool:=(x.trig == -1 && U2 (BJ cs x.card).kind) && decide ((x.tgs.length:Int) ≥ ((dC (BJ cs x.card).tg).length:Int))
theorem Lp {cs:List Cd} (h:eQ cs=true) (c:Int):(BJ cs c).tg.length≤5:=by
 have:=BC h c
 simp only [iD,Bool.and_eq_true,Bool.not_eq_true',Bool.or_eq_false_iff,decide_eq_false_iff_not] at this
 omega
theorem UG {H:Heap} {v:Value} {cs:List Cd} (h:CardsS H v cs) (hli:eQ cs=true) {row:List Value} {x:It} (hx:ItR H [] row x):RetO PP vJ [v,.agg row.toArray] H [] (.bool (nc cs x)):=by
 obtain ⟨s,rfl,hs⟩:=hx
 refine AA (vs:=[v,iV x.player,iV x.id,iV x.card,iV x.trig,s]) (by kernel_rfl) ⟨h.one,rfl,rfl,rfl,rfl,hs.one,trivial⟩ ?_
 simp only [oS]
 refine af fun r0=>?_
 refine ab ?_
 refine ax (Ql h hli (We x.card)) ?_
 rintro _ H1 _ ⟨⟨cells,rfl,k1,k2,k3,k4⟩,rfl⟩ l1
 refine ⟨cells,by simp [Shp.open,k1],k2,af fun r1=>?_⟩
 have k3:g cells 1=iV (BJ cs x.card).kind:=k3
 have k4:EffsS H1 (g cells 11) (BJ cs x.card).tg:=k4
 refine ab (ab ?_)
 rw [k3]
 have hsl:ak .len [s]=some (iV x.tgs.length):=by have:=hs.len;rwa [List.length_map] at this
 refine aa _ (aC _ _) (ab (ae (ae (aa _ (aC _ _) (ae (aa _ (aP _ _) (ab (ae (ae (aa _ (aI _ _) (ae (aa _ (aU _ _) ?_))))))))))))
 refine aj (fun hb=>?_) (fun hb=>?_)
 ·have hb:(U2 (BJ cs x.card).kind && decide (x.trig < 0))=true:=hb
  refine ab ?_
  refine aa _ hsl ?_
  refine ab ?_
  refine ai (Qu k4 (by have:=Lp hli x.card;omega)) rfl ⟨rfl,trivial⟩ fun H2 l2=>?_
  refine aa _ (dt _ _) (ah ⟨?_,rfl⟩)
  rw [nc,hb,Bool.true_and]
 ·have hb:(U2 (BJ cs x.card).kind && decide (x.trig < 0))=false:=hb
  refine ah ⟨?_,rfl⟩
  rw [nc,hb,Bool.false_and]
theorem TP {H:Heap} {v:Value} {tg:List Int} (h:EffsS H v tg) (hb:tg.length≤1000000):Triple PP mj [v] H [] fun r _ O'=>OSl dP 1 r (aG (dC tg)) O':=by
 refine sn (vs:=[v]) (by kernel_rfl) ⟨h.one,trivial⟩ ?_
 simp only [iF]
 refine dn tg.length (fun i x H' O'=>Heap.le H H'∧OSl dP 1 x (aG (dC (tg.take i))) O') ⟨Heap.le_refl _,OSl.nil _ _⟩ ?_
 rintro i x H' O' hi - ⟨hle,hx⟩
 refine aa _ (h.le hle).len ?_
 refine aa _ (aI _ _) (aj (fun hb=>?_) (fun hb=>?_))
 ·have hlt:i < tg.length:=by simpa using hb
  obtain ⟨a,r,k1,k2,k3,k4,k5,k6⟩:=JS (O:=O') (h.le hle) hlt
  have hft:=fg (p:=fun t:Int=>t != 0) hlt
  refine aa _ k1 ?_
  refine aK rfl ?_
  refine aw k6 rfl ⟨rfl,trivial⟩ ?_
  refine aa _ (ba _ _) ?_
  refine aj (fun hc=>?_) (fun hc=>?_)
  ·have hc:(tg[i] != 0)=true:=hc
   have hlen:(dC (tg.take i)).length≤1000000:=by rw [dC];exact Nat.le_trans (List.length_filter_le _ _) (by rw [List.length_take];omega)
   refine aa _ k1 ?_
   refine aK rfl ?_
   refine aw k6 rfl ⟨rfl,trivial⟩ (af fun r2=>?_)
   refine aD (rows:=aG (dC (tg.take i))) (news:=[[iV tg[i]]]) (O1:=O') (O2:=[]) (e:=dP) (size:=1) (bytes:=8) (by kernel_rfl) (by simp) hx (fun Hf _ hf=>Sl.block1 (hf _ List.mem_cons_self) rfl ⟨rfl,trivial⟩) (by rw [aG,List.length_map,List.length_singleton];omega) (by rw [aG,List.length_map,List.length_singleton];omega) ?_
   intro v' A' H6 l6 hA'
   refine aa _ (aA (by omega)) (aT (by simp [Eqs]) hlt ⟨Heap.le_trans hle l6,?_⟩)
   rw [List.append_nil,dC,hft,if_pos hc,aG,List.map_append];exact hA'
  ·have hc:(tg[i] != 0)=false:=hc
   refine aa _ (aA (by omega)) (aT (by simp [Eqs]) hlt ⟨hle,?_⟩)
   rw [dC,hft,if_neg (by rw [hc];simp),List.append_nil];exact hx
 ·have hge:tg.length≤i:=by simpa using hb
  rw [List.take_of_length_le hge] at hx
  exact ah hx
theorem TN {H:Heap} {v:Value} {cs:List Cd} (h:CardsS H v cs) (hli:eQ cs=true) {row:List Value} {x:It} (hx:ItR H [] row x):RetO PP mi [v,.agg row.toArray] H [] (.bool (nb cs x)):=by
 obtain ⟨s,rfl,hs⟩:=hx
 refine sk (vs:=[v,iV x.player,iV x.id,iV x.card,iV x.trig,s]) (by kernel_rfl) ⟨h.one,rfl,rfl,rfl,rfl,hs.one,trivial⟩ ?_
 simp only [iE]
 refine af fun r0=>?_
 refine ab ?_
 refine ax (TS (O:=[]) h (We x.card)) ?_
 rintro _ H1 _ ⟨⟨cells,rfl,k1,k2,k3⟩,rfl⟩ l1
 refine ⟨cells,by simp [Shp.open,k1],k2,af fun r1=>?_⟩
 have k5:g cells 1=iV (BJ cs x.card).kind:=k3.kind
 have k4:EffsS H1 (g cells 11) (BJ cs x.card).tg:=k3.eff
 refine ab (ab ?_)
 rw [k5]
 have hsl:ak .len [s]=some (iV x.tgs.length):=by have:=hs.len;rwa [List.length_map] at this
 refine aa _ (aC _ _) (ab (ae (ae (aa _ (aC _ _) (ae (ab (ae (ae (ae (ae (aa _ (aC _ _) (ae (ae (ae (aa _ (aP _ _) (ae (aa _ (aU _ _) ?_)))))))))))))))))
 refine aj (fun hb=>?_) (fun hb=>?_)
 ·have hb:(x.trig == -1 && U2 (BJ cs x.card).kind)=true:=hb
  refine ab ?_
  refine aa _ hsl ?_
  refine ab ?_
  refine ax (TP k4 (by have:=Lp hli x.card;omega)) fun y H2 O2 hy l2=>⟨[y],rfl,⟨hy.one,trivial⟩,?_⟩
  have hyl:=hy.len
  rw [aG,List.length_map] at hyl
  refine aa _ hyl ?_
  refine aa _ (dt _ _) (uT ⟨?_,rfl⟩)
  rw [nb,hb,Bool.true_and]
 ·have hb:(x.trig == -1 && U2 (BJ cs x.card).kind)=false:=hb
  refine ah ⟨?_,rfl⟩
  rw [nb,hb,Bool.false_and]
theorem QS {cs:List Cd} {x:It} (h:cZ x false=true):nb cs x=nc cs x:=by
 have ht:(x.trig == -1)=decide (x.trig < 0):=by
  simp only [cZ,Bool.and_eq_true,au,decide_eq_true_eq] at h
  obtain ⟨_,_,_,h4,_⟩:=h
  rw [Bool.eq_iff_iff];simp;omega
 rw [nb,nc,ht,Bool.and_comm (decide (x.trig < 0))]
end Go.Proofs.YtdhobpmnkfmcfaaGreatDoor
