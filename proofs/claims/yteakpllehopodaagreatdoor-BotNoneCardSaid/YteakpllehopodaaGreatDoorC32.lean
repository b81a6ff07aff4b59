/- Cards are drawn: the program's. -/
import Derived.Test.YteakpllehopodaaGreatDoorC6
import Derived.Test.YteakpllehopodaaGreatDoorM
import Derived.Test.YteakpllehopodaaGreatDoorFw3
namespace Go.Proofs.YteakpllehopodaaGreatDoor
open Go Go.Sx
set_option maxRecDepth 100000
set_option maxHeartbeats 1000000
def drawOne (b:Bd) (p id:Int):Bd:=tp (F5 b p id) (Bz b id).toNat (my (b.objs.getD (Bz b id).toNat zO) 1)
def cY:Nat→Bd→Int→Bd
 | 0,b,_=>b
 | n + 1,b,p=>match (cg b p).lib.getLast? with
  | none=>jL b p { cg b p with empty:=true }
  | some id=>cY n (drawOne b p id) p
def zR (b:Bd) (p n:Int):Bd × Int:=if (!aE b || (!ay p 0 1 || decide (n < 0)))=true then (zBd,2) else (cY n.toNat b p,0)
def wD (w:cI) (x1 x2 x3 x4:Value):cI:={ w with l0:=x1,h0:=x2,l1:=x3,h1:=x4 }
def mkD (b:Bd) (os:List Ob) (a1 a2 a3 a4:List Int):Bd:={ b with objs:=os,s0:={ b.s0 with lib:=a1,hand:=a2 },s1:={ b.s1 with lib:=a3,hand:=a4 } }
theorem uU {n:Nat} (h:n + 1 < 2 ^ 63):al (.bin .sub .int) [iV ((n + 1:Nat):Int),iV 1]=some (iV (n:Int)):=by
 simp only[al,bA,bq,if_true]
 rw[dN (by omega) (by omega)]
 congr 3
 omega
theorem zQ {b:Bd} (h:aE b=true) {p:Int} (hp:p=0∨p=1) {l:List Int} {id:Int} (hl:(cg b p).lib=l++[id]) :
  ∃ (k:Nat) (o:Ob),b.objs[k]?=some o∧o.id=id∧o.owner=p∧Bz b id=k∧aE (F5 b p id)=true∧mI (F5 b p id) id=0∧wc (F5 b p id) id=k∧i64 id∧drawOne b p id=tp (F5 b p id) k (my o 1)∧aE (drawOne b p id)=true:=by
 obtain⟨_,m2,_,m4⟩:=F4 hp hl
 have hpl:=(eI h).1
 obtain⟨k,o,e1,e2,e3⟩:=Q3 hpl m4
 obtain⟨v1,_,v3,_⟩:=mF hpl e1
 rw[e2] at v3
 have hmv:=MJ h hp hl
 have hidx:Bz (F5 b p id) id=k:=by rw[Bz,m2];exact v3
 have hn:¬ ((k:Int) < 0):=by omega
 have hid:=s7 v1
 have hd:drawOne b p id=tp (F5 b p id) k (my o 1):=by
  simp only[drawOne,v3,Int.toNat_natCast,List.getD_eq_getElem?_getD,e1,Option.getD_some]
 refine⟨k,o,e1,e2,e3,v3,hmv,by simp[mI,hmv,hidx,hn],by rw[wc,if_pos hmv,hidx,if_neg hn],by rw[← e2];omega,hd,?_⟩
 rw[hd]
 exact LG (o:=o) hmv (by rw[m2];exact e1) rfl rfl rfl (E1 1 v1)
theorem UY {H:Heap} {v:cI} {b:Bd} (h:BdS H v b) (hB:bdB b) (p n:Int) (hn1000:n≤1000):Triple PP qC [.agg (ao v b).toArray,iV p,iV n] H [] fun r _ O'=>∃ w,r=.tuple #[.agg (ao w (zR b p n).1).toArray,iV (zR b p n).2]∧OwnB tys w (zR b p n).1 O':=by
 refine Bg (vs:=ao v b++[iV p,iV n]) (by kernel_rfl) (aK (ap (h.r [])) ⟨rfl,rfl,trivial⟩) ?_
 simp only[wZ]
 refine ah fun r0=>ah fun r1=>?_
 refine ae ?_
 refine am (bE (h.r [])) rfl ⟨rfl,trivial⟩ fun H1 l1=>ab _ (aC _) (aj (fun hb=>?_) (fun hb=>?_))
 ·have e:zR b p n=(zBd,2):=by rw[zR,if_pos (by rw[Br hb];rfl)]
  refine ae (ae ?_)
  exact af ⟨QX,by rw[e];rfl,by rw[e];exact OwnB.zero tys⟩
 have hval:aE b=true:=yk hb
 replace h:=h.le l1
 refine am (cd p 0 1 H1 []) rfl ⟨rfl,trivial⟩ fun H2 l2=>?_
 refine ab _ (aC _) (ai (ab _ (aG _ _) (ai (ab _ (aO _ _) ?_))))
 refine aj (fun hb=>?_) (fun hb=>?_)
 ·have e:zR b p n=(zBd,2):=by
   have hb:(!ay p 0 1 || decide (n < 0))=true:=hb
   rw[zR,if_pos (by rw[hb];simp)]
  refine ae (ae ?_)
  exact af ⟨QX,by rw[e];rfl,by rw[e];exact OwnB.zero tys⟩
 have hb:(!ay p 0 1 || decide (n < 0))=false:=hb
 have e:zR b p n=(cY n.toNat b p,0):=by rw[zR,if_neg (by rw[hb,hval];simp)]
 simp only[Bool.or_eq_false_iff,Bool.not_eq_false',decide_eq_false_iff_not] at hb
 obtain⟨hb1,hb2⟩:=hb
 have hp:p=0∨p=1:=by simp only[ay,decide_eq_true_eq] at hb1;omega
 obtain⟨n0,rfl⟩:∃ n0:Nat,n=n0:=⟨n.toNat,by omega⟩
 rw[Int.toNat_natCast] at e
 rw[e]
 clear e
 replace h:=h.le l2
 refine ae ?_
 refine az (GX h hB) ?_
 rintro _ H3 O3 ⟨w,rfl,ho⟩ l3
 refine⟨ao w b,rfl,tM H3 ho,?_⟩
 rw[List.append_nil]
 obtain⟨_,⟨m2,m3,_,_⟩,⟨m6,m7,_,_⟩,_⟩:=hB
 refine ae ?_
 rcases hp with rfl | rfl
 ·refine⟨.i64,0,rfl,fun _=>?_,fun e=>absurd rfl e⟩
  refine dG (fun vs H' O'=>∃ (m:Nat) (x1 x2 x3 x4:Value) (os:List Ob) (a1 a2 a3 a4:List Int),vs=[iV m,x1,x2,x3,x4]∧m≤1000∧OwnB tys (wD w x1 x2 x3 x4) (mkD b os a1 a2 a3 a4) O'∧aE (mkD b os a1 a2 a3 a4)=true∧cY n0 b 0=cY m (mkD b os a1 a2 a3 a4) 0∧a1.length + a2.length≤4000000)
   (fun vs _ _=>match g vs 0 with | .int _ k=>k.toNat | _=>0) ⟨n0,_,_,_,_,b.objs,b.s0.lib,b.s0.hand,b.s1.lib,b.s1.hand,rfl,by omega,ho,hval,rfl,by omega⟩ ?_
  rintro vs H' O' - - - ⟨m,x1,x2,x3,x4,os,a1,a2,a3,a4,rfl,hm,hown,hv,hgo,hlen⟩
  refine ab _ (bG _ _) (aj (fun hb=>?_) (fun hb=>?_))
  ·have hb:=of_decide_eq_true hb
   obtain⟨m',rfl⟩:∃ m':Nat,m=m' + 1:=⟨m - 1,by omega⟩
   have hR:=hown.r (fun p hp=>hp) H'
   have hl1:al .len [x1]=some (iV a1.length):=by have:=hR.s0.lib.len;rwa [aJ,List.length_map] at this
   refine ae ?_
   refine ab _ hl1 (ab _ (aw _ _) (aj (fun hb=>?_) (fun hb=>?_)))
   ·have h0:a1=[]:=by
     have:a1.length=0:=by simpa using hb
     exact List.eq_nil_of_length_eq_zero this
    subst h0
    have e:cY n0 b 0=jL (mkD b os [] a2 a3 a4) 0 { cg (mkD b os [] a2 a3 a4) 0 with empty:=true }:=by rw[hgo];rfl
    rw[e]
    refine ae (ae (ae (ae ?_)))
    refine af ⟨wD w x1 x2 x3 x4,rfl,?_⟩
    obtain⟨Oo,A0,B0,C0,D0,A1,B1,C1,D1,Os,Oq,Oa,Obk,hq,hh⟩:=hown
    exact⟨Oo,A0,B0,C0,D0,A1,B1,C1,D1,Os,Oq,Oa,Obk,hq,⟨hh.objs,hh.l0,hh.h0,hh.f0,hh.g0,hh.l1,hh.h1,hh.f1,hh.g1,hh.stack,hh.queue,hh.att,hh.blocks⟩⟩
   ·obtain⟨l,id,rfl⟩:∃ l id,a1=l++[id]:=by
     have hne:a1 ≠ []:=by rintro rfl;simp at hb
     exact⟨a1.dropLast,a1.getLast hne,(List.dropLast_concat_getLast hne).symm⟩
    obtain⟨k,ob,e1,e2,e3,e4,hmv,hE,hI,hid,hd,hdv⟩:=zQ hv (p:=0) (.inl rfl) (l:=l) (id:=id) rfl
    have hll:(l++[id]).length=l.length + 1:=by simp
    rw[hll]
    have hls:l.length + 1 < 2 ^ 63:=by rw[hll] at hlen;omega
    refine ae ?_
    refine ab _ (uU hls) ?_
    obtain⟨a,i1,i2,_,i3,i4⟩:=hR.s0.lib.idx .i64 l.length [iV id] (by show (aJ (l++[id]))[l.length]?=_;simp[aJ])
    refine ab _ i1 (aA i2 i3 i4 ?_)
    refine ae ?_
    refine ab _ (uU hls) ?_
    obtain⟨A,R,hp1,hA,back⟩:=OwnB.pick_l0 hown
    have hA:OSl aQ 1 x1 (aJ (l++[id])) A:=hA
    obtain⟨u,su,hu⟩:=hA.upto (i:=l.length) (by simp[aJ])
    have hu:OSl aQ 1 u (aJ l) A:=by
     have:(aJ (l++[id])).take l.length=aJ l:=by simp[aJ]
     rwa [this] at hu
    have ho1:=OwnB.perm (back u l A hu) hp1
    refine ab _ su ?_
    refine ae ?_
    refine ah fun r2=>?_
    obtain⟨A2,R2,hp2,hA2,back2⟩:=OwnB.pick_h0 ho1
    have hA2:OSl aQ 1 x2 (aJ a2) A2:=hA2
    refine aH (rows:=aJ a2) (news:=[[iV id]]) (O1:=A2) (O2:=R2) (e:=aQ) (size:=1) (bytes:=8) (by kernel_rfl) hp2 hA2 (fun Hf _ hf=>Sl.block1 (hf _ List.mem_cons_self) rfl ⟨rfl,trivial⟩) (by simp[aJ];omega) (by simp[aJ];omega) ?_
    intro y A' H6 l6 hA'
    have hA3:OSl aQ 1 y (aJ (a2++[id])) A':=by rw[aJ,List.map_append];exact hA'
    have ho2:=back2 y (a2++[id]) A' hA3
    have emid:F5 (mkD b os (l++[id]) a2 a3 a4) 0 id=mkD b os l (a2++[id]) a3 a4:=by
     simp only[F5,TT,jL,cg,mkD,if_true,List.dropLast_concat]
    rw[emid] at hmv hE hI hd
    have ho2:OwnB tys (wD w u y x3 x4) (mkD b os l (a2++[id]) a3 a4) (A'++R2):=ho2
    refine ae (ae (ae ?_))
    refine am (Is (ho2.r (fun p hp=>hp) H6) hid) rfl ⟨rfl,rfl,trivial⟩ fun H7 l7=>?_
    rw[hI]
    refine ae (ae ?_)
    have e1':(mkD b os l (a2++[id]) a3 a4).objs[k]?=some ob:=e1
    obtain⟨a5,k1,k2,_,k3,k4⟩:=(ho2.r (fun p hp=>hp) H7).objs.idx .i64 k (Ob.row ob) (by rw[List.getElem?_map,e1'];rfl)
    have k1:al (.idx 12) [w.o,iV k]=some (.pointer (some a5)):=k1
    refine ab _ k1 (aA k2 k3 k4 ?_)
    refine am (N3 ob 1 H7 _) rfl (vs:=(my ob 1).row) (ga _) fun H8 l8=>?_
    obtain⟨a6,q1,O1,q2,O2,q3,q4⟩:=OwnB.store_ob ho2 (X:=[]) (O':=A'++R2) (by simp) e1' (my ob 1)
    have q1:al (.idx 12) [w.o,iV k]=some (.pointer (some a6)):=q1
    rw[List.append_nil] at q3
    refine ab _ q1 ?_
    refine ak rfl ?_
    refine⟨_,q2,?_⟩
    refine ab _ (uU (by omega)) ?_
    refine cU (by simp[Eqs]) ⟨m',u,y,x3,x4,os.set k (my ob 1),l,(a2++[id]),a3,a4,rfl,by omega,OwnB.perm q4 q3,by rw[hd] at hdv;exact hdv,?_,by rw[hll] at hlen;simp only[List.length_append,List.length_cons,List.length_nil];omega⟩ ?_
    ·rw[hgo,cY]
     have egl:(cg (mkD b os (l++[id]) a2 a3 a4) 0).lib.getLast?=some id:=by
      show (l++[id]).getLast?=some id
      simp
     rw[egl]
     show cY m' (drawOne _ 0 id) 0=_
     rw[hd];rfl
    ·show ((m':Int)).toNat < (((m' + 1:Nat):Int)).toNat
     omega
  ·have hm0:m=0:=by have:=of_decide_eq_false hb;omega
   subst hm0
   have e:cY n0 b 0=mkD b os a1 a2 a3 a4:=by rw[hgo];rfl
   rw[e]
   refine ae (ae (ae ?_))
   exact af ⟨wD w x1 x2 x3 x4,rfl,hown⟩
 ·refine⟨.i64,1,rfl,fun e=>absurd e (by omega),fun _=>⟨.i64,1,rfl,fun _=>?_,fun e=>absurd rfl e⟩⟩
  refine dG (fun vs H' O'=>∃ (m:Nat) (x1 x2 x3 x4:Value) (os:List Ob) (a1 a2 a3 a4:List Int),vs=[iV m,x1,x2,x3,x4]∧m≤1000∧OwnB tys (wD w x1 x2 x3 x4) (mkD b os a1 a2 a3 a4) O'∧aE (mkD b os a1 a2 a3 a4)=true∧cY n0 b 1=cY m (mkD b os a1 a2 a3 a4) 1∧a3.length + a4.length≤4000000)
   (fun vs _ _=>match g vs 0 with | .int _ k=>k.toNat | _=>0) ⟨n0,_,_,_,_,b.objs,b.s0.lib,b.s0.hand,b.s1.lib,b.s1.hand,rfl,by omega,ho,hval,rfl,by omega⟩ ?_
  rintro vs H' O' - - - ⟨m,x1,x2,x3,x4,os,a1,a2,a3,a4,rfl,hm,hown,hv,hgo,hlen⟩
  refine ab _ (bG _ _) (aj (fun hb=>?_) (fun hb=>?_))
  ·have hb:=of_decide_eq_true hb
   obtain⟨m',rfl⟩:∃ m':Nat,m=m' + 1:=⟨m - 1,by omega⟩
   have hR:=hown.r (fun p hp=>hp) H'
   have hl1:al .len [x3]=some (iV a3.length):=by have:=hR.s1.lib.len;rwa [aJ,List.length_map] at this
   refine ae ?_
   refine ab _ hl1 (ab _ (aw _ _) (aj (fun hb=>?_) (fun hb=>?_)))
   ·have h0:a3=[]:=by
     have:a3.length=0:=by simpa using hb
     exact List.eq_nil_of_length_eq_zero this
    subst h0
    have e:cY n0 b 1=jL (mkD b os a1 a2 [] a4) 1 { cg (mkD b os a1 a2 [] a4) 1 with empty:=true }:=by rw[hgo];rfl
    rw[e]
    refine ae (ae (ae (ae ?_)))
    refine af ⟨wD w x1 x2 x3 x4,rfl,?_⟩
    obtain⟨Oo,A0,B0,C0,D0,A1,B1,C1,D1,Os,Oq,Oa,Obk,hq,hh⟩:=hown
    exact⟨Oo,A0,B0,C0,D0,A1,B1,C1,D1,Os,Oq,Oa,Obk,hq,⟨hh.objs,hh.l0,hh.h0,hh.f0,hh.g0,hh.l1,hh.h1,hh.f1,hh.g1,hh.stack,hh.queue,hh.att,hh.blocks⟩⟩
   ·obtain⟨l,id,rfl⟩:∃ l id,a3=l++[id]:=by
     have hne:a3 ≠ []:=by rintro rfl;simp at hb
     exact⟨a3.dropLast,a3.getLast hne,(List.dropLast_concat_getLast hne).symm⟩
    obtain⟨k,ob,e1,e2,e3,e4,hmv,hE,hI,hid,hd,hdv⟩:=zQ hv (p:=1) (.inr rfl) (l:=l) (id:=id) rfl
    have hll:(l++[id]).length=l.length + 1:=by simp
    rw[hll]
    have hls:l.length + 1 < 2 ^ 63:=by rw[hll] at hlen;omega
    refine ae ?_
    refine ab _ (uU hls) ?_
    obtain⟨a,i1,i2,_,i3,i4⟩:=hR.s1.lib.idx .i64 l.length [iV id] (by show (aJ (l++[id]))[l.length]?=_;simp[aJ])
    refine ab _ i1 (aA i2 i3 i4 ?_)
    refine ae ?_
    refine ab _ (uU hls) ?_
    obtain⟨A,R,hp1,hA,back⟩:=OwnB.pick_l1 hown
    have hA:OSl aQ 1 x3 (aJ (l++[id])) A:=hA
    obtain⟨u,su,hu⟩:=hA.upto (i:=l.length) (by simp[aJ])
    have hu:OSl aQ 1 u (aJ l) A:=by
     have:(aJ (l++[id])).take l.length=aJ l:=by simp[aJ]
     rwa [this] at hu
    have ho1:=OwnB.perm (back u l A hu) hp1
    refine ab _ su ?_
    refine ae ?_
    refine ah fun r2=>?_
    obtain⟨A2,R2,hp2,hA2,back2⟩:=OwnB.pick_h1 ho1
    have hA2:OSl aQ 1 x4 (aJ a4) A2:=hA2
    refine aH (rows:=aJ a4) (news:=[[iV id]]) (O1:=A2) (O2:=R2) (e:=aQ) (size:=1) (bytes:=8) (by kernel_rfl) hp2 hA2 (fun Hf _ hf=>Sl.block1 (hf _ List.mem_cons_self) rfl ⟨rfl,trivial⟩) (by simp[aJ];omega) (by simp[aJ];omega) ?_
    intro y A' H6 l6 hA'
    have hA3:OSl aQ 1 y (aJ (a4++[id])) A':=by rw[aJ,List.map_append];exact hA'
    have ho2:=back2 y (a4++[id]) A' hA3
    have emid:F5 (mkD b os a1 a2 (l++[id]) a4) 1 id=mkD b os a1 a2 l (a4++[id]):=by
     simp only[F5,TT,jL,cg,mkD,show ¬ ((1:Int)=0) by omega,if_false,List.dropLast_concat]
    rw[emid] at hmv hE hI hd
    have ho2:OwnB tys (wD w x1 x2 u y) (mkD b os a1 a2 l (a4++[id])) (A'++R2):=ho2
    refine ae (ae (ae ?_))
    refine am (Is (ho2.r (fun p hp=>hp) H6) hid) rfl ⟨rfl,rfl,trivial⟩ fun H7 l7=>?_
    rw[hI]
    refine ae (ae ?_)
    have e1':(mkD b os a1 a2 l (a4++[id])).objs[k]?=some ob:=e1
    obtain⟨a5,k1,k2,_,k3,k4⟩:=(ho2.r (fun p hp=>hp) H7).objs.idx .i64 k (Ob.row ob) (by rw[List.getElem?_map,e1'];rfl)
    have k1:al (.idx 12) [w.o,iV k]=some (.pointer (some a5)):=k1
    refine ab _ k1 (aA k2 k3 k4 ?_)
    refine am (N3 ob 1 H7 _) rfl (vs:=(my ob 1).row) (ga _) fun H8 l8=>?_
    obtain⟨a6,q1,O1,q2,O2,q3,q4⟩:=OwnB.store_ob ho2 (X:=[]) (O':=A'++R2) (by simp) e1' (my ob 1)
    have q1:al (.idx 12) [w.o,iV k]=some (.pointer (some a6)):=q1
    rw[List.append_nil] at q3
    refine ab _ q1 ?_
    refine ak rfl ?_
    refine⟨_,q2,?_⟩
    refine ab _ (uU (by omega)) ?_
    refine cU (by simp[Eqs]) ⟨m',x1,x2,u,y,os.set k (my ob 1),a1,a2,l,(a4++[id]),rfl,by omega,OwnB.perm q4 q3,by rw[hd] at hdv;exact hdv,?_,by rw[hll] at hlen;simp only[List.length_append,List.length_cons,List.length_nil];omega⟩ ?_
    ·rw[hgo,cY]
     have egl:(cg (mkD b os a1 a2 (l++[id]) a4) 1).lib.getLast?=some id:=by
      show (l++[id]).getLast?=some id
      simp
     rw[egl]
     show cY m' (drawOne _ 1 id) 1=_
     rw[hd];rfl
    ·show ((m':Int)).toNat < (((m' + 1:Nat):Int)).toNat
     omega
  ·have hm0:m=0:=by have:=of_decide_eq_false hb;omega
   subst hm0
   have e:cY n0 b 1=mkD b os a1 a2 a3 a4:=by rw[hgo];rfl
   rw[e]
   refine ae (ae (ae ?_))
   exact af ⟨wD w x1 x2 x3 x4,rfl,hown⟩
end Go.Proofs.YteakpllehopodaaGreatDoor
namespace Go.Sx
open Go
abbrev Mem:=List (Nat × Option Bx)
abbrev Dec (α:Type):=List At→Option (List Ck × α)
def dI:At→Option Int
 | .k (.int .i64 n)=>some n
 | _=>none
def dB:At→Option Bool
 | .k (.bool b)=>some b
 | _=>none
theorem fH {a:At} {n:Int} (h:dI a=some n):a=.k (iV n):=by
 unfold dI at h
 split at h
 ·cases h;rfl
 ·cases h
theorem Ey {a:At} {n:Bool} (h:dB a=some n):a=.k (.bool n):=by
 unfold dB at h
 split at h
 ·cases h;rfl
 ·cases h
def LM {α:Type} (size:Nat) (dec:Dec α):Nat→List At→Option (List Ck × List α)
 | 0,_=>some ([],[])
 | n + 1,cs =>
  match dec (cs.take size) with
  | none=>none
  | some (k,a)=>match LM size dec n (cs.drop size) with
   | none=>none
   | some (k',l)=>some (k++k',a::l)
def slD {α:Type} (mem:Mem) (size:Nat) (dec:Dec α):At→Option (List Ck × List α)
 | .k (.slice none 0 0)=>some ([],[])
 | .sl n r off len _ =>
  match ge mem n with
  | some (some b)=>if (Nat.ble (off + len * size) b.cs.length && Nat.blt len 4611686018427387904)=true then
    match LM size dec len (b.cs.drop off) with
    | some (k,l)=>some (.eqN r b.r::k,l)
    | none=>none
   else none
  | _=>none
 | _=>none
def EW {α:Type} (size:Nat) (dec:Dec α) (Rl:List Value→α→Prop):Prop :=
 ∀ cs k a,dec cs=some (k,a)→AllCk k→cs.length=size∧cs.all At.known=true∧Rl (cs.map At.den) a∧Ones (cs.map At.den)
theorem I0 {α:Type} {size:Nat} {dec:Dec α} {Rl:List Value→α→Prop} (hd:EW size dec Rl):∀ {n:Nat} {cs:List At} {vs:List Value} {k:List Ck} {l:List α},LM size dec n cs=some (k,l)→AllCk k→CellsRel cs vs →
  l.length=n∧∀ (i:Nat) (a:α),l[i]?=some a→Rl ((vs.drop (i * size)).take size) a∧Ones ((vs.drop (i * size)).take size)∧((vs.drop (i * size)).take size).length=size
 | 0,cs,vs,k,l,h,_,_=>by
  simp only[LM,Option.some.injEq,Prod.mk.injEq] at h
  obtain⟨_,rfl⟩:=h
  exact⟨rfl,fun i a h=>by simp at h⟩
 | n + 1,cs,vs,k,l,h,hk,hr=>by
  simp only[LM] at h
  split at h
  ·cases h
  ·rename_i k1 a h1
   split at h
   ·cases h
   ·rename_i k2 l' h2
    simp only[Option.some.injEq,Prod.mk.injEq] at h
    obtain⟨rfl,rfl⟩:=h
    rw[AllCk.append] at hk
    obtain⟨d1,d2,d3,d4⟩:=hd _ _ _ h1 hk.1
    have e:vs.take size=(cs.take size).map At.den:=(hr.take size).known d2
    obtain⟨i1,i2⟩:=I0 hd h2 hk.2 (hr.drop size)
    refine⟨by simp[i1],fun i a' hi=>?_⟩
    cases i with
    | zero =>
     simp only[List.getElem?_cons_zero,Option.some.injEq] at hi
     subst hi
     rw[Nat.zero_mul,List.drop_zero,e]
     exact⟨d3,d4,by rw[List.length_map,d1]⟩
    | succ i =>
     have:=i2 i a' (by simpa using hi)
     rw[List.drop_drop] at this
     rw[show (i + 1) * size=size + i * size by rw[Nat.add_mul];omega]
     exact this
theorem LE {α:Type} {mem:Mem} {size:Nat} {dec:Dec α} {Rl:List Value→α→Prop} (hd:EW size dec Rl) {x:At} {k:List Ck} {l:List α} (h:slD mem size dec x=some (k,l)) (hk:AllCk k) {L:Go.Sx.Own} (hB:Boxes (fun n=>(ge mem n).getD none) L) (H:Heap) :
  x.known=true∧∃ rows,RSl H L size x.den rows∧rows.length=l.length∧∀ (i:Nat) (r:List Value) (a:α),rows[i]?=some r→l[i]?=some a→Rl r a:=by
 unfold slD at h
 split at h
 ·simp only[Option.some.injEq,Prod.mk.injEq] at h
  obtain⟨_,rfl⟩:=h
  exact⟨rfl,[],(Sl.nil H size).rsl L,rfl,fun i r a h=>by simp at h⟩
 ·rename_i n r off len cap
  split at h
  ·rename_i b hb
   split at h
   ·rename_i hc
    split at h
    ·rename_i k' l' hrow
     simp only[Option.some.injEq,Prod.mk.injEq] at h
     obtain⟨rfl,rfl⟩:=h
     obtain⟨hr,hk'⟩:=hk
     have hr:r=b.r:=hr
     subst hr
     rw[Bool.and_eq_true] at hc
     have hfit:off + len * size≤b.cs.length:=Nat.le_of_ble_eq_true hc.1
     have hlen:len < 4611686018427387904:=Nat.le_of_ble_eq_true hc.2
     obtain⟨vs,L',hrel,hp,_⟩:=hB.take (n:=n) (b:=b) (by simp[hb])
     have hvl:=hrel.length
     obtain⟨l1,l2⟩:=I0 hd hrow hk' (hrel.drop off)
     refine⟨rfl,(List.range len).map fun i=>((vs.drop off).drop (i * size)).take size,⟨rfl,?_,?_,?_⟩,by simp[l1],?_⟩
     ·simp[At.den,al,goInt]
     ·simp;omega
     ·intro kd i row hi
      have hlt:i < len:=by
       have:=(List.getElem?_eq_some_iff.1 hi).1
       simpa using this
      have hrowi:((vs.drop off).drop (i * size)).take size=row:=by
       rw[List.getElem?_map,List.getElem?_range hlt] at hi
       simpa using hi
      have hli:l'[i]?=some l'[i]:=List.getElem?_eq_getElem (by omega)
      obtain⟨q1,q2,q3⟩:=l2 i _ hli
      rw[hrowi] at q1 q2 q3
      have hmem:(b.r,Obj.cells vs.toArray b.T (0,0)) ∈ L:=hp.mem_iff.2 (by simp)
      refine⟨⟨b.r,off + i * size,none⟩,?_,.inr ⟨_,vs.toArray,b.T,rfl,rfl,hmem,?_,q3⟩,fun o m hle=>.inr ⟨⟨b.r,off + i * size + o,none⟩,vs.toArray,b.T,?_,rfl,hmem,?_,?_⟩,q3,q2⟩
      ·simp only[At.den,al,nN]
       rw[if_pos ⟨by omega,by omega⟩,bK]
       simp
      ·rw[← hrowi,List.drop_drop]
      ·show Value.pointer (some ((⟨b.r,off + i * size,none⟩:Addr).add o))=_
       rw[bK]
      ·rw[← hrowi,List.drop_drop,List.drop_take,List.take_take,Nat.min_eq_left (by omega),List.drop_drop]
      ·rw[List.length_take,List.length_drop,q3];omega
     ·intro i r a hi ha
      have hlt:i < len:=by
       have:=(List.getElem?_eq_some_iff.1 hi).1
       simpa using this
      rw[List.getElem?_map,List.getElem?_range hlt] at hi
      have hi:((vs.drop off).drop (i * size)).take size=r:=by simpa using hi
      rw[← hi]
      exact (l2 i a ha).1
    ·cases h
   ·cases h
  ·cases h
 ·cases h
theorem jo {α:Type} {mem:Mem} {size:Nat} {dec:Dec α} {row:α→List Value} (hd:EW size dec fun r a=>r=row a) {x:At} {k:List Ck} {l:List α} (h:slD mem size dec x=some (k,l)) (hk:AllCk k) {L:Go.Sx.Own} (hB:Boxes (fun n=>(ge mem n).getD none) L) (H:Heap) :
  RSl H L size x.den (l.map row):=by
 obtain⟨_,rows,h1,h2,h3⟩:=LE hd h hk hB H
 have:rows=l.map row:=by
  refine List.ext_getElem (by simp[h2]) fun i a b=>?_
  have:=h3 i rows[i] l[i] (List.getElem?_eq_getElem a) (List.getElem?_eq_getElem (by omega))
  rw[this];simp
 rw[← this];exact h1
def pR:Dec Int
 | [a]=>match dI a with | some n=>some ([],n) | none=>none
 | _=>none
theorem ij:EW 1 pR fun r n=>r=[iV n]:=by
 intro cs k a h _
 unfold pR at h
 split at h
 ·split at h
  ·rename_i n hn
   simp only[Option.some.injEq,Prod.mk.injEq] at h
   obtain⟨_,rfl⟩:=h
   obtain rfl:=fH hn
   exact⟨rfl,rfl,rfl,rfl,trivial⟩
  ·cases h
 ·cases h
def CE {α:Type} (f:Int→Int→α):Dec α
 | [a,b]=>match dI a,dI b with | some n,some m=>some ([],f n m) | _,_=>none
 | _=>none
theorem Gy {α:Type} {f:Int→Int→α} {row:α→List Value} (hf:∀ n m,row (f n m)=[iV n,iV m]):EW 2 (CE f) fun r a=>r=row a:=by
 intro cs k a h _
 unfold CE at h
 split at h
 ·split at h
  ·rename_i n m hn hm
   simp only[Option.some.injEq,Prod.mk.injEq] at h
   obtain⟨_,rfl⟩:=h
   obtain rfl:=fH hn
   obtain rfl:=fH hm
   exact⟨rfl,rfl,(hf n m).symm,rfl,rfl,trivial⟩
  ·cases h
 ·cases h
def SJ:Dec Ob
 | [a0,a1,a2,a3,a4,a5,a6,a7,a8,b0,b1,b2] =>
  (dI a0).bind fun n0=>(dI a1).bind fun n1=>(dI a2).bind fun n2=>(dI a3).bind fun n3=>(dI a4).bind fun n4=>(dI a5).bind fun n5=>(dI a6).bind fun n6=>(dI a7).bind fun n7=>(dI a8).bind fun n8=>(dB b0).bind fun m0=>(dB b1).bind fun m1=>(dB b2).bind fun m2=>some ([],⟨n0,n1,n2,n3,n4,n5,n6,n7,n8,m0,m1,m2⟩)
 | _=>none
theorem Qf:EW 12 SJ fun r o=>r=Ob.row o:=by
 intro cs k a h _
 unfold SJ at h
 split at h
 ·simp only[Option.bind_eq_some_iff,Option.some.injEq,Prod.mk.injEq] at h
  obtain⟨n0,e0,n1,e1,n2,e2,n3,e3,n4,e4,n5,e5,n6,e6,n7,e7,n8,e8,m0,f0,m1,f1,m2,f2,_,rfl⟩:=h
  obtain rfl:=fH e0
  obtain rfl:=fH e1
  obtain rfl:=fH e2
  obtain rfl:=fH e3
  obtain rfl:=fH e4
  obtain rfl:=fH e5
  obtain rfl:=fH e6
  obtain rfl:=fH e7
  obtain rfl:=fH e8
  obtain rfl:=Ey f0
  obtain rfl:=Ey f1
  obtain rfl:=Ey f2
  exact⟨rfl,rfl,rfl,rfl,rfl,rfl,rfl,rfl,rfl,rfl,rfl,rfl,rfl,rfl,rfl,trivial⟩
 ·cases h
def NB (mem:Mem):Dec It
 | [a0,a1,a2,a3,s]=>(dI a0).bind fun n0=>(dI a1).bind fun n1=>(dI a2).bind fun n2=>(dI a3).bind fun n3=>(slD mem 2 (CE Tg.mk) s).bind fun t=>some (t.1,⟨n0,n1,n2,n3,t.2⟩)
 | _=>none
theorem Jp:EW 2 (CE Tg.mk) fun r t=>r=Tg.row t:=Gy fun _ _=>rfl
theorem Qh:EW 2 (CE Bl.mk) fun r t=>r=Bl.row t:=Gy fun _ _=>rfl
theorem Qg {mem:Mem} {L:Go.Sx.Own} (hB:Boxes (fun n=>(ge mem n).getD none) L) (H:Heap):EW 5 (NB mem) fun r x=>ItR H L r x:=by
 intro cs k a h hk
 unfold NB at h
 split at h
 ·simp only[Option.bind_eq_some_iff,Option.some.injEq,Prod.mk.injEq] at h
  obtain⟨n0,e0,n1,e1,n2,e2,n3,e3,t,e4,rfl,rfl⟩:=h
  obtain rfl:=fH e0
  obtain rfl:=fH e1
  obtain rfl:=fH e2
  obtain rfl:=fH e3
  have hs:=jo Jp e4 hk hB H
  have hkn:=(LE Jp e4 hk hB H).1
  exact⟨rfl,by rw[List.all_cons,List.all_cons,List.all_cons,List.all_cons,List.all_cons,hkn];rfl,⟨_,rfl,hs⟩,rfl,rfl,rfl,rfl,hs.one,trivial⟩
 ·cases h
theorem LF {mem:Mem} {x:At} {k:List Ck} {l:List It} (h:slD mem 5 (NB mem) x=some (k,l)) (hk:AllCk k) {L:Go.Sx.Own} (hB:Boxes (fun n=>(ge mem n).getD none) L) (H:Heap):ItsR H L x.den l:=by
 obtain⟨_,rows,h1,h2,h3⟩:=LE (Qg hB H) h hk hB H
 exact⟨rows,h1,h2,h3⟩
def dBd (mem:Mem):List At→Option (List Ck × cI × Bd)
 | a0::a1::a2::a3::a4::a5::a6::a7::a8::a9::a10::a11::a12::a13::a14::a15::a16::a17::a18::a19::a20::a21::a22::a23::a24::a25::a26::a27::a28::a29::a30::a31::a32::a33::a34::a35::a36::a37::[] =>
  (slD mem 12 SJ a0).bind fun n0=>(dI a1).bind fun n1=>(dI a2).bind fun n2=>(dI a3).bind fun n3=>(dI a4).bind fun n4=>(dI a5).bind fun n5=>(slD mem 1 pR a6).bind fun n6=>(slD mem 1 pR a7).bind fun n7=>(slD mem 1 pR a8).bind fun n8=>(slD mem 1 pR a9).bind fun n9=>(dB a10).bind fun n10=>(dB a11).bind fun n11=>(dB a12).bind fun n12=>(dI a13).bind fun n13=>(dI a14).bind fun n14=>(dI a15).bind fun n15=>(dI a16).bind fun n16=>(dI a17).bind fun n17=>(dI a18).bind fun n18=>(dI a19).bind fun n19=>(slD mem 1 pR a20).bind fun n20=>(slD mem 1 pR a21).bind fun n21=>(slD mem 1 pR a22).bind fun n22=>(slD mem 1 pR a23).bind fun n23=>(dB a24).bind fun n24=>(dB a25).bind fun n25=>(dB a26).bind fun n26=>(dI a27).bind fun n27=>(dI a28).bind fun n28=>(slD mem 5 (NB mem) a29).bind fun n29=>(slD mem 5 (NB mem) a30).bind fun n30=>(slD mem 1 pR a31).bind fun n31=>(slD mem 2 (CE Bl.mk) a32).bind fun n32=>(dI a33).bind fun n33=>(dI a34).bind fun n34=>(dI a35).bind fun n35=>(dI a36).bind fun n36=>(dI a37).bind fun n37=>
   some (n0.1++(n6.1++(n7.1++(n8.1++(n9.1++(n20.1++(n21.1++(n22.1++(n23.1++(n29.1++(n30.1++(n31.1++(n32.1)))))))))))),⟨a0.den,a6.den,a7.den,a8.den,a9.den,a20.den,a21.den,a22.den,a23.den,a29.den,a30.den,a31.den,a32.den⟩,⟨n0.2,⟨n1,n2,n3,n4,n5,n6.2,n7.2,n8.2,n9.2,n10,n11,n12,n13,n14⟩,⟨n15,n16,n17,n18,n19,n20.2,n21.2,n22.2,n23.2,n24,n25,n26,n27,n28⟩,n29.2,n30.2,n31.2,n32.2,n33,n34,n35,n36,n37⟩)
 | _=>none
theorem Uu {mem:Mem} {l:List At} {k:List Ck} {v:cI} {b:Bd} (h:dBd mem l=some (k,v,b)) (hk:AllCk k) {L:Go.Sx.Own} (hB:Boxes (fun n=>(ge mem n).getD none) L) (H:Heap):l.map At.den=ao v b∧BdR H L v b:=by
 unfold dBd at h
 split at h
 ·simp only[Option.bind_eq_some_iff,Option.some.injEq,Prod.mk.injEq] at h
  obtain⟨n0,e0,n1,e1,n2,e2,n3,e3,n4,e4,n5,e5,n6,e6,n7,e7,n8,e8,n9,e9,n10,e10,n11,e11,n12,e12,n13,e13,n14,e14,n15,e15,n16,e16,n17,e17,n18,e18,n19,e19,n20,e20,n21,e21,n22,e22,n23,e23,n24,e24,n25,e25,n26,e26,n27,e27,n28,e28,n29,e29,n30,e30,n31,e31,n32,e32,n33,e33,n34,e34,n35,e35,n36,e36,n37,e37,rfl,rfl,rfl⟩:=h
  simp only[AllCk.append] at hk
  obtain⟨c0,c6,c7,c8,c9,c20,c21,c22,c23,c29,c30,c31,c32⟩:=hk
  obtain rfl:=fH e1
  obtain rfl:=fH e2
  obtain rfl:=fH e3
  obtain rfl:=fH e4
  obtain rfl:=fH e5
  obtain rfl:=Ey e10
  obtain rfl:=Ey e11
  obtain rfl:=Ey e12
  obtain rfl:=fH e13
  obtain rfl:=fH e14
  obtain rfl:=fH e15
  obtain rfl:=fH e16
  obtain rfl:=fH e17
  obtain rfl:=fH e18
  obtain rfl:=fH e19
  obtain rfl:=Ey e24
  obtain rfl:=Ey e25
  obtain rfl:=Ey e26
  obtain rfl:=fH e27
  obtain rfl:=fH e28
  obtain rfl:=fH e33
  obtain rfl:=fH e34
  obtain rfl:=fH e35
  obtain rfl:=fH e36
  obtain rfl:=fH e37
  exact⟨rfl,⟨jo Qf e0 c0 hB H,⟨jo ij e6 c6 hB H,jo ij e7 c7 hB H,jo ij e8 c8 hB H,jo ij e9 c9 hB H⟩,⟨jo ij e20 c20 hB H,jo ij e21 c21 hB H,jo ij e22 c22 hB H,jo ij e23 c23 hB H⟩,LF e29 c29 hB H,LF e30 c30 hB H,jo ij e31 c31 hB H,jo Qh e32 c32 hB H⟩⟩
 ·cases h
def Vn (fv:Nat) (val:Bd→Bool):OB:=fun f args mem _ =>
 if Nat.beq f fv=true then
  match args with
  | [.agg l]=>match dBd mem l with
   | some (k,_,b)=>some (k,.s (.at (.k (.bool (val b)))))
   | none=>none
  | _=>none
 else none
theorem Ry {P:Program} {ok:FuncId→Bool} {fv:Nat} {val:Bd→Bool} (hc:∀ (H:Heap) (O:Go.Sx.Own) (v:cI) (b:Bd),BdR H O v b→RetO P fv [.agg (ao v b).toArray] H O (.bool (val b))) (H:Heap):Ou P ok H (Vn fv val):=by
 intro f args mem h cs sv _ hs hck
 unfold Vn at hs
 split at hs
 ·rename_i hf
  have hf:f=fv:=Nat.eq_of_beq_eq_true hf
  subst hf
  split at hs
  ·rename_i l
   split at hs
   ·rename_i k v b hd
    simp only[Option.some.injEq,Prod.mk.injEq] at hs
    obtain⟨rfl,rfl⟩:=hs
    refine⟨EZ _,fun F w next _ hm=>?_⟩
    obtain⟨L,O,hB,hok,hM,hmod,hfr⟩:=hm
    obtain⟨h1,h2⟩:=Uu hd hck hB H
    have hret:=Triple.frame (hc H L v b h2) O
    have e:(([S1.agg l]:List S1).map S1.den).toArray=[Value.agg (ao v b).toArray].toArray:=by simp[S1.den,h1]
    rw[e]
    refine (hret w F (by simpa using hmod)).mono ?_
    rintro e' w' ⟨v',H',O',he,⟨O'',q1,q2,q3⟩,hle,hm'⟩
    rw[q1,q3] at hm'
    exact⟨v',he,q2,L,O,hB,hok,hM,by simpa using hm'.less hle,hfr⟩
   ·cases hs
  ·cases hs
 ·cases hs
end Go.Sx
