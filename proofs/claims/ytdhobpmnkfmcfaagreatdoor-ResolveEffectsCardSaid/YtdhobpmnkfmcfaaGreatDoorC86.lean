/- The reference's effect. -/
import Derived.Test.YtdhobpmnkfmcfaaGreatDoorP2
import Derived.Test.YtdhobpmnkfmcfaaGreatDoorC51
import Derived.Test.YtdhobpmnkfmcfaaGreatDoorC32
namespace Go.Proofs.YtdhobpmnkfmcfaaGreatDoor
open Go Go.Sx
set_option maxRecDepth 100000
set_option maxHeartbeats 1000000
def N9 (x:Bd) (r:Value) (H':Heap) (O':Own):Prop:=(∃ w,r=.agg (ap w x).toArray∧BdS H' w x)∧O'=[]
theorem eI {H:Heap} {O:Own} {w:cX} {x:Bd} (ho:OwnB tys w x O):(Tree.ret (.agg (ap w x).toArray) []).den PP (N9 x) H O:=by
 intro hc
 obtain ⟨H',g,k,_⟩:=ho.freeze (X:=[]) (by simpa using hc)
 exact ⟨H',[],by simpa using g,⟨w,rfl,k⟩,rfl⟩
def gT (cs:List CdX) (b:Bd) (id:Int):Int:=if onB cs b id=true then eH b id else -1
theorem CP {cs:List CdX} {b:Bd} {id:Int} (h:gT cs b id ≥ 0):onB cs b id=true:=by
 rw [gT] at h
 split at h
 ·assumption
 ·omega
theorem CQ {cs:List CdX} {b:Bd} {id:Int} (h:¬ gT cs b id ≥ 0):¬ onB cs b id=true:=by
 intro hon
 obtain ⟨k,f1,f2,f3,f4,f5⟩:=eW (mZ hon).2.2
 rw [gT,if_pos hon,f3] at h
 omega
theorem jK {b:Bd} (hv:ax b=true) (q:Int):0≤(au b q).p0∧0≤(au b q).p1∧0≤(au b q).p2∧0≤(au b q).p3:=by
 have h:=BM hv q
 simp only [bW,Bool.and_eq_true,ar,decide_eq_true_eq,List.all_cons,List.all_nil] at h
 obtain ⟨_,⟨⟨a1,a2⟩,⟨a3,a4⟩,⟨a5,a6⟩,⟨a7,a8⟩,_⟩,_⟩:=h
 exact ⟨a1,a3,a5,a7⟩
theorem kh {b:Bd} {id:Int} (hi:bc b id=0) {k:Nat} (hk:eH b id=(k:Nat)) {f:Ob→Ob} (h1:(f (dl b id)).id=id) (h2:(f (dl b id)).card=(dl b id).card) (h3:(f (dl b id)).owner=(dl b id).owner) (hvo:ba (f (dl b id))=true) :
  de b id f=dD b k (f (dl b id)):=by
 rw [de,KX hi h1 h2 h3 hvo,if_pos rfl,hk];rfl
theorem Ln {H:Heap} {O:Own} {a b:Int} (ha:sm a) (hb:sm b):RetO PP kK [iV a,iV b] H O (iV (oA a b)):=by
 refine mt (vs:=[iV a,iV b]) (by kernel_rfl) ⟨rfl,rfl,trivial⟩ ?_
 simp only [gv]
 obtain ⟨a1,a2⟩:=ha
 obtain ⟨b1,b2⟩:=hb
 refine ab _ (gR _ _) (ab _ (ln _ _) (ab _ (gR _ _) (ab _ (ln _ _) (ab _ (rv ?_ ?_) (ab _ (gR _ _) (ah ⟨?_,rfl⟩))))))
 ·omega
 ·omega
 ·congr 1
  rw [oA]
  omega
theorem OwnB.store_off {t:Tys} {w:cX} {b:Bd} {O:Own} (h:OwnB t w b O) {k:Nat} {o:Ob} (hk:b.objs[k]?=some o) {off:Nat} {ys:List Value} {o':Ob} (h1:off + ys.length≤12) (h2:Ones ys) (he:cq o.row off ys=o'.row) {a:Addr} (ha:al (.idx 12) [w.o,iV k]=some (.pointer (some a))) :
  ∃ O1,vy O (aT (.pointer (some a)) off) ys O1∧OwnB t w (dD b k o') O1:=by
 obtain ⟨Oo,A0,B0,C0,D0,A1,B1,C1,D1,Os,Oq,Oa,Obk,hp,h⟩:=h
 obtain ⟨a',k1,k2⟩:=h.objs.store hp (k:=.i64) (i:=k) (row:=o.row) (by rw [List.getElem?_map,hk];rfl)
 have:a'=a:=by
  rw [ha] at k1
  simpa using k1.symm
 subst this
 obtain ⟨O1',s1,s2⟩:=k2 off ys h1 h2
 refine ⟨_,s1,O1',A0,B0,C0,D0,A1,B1,C1,D1,Os,Oq,Oa,Obk,List.Perm.refl _,?_⟩
 have e:(b.objs.map Ob.row).set k (cq o.row off ys)=(dD b k o').objs.map Ob.row:=by
  rw [he,dD,List.map_set]
 rw [e] at s2
 exact ⟨s2,h.l0,h.h0,h.f0,h.g0,h.l1,h.h1,h.f1,h.g1,h.stack,h.queue,h.att,h.blocks⟩
theorem HL {w:cX} {b:Bd} {O:Own} (ho:OwnB tys w b O) (H:Heap) {k:Nat} {o:Ob} (hk:b.objs[k]?=some o):∃ a,al (.idx 12) [w.o,iV k]=some (.pointer (some a))∧∀ off m,off + m≤12→Reads H O (aT (.pointer (some a)) off) m ((o.row.drop off).take m):=by
 obtain ⟨a,k1,_,k3,_⟩:=(ho.r (fun p hp=>hp) H).objs.idx .i64 k (Ob.row o) (by rw [List.getElem?_map,hk];rfl)
 exact ⟨a,k1,k3⟩
theorem IQ {H:Heap} {O:Own} {u:cX} {b:Bd} (ho:OwnB tys u b O) {k:Nat} {o o':Ob} (hk:b.objs[k]?=some o) {n:Nat} (hn:n + 1≤12) (he:cq o.row n [.bool true]=o'.row) {ra rb:Nat} :
  (bN ra (ap u b) [iV (k:Nat)] n rb).den PP (N9 (dD b k o')) H O:=by
 simp only [bN]
 obtain ⟨a,i1,i2⟩:=HL ho H hk
 obtain ⟨O1,s1,s2⟩:=OwnB.store_off ho hk (off:=n) (ys:=[.bool true]) hn ⟨rfl,trivial⟩ he i1
 refine aa ?_
 refine ab _ i1 ?_
 refine aB rfl (aB rfl ?_)
 refine ⟨_,s1,?_⟩
 simp only [aF]
 refine aa (aa (aa ?_))
 exact eI s2
theorem Nm {H:Heap} {O:Own} {u:cX} {b:Bd} (ho:OwnB tys u b O) {k:Nat} {o o':Ob} (hk:b.objs[k]?=some o) {n:Nat} {x y:Int} (hx:sm x) (hy:sm y) (hn:n + 1≤12) {l:List Value} (q43:g l 43=iV y) (hr:(o.row.drop n).take 1=[iV x]) (he:cq o.row n [iV (oA x y)]=o'.row) {ra rb rc:Nat} :
  (cd ra (ap u b) [iV (k:Nat)] n rb l rc).den PP (N9 (dD b k o')) H O:=by
 simp only [cd]
 obtain ⟨a,i1,i2⟩:=HL ho H hk
 obtain ⟨O1,s1,s2⟩:=OwnB.store_off ho hk (off:=n) (ys:=[iV (oA x y)]) hn ⟨rfl,trivial⟩ he i1
 have hrd:=i2 n 1 hn
 rw [hr] at hrd
 rw [q43]
 refine aa (aa ?_)
 refine ab _ i1 ?_
 refine aB rfl ?_
 refine aq (vs:=[iV x]) hrd rfl ⟨rfl,trivial⟩ ?_
 refine aa ?_
 refine ai (Ln hx hy) rfl ⟨rfl,trivial⟩ fun H1 l1=>?_
 refine ab _ i1 ?_
 refine aB rfl (aB rfl ?_)
 refine ⟨_,s1,?_⟩
 refine aa (aa (aa ?_))
 exact eI s2
theorem Oj {H:Heap} {O:Own} {cs:List CdX} {u:cX} {b:Bd} (ho:OwnB tys u b O) {e:Eff} (hn:sm e.n) (hm:sm e.m) {id:Int} {l:List Value} (q43:g l 43=iV e.n) (q44:g l 44=iV e.m) (ha:∀ o,tG e o={ o with pp:=oA o.pp e.n,pt:=oA o.pt e.m }) {ra rb rc:Nat} :
  (dw [iV (gT cs b id)] ra (ap u b) rb l rc).den PP (N9 (if onB cs b id=true then de b id (tG e) else b)) H O:=by
 simp only [dw]
 rw [q43,q44]
 refine ab _ (cZ _ _) (aj (fun h=>?_) (fun h=>?_))
 rotate_left
 ·have hon:=CQ (of_decide_eq_false h)
  rw [if_neg hon]
  simp only [aF]
  refine aa (aa (aa ?_))
  exact eI ho
 have hon:=CP (of_decide_eq_true h)
 obtain ⟨k,f1,f2,f3,f4,f5⟩:=eW (mZ hon).2.2
 obtain ⟨a1,a2,a3⟩:=lP e (dl b id)
 rw [if_pos hon,kh (mZ hon).2.2 f3 (a1.trans f2) a2 a3 (lO f4),gT,if_pos hon,f3,ha]
 generalize dl b id=o at *
 have hsm:=ny f4
 obtain ⟨a,i1,i2⟩:=HL ho H f1
 obtain ⟨O1,s1,s2⟩:=OwnB.store_off ho f1 (off:=7) (ys:=[iV (oA o.pp e.n)]) (o':={ o with pp:=oA o.pp e.n }) (by simp) ⟨rfl,trivial⟩ rfl i1
 have hk2:(dD b k { o with pp:=oA o.pp e.n }).objs[k]?=some { o with pp:=oA o.pp e.n }:=by
  have:=(List.getElem?_eq_some_iff.1 f1).1
  simp [dD,this]
 obtain ⟨O2,t1,t2⟩:=OwnB.store_off s2 hk2 (off:=8) (ys:=[iV (oA o.pt e.m)]) (o':={ o with pp:=oA o.pp e.n,pt:=oA o.pt e.m }) (by simp) ⟨rfl,trivial⟩ rfl i1
 have hset:dD (dD b k { o with pp:=oA o.pp e.n }) k { o with pp:=oA o.pp e.n,pt:=oA o.pt e.m }=dD b k { o with pp:=oA o.pp e.n,pt:=oA o.pt e.m }:=by
  simp [dD]
 rw [hset] at t2
 refine aa ?_
 refine ab _ i1 ?_
 refine aB rfl (aB rfl ?_)
 refine aq (vs:=[iV o.pp]) (i2 7 1 (by omega)) rfl ⟨rfl,trivial⟩ ?_
 refine aa (aB rfl (aB rfl ?_))
 refine aq (vs:=[iV o.pt]) (i2 8 1 (by omega)) rfl ⟨rfl,trivial⟩ ?_
 refine aa ?_
 refine ai (Ln hsm.2.2.1 hn) rfl ⟨rfl,trivial⟩ fun H1 l1=>?_
 refine ai (Ln hsm.2.2.2 hm) rfl ⟨rfl,trivial⟩ fun H2 l2=>?_
 refine aB rfl (aB rfl (aB rfl ?_))
 refine ⟨_,s1,?_⟩
 refine aB rfl (aB rfl (aB rfl ?_))
 refine ⟨_,t1,?_⟩
 refine aa (aa (aa ?_))
 exact eI t2
theorem Gi {H:Heap} {O:Own} {cv:Value} {cs:List CdX} (hk:CardsX H cv cs) {v:cX} {b:Bd} (h:BdR H O v b) (hv:ax b=true) (id:Int):RetO PP kY [cv,.agg (ap v b).toArray,iV id] H O (iV (gT cs b id)):=by
 refine pU (vs:=cv::(ap v b++[iV id])) (by kernel_rfl) ⟨hk.one,ay (ao h) ⟨rfl,trivial⟩⟩ ?_
 simp only [fZ]
 refine af fun r0=>?_
 refine aa ?_
 refine ai (wv h id) rfl ⟨rfl,trivial⟩ fun H1 l1=>?_
 have h:=h.le l1
 refine ab _ (aI _ _) (aj (fun hi=>?_) (fun hi=>?_))
 ·have hi:eH b id < 0:=of_decide_eq_true hi
  have hn:¬ onB cs b id=true:=fun hon=>by
   obtain ⟨k,f1,f2,f3,f4,f5⟩:=eW (mZ hon).2.2
   omega
  refine ah ⟨?_,rfl⟩
  rw [gT,if_neg hn]
 have hi:¬ eH b id < 0:=of_decide_eq_false hi
 obtain ⟨k,o,e1,e2,e3⟩:=nO (b:=b) (id:=id) (by omega)
 obtain ⟨g1,g2,_⟩:=I6 hv e1
 rw [e2] at g1 g2
 have hown:=(d9 (aW hv).1 e1).2.2.2
 have hon:onB cs b id=(eo (PS cs) o && (au b o.owner).field.contains id):=by rw [onB,g1,g2];rfl
 have hnd:∀ q,(au b q).field.Nodup:=fun q=>by
  have:=uk (aW hv).1
  rw [au];split
  ·exact this.1
  ·exact this.2
 obtain ⟨a,i1,i2,i3,i4,i5⟩:=h.objs.idx .i64 k (Ob.row o) (by rw [List.getElem?_map,e1];rfl)
 rw [e3]
 refine aa ?_
 refine ab _ i1 (aq i2 i4 i5 ?_)
 refine ai (y8 (hk.le l1).base.kinds o) rfl ⟨rfl,trivial⟩ fun H2 l2=>?_
 have h:=h.le l2
 have i3:Reads H2 O (aT (.pointer (some a)) 2) 1 [iV o.owner]:=by
  obtain ⟨a',j1,_,j3,_,_⟩:=h.objs.idx .i64 k (Ob.row o) (by rw [List.getElem?_map,e1];rfl)
  have:a'=a:=by
   rw [i1] at j1
   simpa using j1.symm
  subst this
  exact j3 2 1 (by omega)
 refine ab _ (aM _) (aj (fun hc=>?_) (fun hc=>?_))
 ·have hc:eo (PS cs) o=false:=vp hc
  refine ah ⟨?_,rfl⟩
  rw [gT,hon,hc,if_neg (by simp)]
 have hc:eo (PS cs) o=true:=qW hc
 rw [hc,Bool.true_and] at hon
 have hcnt:∀ q,(((au b q).field.count id:Nat):Int) ≠ 1→(au b q).field.contains id=false:=fun q hne=>by
  cases hcon:(au b q).field.contains id
  ·rfl
  ·exfalso
   have hm:id ∈ (au b q).field:=by simpa using hcon
   have:=(hnd q).count (a:=id)
   rw [if_pos hm] at this
   omega
 have hcnt2:∀ q,(((au b q).field.count id:Nat):Int)=1→(au b q).field.contains id=true:=fun q he=>by
  have:0 < (au b q).field.count id:=by omega
  simpa using List.count_pos_iff.1 this
 refine aa ?_
 refine ab _ i1 (aB rfl (aq (vs:=[iV o.owner]) i3 rfl ⟨rfl,trivial⟩ ?_))
 rcases hown with hown | hown
 ·refine ⟨.i64,o.owner,rfl,fun _=>?_,fun e=>absurd hown e⟩
  refine aa ?_
  refine ai (fW h.s0.field id) rfl ⟨rfl,trivial⟩ fun H3 l3=>?_
  refine ab _ (bd _ _) (aj (fun hq=>?_) (fun hq=>?_))
  ·have hq:((b.s0.field.count id:Nat):Int) ≠ 1:=by simpa using hq
   refine ah ⟨?_,rfl⟩
   rw [gT,hon,hown,hcnt 0 hq,if_neg (by simp)]
  ·have hq:((b.s0.field.count id:Nat):Int)=1:=by simpa using hq
   refine ah ⟨?_,rfl⟩
   rw [gT,hon,hown,hcnt2 0 hq,if_pos rfl,e3];rfl
 ·refine ⟨.i64,o.owner,rfl,fun e=>absurd (hown.symm.trans e) (by omega),fun _=>⟨.i64,o.owner,rfl,fun _=>?_,fun e=>absurd hown e⟩⟩
  refine aa ?_
  refine ai (fW h.s1.field id) rfl ⟨rfl,trivial⟩ fun H3 l3=>?_
  refine ab _ (bd _ _) (aj (fun hq=>?_) (fun hq=>?_))
  ·have hq:((b.s1.field.count id:Nat):Int) ≠ 1:=by simpa using hq
   refine ah ⟨?_,rfl⟩
   rw [gT,hon,hown,hcnt 1 hq,if_neg (by simp)]
  ·have hq:((b.s1.field.count id:Nat):Int)=1:=by simpa using hq
   refine ah ⟨?_,rfl⟩
   rw [gT,hon,hown,hcnt2 1 hq,if_pos rfl,e3];rfl
section
variable {cv:Value} {cs:List CdX} {v:cX} {b:Bd} (hv:ax b=true) (hB:bdB b) {p src most:Int} {e:Eff} {t:Tg} (hev:EG e=true) (hnb:¬ OV cs b p e t) (hsum:∀ q,(au b q).lib.length + (au b q).hand.length≤1000000)
 {n r1 r2 r0 r3:Nat} {who:Int}
include hv hB hev hnb hsum
theorem Gg {u:cX} {H:Heap} {O:Own} (ho:OwnB tys u b O) {l l7:List Value} (hl:l=(cv::(ap v b++(iV p::iV src::(e.row++(t.row++[iV most])))))) (hw:who=0) (hwd:who=FN p e t) (qn:g l n=iV who) (q7:l7=[iV (gT cs b (idE src e t))]) :
  (cj l n r1 r2 r0 (ap u b) l7 r3).den PP (N9 (aL cs b p who (idE src e t) e most)) H O:=by
 obtain ⟨n0,n99,m0,m99,c0,c3⟩:=oL hev
 obtain ⟨z1,z2,z3,z4,z5,z6,z7,z8⟩:=xZ hev
 have nsm:sm e.n:=by constructor <;> omega
 have msm:sm e.m:=by constructor <;> omega
 have hlf:=pT hv 0
 have q41:g l 41=iV e.code:=by rw [hl];rfl
 have q46:g l 46=iV t.id:=by rw [hl];rfl
 have q43:g l 43=iV e.n:=by rw [hl];rfl
 simp only [cj]
 refine ⟨.i64,who,qn,fun _=>?_,fun h=>absurd hw h⟩
 refine aa ?_
 rw [q41,q46,q43]
 refine ab _ (az _ _) (aj (fun h=>?_) (fun h=>?_))
 ·have hc:e.code=1:=by simpa using h
  have ht:e.target ≠ 0:=by have:=z1 hc;omega
  have eid:idE src e t=t.id:=by rw [idE,if_neg ht]
  rw [eid] at q7 ⊢
  refine aa ?_
  refine ab _ (bH _ _) (aj (fun hp=>?_) (fun hp=>?_))
  ·have hp:t.id > 0:=of_decide_eq_true hp
   have ec:aL cs b p who t.id e most=de b t.id fun o=>{ o with dmg:=oA o.dmg e.n }:=by rw [aL,if_pos hc,if_pos hp]
   have hon:onB cs b t.id=true:=by
    rcases (qj (Gu hnb ht)).2.2.2 with ⟨_,_,h2,_⟩ | ⟨h2,_⟩ | ⟨h6,_⟩
    ·exact h2
    ·omega
    ·have:=z1 hc;omega
   obtain ⟨k,f1,f2,f3,f4,f5⟩:=eW (mZ hon).2.2
   rw [gT,if_pos hon,f3] at q7
   rw [ec,kh (mZ hon).2.2 f3 f2 rfl rfl (CY f4 e.n)]
   subst q7
   exact Nm ho f1 (x:=(dl b t.id).dmg) (ny f4).1 nsm (by omega) (by rw [q43]) rfl rfl
  ·have ec:aL cs b p who t.id e most=nM b 0 (ck ((au b 0).life - e.n) 9999):=by rw [aL,if_pos hc,if_neg (of_decide_eq_false hp),hw]
   rw [ec]
   refine aa (aa ?_)
   refine ab _ (FO (x:=(au b 0).life) (y:=e.n) (by omega) (by omega)) ?_
   refine ab _ (ln _ _) ?_
   simp only [cg]
   refine aa (aa (aa (aa ?_)))
   have ex:ck ((au b 0).life - e.n) 9999=max 0 ((au b 0).life - e.n):=by rw [ck];omega
   rw [ex]
   exact eI (x:=nM b 0 (max 0 ((au b 0).life - e.n))) (ct ho rfl rfl rfl rfl)
 have k1:e.code ≠ 1:=by simpa using h
 refine ab _ (az _ _) (aj (fun h=>?_) (fun h=>?_))
 ·have hc:e.code=2:=by simpa using h
  have ec:aL cs b p who (idE src e t) e most=eE e.n.toNat b 0:=by
   rw [aL,if_neg k1,if_pos hc,hw,tc,if_neg (by rw [hv,show ar 0 0 1=true by decide,decide_eq_false (show ¬ e.n < 0 by omega)];simp)]
  rw [ec]
  simp only [dt]
  rw [qn,q43,hw]
  refine aa (aa ?_)
  have hnn:(iV e.n:Value)=iV ((e.n.toNat:Nat):Int):=by rw [Int.toNat_of_nonneg n0]
  rw [hnn]
  refine dF ho (fun Hf lf hf=>Ou hf hB hv 0 (by omega) (hsum 0) e.n.toNat (by omega)) ?_
  rintro _ H2 _ ⟨⟨w2,rfl,h2⟩,rfl⟩ l2
  refine ⟨ap w2 _,rfl,ao (h2.r []),?_⟩
  simp only [aF]
  refine aa (aa ?_)
  exact ah ⟨⟨w2,rfl,h2⟩,rfl⟩
 have k2:e.code ≠ 2:=by simpa using h
 refine ab _ (az _ _) (aj (fun h=>?_) (fun h=>?_))
 ·have hc:e.code=3:=by simpa using h
  have ec:aL cs b p who (idE src e t) e most=nM b 0 (ck ((au b 0).life + e.n) 9999):=by rw [aL,if_neg k1,if_neg k2,if_pos hc,hw]
  rw [ec]
  refine aa (aa ?_)
  refine ab _ (MI (x:=(au b 0).life) (y:=e.n) (by constructor <;> omega) nsm) ?_
  refine ab _ (gR _ _) ?_
  simp only [cg]
  refine aa (aa (aa (aa ?_)))
  have ex:ck ((au b 0).life + e.n) 9999=min 9999 ((au b 0).life + e.n):=by rw [ck];omega
  rw [ex]
  exact eI (x:=nM b 0 (min 9999 ((au b 0).life + e.n))) (ct ho rfl rfl rfl rfl)
 have k3:e.code ≠ 3:=by simpa using h
 refine ab _ (az _ _) (aj (fun h=>?_) (fun h=>?_))
 ·have hc:e.code=4:=by simpa using h
  have ec:aL cs b p who (idE src e t) e most=nM b 0 (ck ((au b 0).life - e.n) 9999):=by rw [aL,if_neg k1,if_neg k2,if_neg k3,if_pos hc,hw]
  rw [ec]
  refine aa (aa ?_)
  refine ab _ (FO (x:=(au b 0).life) (y:=e.n) (by omega) (by omega)) ?_
  refine ab _ (ln _ _) ?_
  simp only [cg]
  refine aa (aa (aa (aa ?_)))
  have ex:ck ((au b 0).life - e.n) 9999=max 0 ((au b 0).life - e.n):=by rw [ck];omega
  rw [ex]
  exact eI (x:=nM b 0 (max 0 ((au b 0).life - e.n))) (ct ho rfl rfl rfl rfl)
 have k4:e.code ≠ 4:=by simpa using h
 have onT:e.code=5∨e.code=6∨e.code=11→idE src e t=t.id∧onB cs b t.id=true:=fun hc=>by
  have ht:e.target ≠ 0:=by have:=z3 hc;omega
  refine ⟨by rw [idE,if_neg ht],?_⟩
  rcases (qj (Gu hnb ht)).2.2.2 with ⟨_,_,h2,_⟩ | ⟨_,h2⟩ | ⟨h6,_⟩
  ·exact h2
  ·have:=z3 hc;omega
  ·have:=z3 hc;omega
 refine ab _ (az _ _) (aj (fun h=>?_) (fun h=>?_))
 ·have hc:e.code=5:=by simpa using h
  obtain ⟨eid,hon⟩:=onT (.inl hc)
  rw [eid] at q7 ⊢
  obtain ⟨k,f1,f2,f3,f4,f5⟩:=eW (mZ hon).2.2
  have ec:aL cs b p who t.id e most=de b t.id (tG e):=by rw [aL,if_neg k1,if_neg k2,if_neg k3,if_neg k4,if_neg (by omega),if_neg (by omega),if_neg (by omega),if_neg (by omega),if_pos hon]
  obtain ⟨a1,a2,a3⟩:=lP e (dl b t.id)
  rw [gT,if_pos hon,f3] at q7
  rw [ec,kh (mZ hon).2.2 f3 (a1.trans f2) a2 a3 (lO f4)]
  subst q7
  exact IQ ho f1 (by omega) (by rw [tG,if_pos hc];rfl)
 have k5:e.code ≠ 5:=by simpa using h
 refine ab _ (az _ _) (aj (fun h=>?_) (fun h=>?_))
 ·have hc:e.code=11:=by simpa using h
  obtain ⟨eid,hon⟩:=onT (.inr (.inr hc))
  rw [eid] at q7 ⊢
  obtain ⟨k,f1,f2,f3,f4,f5⟩:=eW (mZ hon).2.2
  have ec:aL cs b p who t.id e most=de b t.id (tG e):=by rw [aL,if_neg k1,if_neg k2,if_neg k3,if_neg k4,if_neg (by omega),if_neg (by omega),if_neg (by omega),if_neg (by omega),if_pos hon]
  obtain ⟨a1,a2,a3⟩:=lP e (dl b t.id)
  rw [gT,if_pos hon,f3] at q7
  rw [ec,kh (mZ hon).2.2 f3 (a1.trans f2) a2 a3 (lO f4)]
  subst q7
  exact IQ ho f1 (by omega) (by rw [tG,if_neg k5,if_pos hc];rfl)
 have k11:e.code ≠ 11:=by simpa using h
 refine ab _ (az _ _) (aj (fun h=>?_) (fun h=>?_))
 ·have hc:e.code=6:=by simpa using h
  obtain ⟨eid,hon⟩:=onT (.inr (.inl hc))
  rw [eid]
  obtain ⟨k,f1,f2,f3,f4,f5⟩:=eW (mZ hon).2.2
  have ec:aL cs b p who t.id e most=(fL b t.id 1).1:=by rw [aL,if_neg k1,if_neg k2,if_neg k3,if_neg k4,if_pos hc]
  rw [ec]
  simp only [du]
  rw [q46]
  refine aa (aa ?_)
  refine dF ho (fun Hf lf hf=>by have hm:=y7 hf hv hB f1 1 (by omega);rw [f2] at hm;exact hm) ?_
  rintro _ H2 _ ⟨⟨w2,rfl,h2⟩,rfl⟩ l2
  refine ⟨ap w2 _,rfl,ao (h2.r []),?_⟩
  simp only [aF]
  refine aa (aa ?_)
  exact ah ⟨⟨w2,rfl,h2⟩,rfl⟩
 have k6:e.code ≠ 6:=by simpa using h
 refine ab _ (az _ _) (aj (fun h=>?_) (fun h=>?_))
 ·have hc:e.code=7:=by simpa using h
  have eid:idE src e t=t.id:=by rw [idE,if_neg (by have:=z4 hc;omega)]
  rw [eid]
  have ec:aL cs b p who t.id e most=(bK b t.id).1:=by rw [aL,if_neg k1,if_neg k2,if_neg k3,if_neg k4,if_neg k6,if_pos hc]
  rw [ec]
  simp only [dv]
  rw [q46]
  refine aa (aa ?_)
  refine dF ho (fun Hf lf hf=>Gj hf hv hB) ?_
  rintro _ H2 _ ⟨⟨w2,rfl,h2⟩,rfl⟩ l2
  refine ⟨ap w2 (bK b t.id).1++[iV (bK b t.id).2],rfl,ay (ao (h2.r [])) ⟨rfl,trivial⟩,af fun r=>?_⟩
  refine aa (aa (aa (aa ?_)))
  exact ah ⟨⟨w2,rfl,h2⟩,rfl⟩
 have k7:e.code ≠ 7:=by simpa using h
 have hal:e.code=8∨e.code=9→aL cs b p who (idE src e t) e most=if onB cs b (idE src e t)=true then de b (idE src e t) (tG e) else b:=fun hc=>by
  rw [aL,if_neg k1,if_neg k2,if_neg k3,if_neg k4,if_neg k6,if_neg k7,if_neg (by omega),if_neg (by omega)]
 refine ab _ (az _ _) (aj (fun h=>?_) (fun h=>?_))
 ·have hc:e.code=8:=by simpa using h
  rw [hal (.inl hc)]
  subst q7
  exact Oj ho nsm msm q43 (by rw [hl];rfl) (fun o=>by rw [tG,if_neg k5,if_neg k11,if_pos hc])
 have k8:e.code ≠ 8:=by simpa using h
 refine ab _ (az _ _) (aj (fun h=>?_) (fun h=>?_))
 ·have hc:e.code=9:=by simpa using h
  rw [hal (.inr hc)]
  subst q7
  refine ab _ (cZ _ _) (aj (fun h=>?_) (fun h=>?_))
  ·have hon:=CP (of_decide_eq_true h)
   obtain ⟨k,f1,f2,f3,f4,f5⟩:=eW (mZ hon).2.2
   obtain ⟨a1,a2,a3⟩:=lP e (dl b (idE src e t))
   rw [if_pos hon,kh (mZ hon).2.2 f3 (a1.trans f2) a2 a3 (lO f4),gT,if_pos hon,f3]
   exact Nm ho f1 (x:=(dl b (idE src e t)).cnt) (ny f4).2.1 nsm (by omega) (by rw [q43]) rfl (by rw [tG,if_neg k5,if_neg k11,if_neg k8,if_pos hc];rfl)
  ·have hon:=CQ (of_decide_eq_false h)
   rw [if_neg hon]
   simp only [aF]
   refine aa (aa (aa ?_))
   exact eI ho
 have k9:e.code ≠ 9:=by simpa using h
 refine ab _ (az _ _) (aj (fun h=>?_) (fun h=>?_))
 ·have hc:e.code=10:=by simpa using h
  have hp:p=0∨p=1:=by
   have:FN p e t=p:=by rw [FN,if_pos (z6 (.inl hc))]
   omega
  have ec:aL cs b p who (idE src e t) e most=(vG b p e.n e.m most).1:=by rw [aL,if_neg k1,if_neg k2,if_neg k3,if_neg k4,if_neg k6,if_neg k7,if_pos hc,Of hv hp]
  rw [ec]
  simp only [dQ]
  subst hl
  refine aa (aa (aa ?_))
  refine dF ho (fun Hf lf hf=>Ll hf hB hv hp e.n e.m most) ?_
  rintro _ H2 _ ⟨⟨w2,rfl,h2⟩,rfl⟩ l2
  refine ⟨ap w2 (vG b p e.n e.m most).1++[iV (vG b p e.n e.m most).2],rfl,ay (ao (h2.r [])) ⟨rfl,trivial⟩,af fun r=>?_⟩
  refine aa (aa (aa (aa ?_)))
  exact ah ⟨⟨w2,rfl,h2⟩,rfl⟩
 have k10:e.code ≠ 10:=by simpa using h
 refine ab _ (az _ _) (aj (fun h=>?_) (fun h=>?_))
 ·have hc:e.code=12:=by simpa using h
  have ec:aL cs b p who (idE src e t) e most=bO b 0 (fX (au b 0) e.colour e.n):=by rw [aL,if_neg k1,if_neg k2,if_neg k3,if_neg k4,if_neg k6,if_neg k7,if_neg k10,if_pos hc,hw]
  rw [ec]
  subst hl
  refine aa (aa ?_)
  obtain hc | hc | hc | hc:e.colour=0∨e.colour=1∨e.colour=2∨e.colour=3:=by omega
  ·refine ⟨.i64,e.colour,rfl,fun _=>?_,fun h=>absurd hc h⟩
   simp only [bm]
   refine aa (aa ?_)
   have hpl:=(dE hv 0).1
   have hpr:=(jK hv 0).1
   refine ab _ (MI hpl nsm) ?_
   refine ab _ (gR _ _) ?_
   refine ⟨.i64,e.colour,rfl,fun _=>?_,fun h=>absurd hc h⟩
   refine aa (aa (aa (aa ?_)))
   have ex:fX (au b 0) e.colour e.n={ au b 0 with p0:=min 99 ((au b 0).p0 + e.n) }:=by
    rw [fX,if_pos hc,ck,show max 0 (min ((au b 0).p0 + e.n) 99)=min 99 ((au b 0).p0 + e.n) by omega]
   rw [ex]
   exact eI (x:=bO b 0 { au b 0 with p0:=min 99 ((au b 0).p0 + e.n) }) (ct ho rfl rfl rfl rfl)
  ·refine ⟨.i64,e.colour,rfl,fun h=>absurd (hc.symm.trans h) (by omega),fun _=>⟨.i64,e.colour,rfl,fun _=>?_,fun h=>absurd hc h⟩⟩
   simp only [bm]
   refine aa (aa ?_)
   have hpl:=(dE hv 0).2.1
   have hpr:=(jK hv 0).2.1
   refine ab _ (MI hpl nsm) ?_
   refine ab _ (gR _ _) ?_
   refine ⟨.i64,e.colour,rfl,fun h=>absurd (hc.symm.trans h) (by omega),fun _=>⟨.i64,e.colour,rfl,fun _=>?_,fun h=>absurd hc h⟩⟩
   refine aa (aa (aa (aa ?_)))
   have ex:fX (au b 0) e.colour e.n={ au b 0 with p1:=min 99 ((au b 0).p1 + e.n) }:=by
    rw [fX,if_neg (by omega),if_pos hc,ck,show max 0 (min ((au b 0).p1 + e.n) 99)=min 99 ((au b 0).p1 + e.n) by omega]
   rw [ex]
   exact eI (x:=bO b 0 { au b 0 with p1:=min 99 ((au b 0).p1 + e.n) }) (ct ho rfl rfl rfl rfl)
  ·refine ⟨.i64,e.colour,rfl,fun h=>absurd (hc.symm.trans h) (by omega),fun _=>⟨.i64,e.colour,rfl,fun h=>absurd (hc.symm.trans h) (by omega),fun _=>⟨.i64,e.colour,rfl,fun _=>?_,fun h=>absurd hc h⟩⟩⟩
   simp only [bm]
   refine aa (aa ?_)
   have hpl:=(dE hv 0).2.2.1
   have hpr:=(jK hv 0).2.2.1
   refine ab _ (MI hpl nsm) ?_
   refine ab _ (gR _ _) ?_
   refine ⟨.i64,e.colour,rfl,fun h=>absurd (hc.symm.trans h) (by omega),fun _=>⟨.i64,e.colour,rfl,fun h=>absurd (hc.symm.trans h) (by omega),fun _=>⟨.i64,e.colour,rfl,fun _=>?_,fun h=>absurd hc h⟩⟩⟩
   refine aa (aa (aa (aa ?_)))
   have ex:fX (au b 0) e.colour e.n={ au b 0 with p2:=min 99 ((au b 0).p2 + e.n) }:=by
    rw [fX,if_neg (by omega),if_neg (by omega),if_pos hc,ck,show max 0 (min ((au b 0).p2 + e.n) 99)=min 99 ((au b 0).p2 + e.n) by omega]
   rw [ex]
   exact eI (x:=bO b 0 { au b 0 with p2:=min 99 ((au b 0).p2 + e.n) }) (ct ho rfl rfl rfl rfl)
  ·refine ⟨.i64,e.colour,rfl,fun h=>absurd (hc.symm.trans h) (by omega),fun _=>⟨.i64,e.colour,rfl,fun h=>absurd (hc.symm.trans h) (by omega),fun _=>⟨.i64,e.colour,rfl,fun h=>absurd (hc.symm.trans h) (by omega),fun _=>⟨.i64,e.colour,rfl,fun _=>?_,fun h=>absurd hc h⟩⟩⟩⟩
   simp only [bm]
   refine aa (aa ?_)
   have hpl:=(dE hv 0).2.2.2
   have hpr:=(jK hv 0).2.2.2
   refine ab _ (MI hpl nsm) ?_
   refine ab _ (gR _ _) ?_
   refine ⟨.i64,e.colour,rfl,fun h=>absurd (hc.symm.trans h) (by omega),fun _=>⟨.i64,e.colour,rfl,fun h=>absurd (hc.symm.trans h) (by omega),fun _=>⟨.i64,e.colour,rfl,fun h=>absurd (hc.symm.trans h) (by omega),fun _=>⟨.i64,e.colour,rfl,fun _=>?_,fun h=>absurd hc h⟩⟩⟩⟩
   refine aa (aa (aa (aa ?_)))
   have ex:fX (au b 0) e.colour e.n={ au b 0 with p3:=min 99 ((au b 0).p3 + e.n) }:=by
    rw [fX,if_neg (by omega),if_neg (by omega),if_neg (by omega),ck,show max 0 (min ((au b 0).p3 + e.n) 99)=min 99 ((au b 0).p3 + e.n) by omega]
   rw [ex]
   exact eI (x:=bO b 0 { au b 0 with p3:=min 99 ((au b 0).p3 + e.n) }) (ct ho rfl rfl rfl rfl)
 have k12:e.code ≠ 12:=by simpa using h
 exfalso
 omega
include hv hB hev hnb hsum
theorem Gf {u:cX} {H:Heap} {O:Own} (ho:OwnB tys u b O) {l l7:List Value} (hl:l=(cv::(ap v b++(iV p::iV src::(e.row++(t.row++[iV most])))))) (hw:who=1) (hwd:who=FN p e t) (qn:g l n=iV who) (q7:l7=[iV (gT cs b (idE src e t))]) :
  (cj l n r1 r2 r0 (ap u b) l7 r3).den PP (N9 (aL cs b p who (idE src e t) e most)) H O:=by
 obtain ⟨n0,n99,m0,m99,c0,c3⟩:=oL hev
 obtain ⟨z1,z2,z3,z4,z5,z6,z7,z8⟩:=xZ hev
 have nsm:sm e.n:=by constructor <;> omega
 have msm:sm e.m:=by constructor <;> omega
 have hlf:=pT hv 1
 have q41:g l 41=iV e.code:=by rw [hl];rfl
 have q46:g l 46=iV t.id:=by rw [hl];rfl
 have q43:g l 43=iV e.n:=by rw [hl];rfl
 simp only [cj]
 refine ⟨.i64,who,qn,fun h=>absurd (hw.symm.trans h) (by omega),fun _=>⟨.i64,who,qn,fun _=>?_,fun h=>absurd hw h⟩⟩
 refine aa ?_
 rw [q41,q46,q43]
 refine ab _ (az _ _) (aj (fun h=>?_) (fun h=>?_))
 ·have hc:e.code=1:=by simpa using h
  have ht:e.target ≠ 0:=by have:=z1 hc;omega
  have eid:idE src e t=t.id:=by rw [idE,if_neg ht]
  rw [eid] at q7 ⊢
  refine aa ?_
  refine ab _ (bH _ _) (aj (fun hp=>?_) (fun hp=>?_))
  ·have hp:t.id > 0:=of_decide_eq_true hp
   have ec:aL cs b p who t.id e most=de b t.id fun o=>{ o with dmg:=oA o.dmg e.n }:=by rw [aL,if_pos hc,if_pos hp]
   have hon:onB cs b t.id=true:=by
    rcases (qj (Gu hnb ht)).2.2.2 with ⟨_,_,h2,_⟩ | ⟨h2,_⟩ | ⟨h6,_⟩
    ·exact h2
    ·omega
    ·have:=z1 hc;omega
   obtain ⟨k,f1,f2,f3,f4,f5⟩:=eW (mZ hon).2.2
   rw [gT,if_pos hon,f3] at q7
   rw [ec,kh (mZ hon).2.2 f3 f2 rfl rfl (CY f4 e.n)]
   subst q7
   exact Nm ho f1 (x:=(dl b t.id).dmg) (ny f4).1 nsm (by omega) (by rw [q43]) rfl rfl
  ·have ec:aL cs b p who t.id e most=nM b 1 (ck ((au b 1).life - e.n) 9999):=by rw [aL,if_pos hc,if_neg (of_decide_eq_false hp),hw]
   rw [ec]
   refine aa (aa ?_)
   refine ab _ (FO (x:=(au b 1).life) (y:=e.n) (by omega) (by omega)) ?_
   refine ab _ (ln _ _) ?_
   simp only [ce]
   refine aa (aa (aa (aa ?_)))
   have ex:ck ((au b 1).life - e.n) 9999=max 0 ((au b 1).life - e.n):=by rw [ck];omega
   rw [ex]
   exact eI (x:=nM b 1 (max 0 ((au b 1).life - e.n))) (ct ho rfl rfl rfl rfl)
 have k1:e.code ≠ 1:=by simpa using h
 refine ab _ (az _ _) (aj (fun h=>?_) (fun h=>?_))
 ·have hc:e.code=2:=by simpa using h
  have ec:aL cs b p who (idE src e t) e most=eE e.n.toNat b 1:=by
   rw [aL,if_neg k1,if_pos hc,hw,tc,if_neg (by rw [hv,show ar 1 0 1=true by decide,decide_eq_false (show ¬ e.n < 0 by omega)];simp)]
  rw [ec]
  simp only [dt]
  rw [qn,q43,hw]
  refine aa (aa ?_)
  have hnn:(iV e.n:Value)=iV ((e.n.toNat:Nat):Int):=by rw [Int.toNat_of_nonneg n0]
  rw [hnn]
  refine dF ho (fun Hf lf hf=>Ou hf hB hv 1 (by omega) (hsum 1) e.n.toNat (by omega)) ?_
  rintro _ H2 _ ⟨⟨w2,rfl,h2⟩,rfl⟩ l2
  refine ⟨ap w2 _,rfl,ao (h2.r []),?_⟩
  simp only [aF]
  refine aa (aa ?_)
  exact ah ⟨⟨w2,rfl,h2⟩,rfl⟩
 have k2:e.code ≠ 2:=by simpa using h
 refine ab _ (az _ _) (aj (fun h=>?_) (fun h=>?_))
 ·have hc:e.code=3:=by simpa using h
  have ec:aL cs b p who (idE src e t) e most=nM b 1 (ck ((au b 1).life + e.n) 9999):=by rw [aL,if_neg k1,if_neg k2,if_pos hc,hw]
  rw [ec]
  refine aa (aa ?_)
  refine ab _ (MI (x:=(au b 1).life) (y:=e.n) (by constructor <;> omega) nsm) ?_
  refine ab _ (gR _ _) ?_
  simp only [ce]
  refine aa (aa (aa (aa ?_)))
  have ex:ck ((au b 1).life + e.n) 9999=min 9999 ((au b 1).life + e.n):=by rw [ck];omega
  rw [ex]
  exact eI (x:=nM b 1 (min 9999 ((au b 1).life + e.n))) (ct ho rfl rfl rfl rfl)
 have k3:e.code ≠ 3:=by simpa using h
 refine ab _ (az _ _) (aj (fun h=>?_) (fun h=>?_))
 ·have hc:e.code=4:=by simpa using h
  have ec:aL cs b p who (idE src e t) e most=nM b 1 (ck ((au b 1).life - e.n) 9999):=by rw [aL,if_neg k1,if_neg k2,if_neg k3,if_pos hc,hw]
  rw [ec]
  refine aa (aa ?_)
  refine ab _ (FO (x:=(au b 1).life) (y:=e.n) (by omega) (by omega)) ?_
  refine ab _ (ln _ _) ?_
  simp only [ce]
  refine aa (aa (aa (aa ?_)))
  have ex:ck ((au b 1).life - e.n) 9999=max 0 ((au b 1).life - e.n):=by rw [ck];omega
  rw [ex]
  exact eI (x:=nM b 1 (max 0 ((au b 1).life - e.n))) (ct ho rfl rfl rfl rfl)
 have k4:e.code ≠ 4:=by simpa using h
 have onT:e.code=5∨e.code=6∨e.code=11→idE src e t=t.id∧onB cs b t.id=true:=fun hc=>by
  have ht:e.target ≠ 0:=by have:=z3 hc;omega
  refine ⟨by rw [idE,if_neg ht],?_⟩
  rcases (qj (Gu hnb ht)).2.2.2 with ⟨_,_,h2,_⟩ | ⟨_,h2⟩ | ⟨h6,_⟩
  ·exact h2
  ·have:=z3 hc;omega
  ·have:=z3 hc;omega
 refine ab _ (az _ _) (aj (fun h=>?_) (fun h=>?_))
 ·have hc:e.code=5:=by simpa using h
  obtain ⟨eid,hon⟩:=onT (.inl hc)
  rw [eid] at q7 ⊢
  obtain ⟨k,f1,f2,f3,f4,f5⟩:=eW (mZ hon).2.2
  have ec:aL cs b p who t.id e most=de b t.id (tG e):=by rw [aL,if_neg k1,if_neg k2,if_neg k3,if_neg k4,if_neg (by omega),if_neg (by omega),if_neg (by omega),if_neg (by omega),if_pos hon]
  obtain ⟨a1,a2,a3⟩:=lP e (dl b t.id)
  rw [gT,if_pos hon,f3] at q7
  rw [ec,kh (mZ hon).2.2 f3 (a1.trans f2) a2 a3 (lO f4)]
  subst q7
  exact IQ ho f1 (by omega) (by rw [tG,if_pos hc];rfl)
 have k5:e.code ≠ 5:=by simpa using h
 refine ab _ (az _ _) (aj (fun h=>?_) (fun h=>?_))
 ·have hc:e.code=11:=by simpa using h
  obtain ⟨eid,hon⟩:=onT (.inr (.inr hc))
  rw [eid] at q7 ⊢
  obtain ⟨k,f1,f2,f3,f4,f5⟩:=eW (mZ hon).2.2
  have ec:aL cs b p who t.id e most=de b t.id (tG e):=by rw [aL,if_neg k1,if_neg k2,if_neg k3,if_neg k4,if_neg (by omega),if_neg (by omega),if_neg (by omega),if_neg (by omega),if_pos hon]
  obtain ⟨a1,a2,a3⟩:=lP e (dl b t.id)
  rw [gT,if_pos hon,f3] at q7
  rw [ec,kh (mZ hon).2.2 f3 (a1.trans f2) a2 a3 (lO f4)]
  subst q7
  exact IQ ho f1 (by omega) (by rw [tG,if_neg k5,if_pos hc];rfl)
 have k11:e.code ≠ 11:=by simpa using h
 refine ab _ (az _ _) (aj (fun h=>?_) (fun h=>?_))
 ·have hc:e.code=6:=by simpa using h
  obtain ⟨eid,hon⟩:=onT (.inr (.inl hc))
  rw [eid]
  obtain ⟨k,f1,f2,f3,f4,f5⟩:=eW (mZ hon).2.2
  have ec:aL cs b p who t.id e most=(fL b t.id 1).1:=by rw [aL,if_neg k1,if_neg k2,if_neg k3,if_neg k4,if_pos hc]
  rw [ec]
  simp only [du]
  rw [q46]
  refine aa (aa ?_)
  refine dF ho (fun Hf lf hf=>by have hm:=y7 hf hv hB f1 1 (by omega);rw [f2] at hm;exact hm) ?_
  rintro _ H2 _ ⟨⟨w2,rfl,h2⟩,rfl⟩ l2
  refine ⟨ap w2 _,rfl,ao (h2.r []),?_⟩
  simp only [aF]
  refine aa (aa ?_)
  exact ah ⟨⟨w2,rfl,h2⟩,rfl⟩
 have k6:e.code ≠ 6:=by simpa using h
 refine ab _ (az _ _) (aj (fun h=>?_) (fun h=>?_))
 ·have hc:e.code=7:=by simpa using h
  have eid:idE src e t=t.id:=by rw [idE,if_neg (by have:=z4 hc;omega)]
  rw [eid]
  have ec:aL cs b p who t.id e most=(bK b t.id).1:=by rw [aL,if_neg k1,if_neg k2,if_neg k3,if_neg k4,if_neg k6,if_pos hc]
  rw [ec]
  simp only [dv]
  rw [q46]
  refine aa (aa ?_)
  refine dF ho (fun Hf lf hf=>Gj hf hv hB) ?_
  rintro _ H2 _ ⟨⟨w2,rfl,h2⟩,rfl⟩ l2
  refine ⟨ap w2 (bK b t.id).1++[iV (bK b t.id).2],rfl,ay (ao (h2.r [])) ⟨rfl,trivial⟩,af fun r=>?_⟩
  refine aa (aa (aa (aa ?_)))
  exact ah ⟨⟨w2,rfl,h2⟩,rfl⟩
 have k7:e.code ≠ 7:=by simpa using h
 have hal:e.code=8∨e.code=9→aL cs b p who (idE src e t) e most=if onB cs b (idE src e t)=true then de b (idE src e t) (tG e) else b:=fun hc=>by
  rw [aL,if_neg k1,if_neg k2,if_neg k3,if_neg k4,if_neg k6,if_neg k7,if_neg (by omega),if_neg (by omega)]
 refine ab _ (az _ _) (aj (fun h=>?_) (fun h=>?_))
 ·have hc:e.code=8:=by simpa using h
  rw [hal (.inl hc)]
  subst q7
  exact Oj ho nsm msm q43 (by rw [hl];rfl) (fun o=>by rw [tG,if_neg k5,if_neg k11,if_pos hc])
 have k8:e.code ≠ 8:=by simpa using h
 refine ab _ (az _ _) (aj (fun h=>?_) (fun h=>?_))
 ·have hc:e.code=9:=by simpa using h
  rw [hal (.inr hc)]
  subst q7
  refine ab _ (cZ _ _) (aj (fun h=>?_) (fun h=>?_))
  ·have hon:=CP (of_decide_eq_true h)
   obtain ⟨k,f1,f2,f3,f4,f5⟩:=eW (mZ hon).2.2
   obtain ⟨a1,a2,a3⟩:=lP e (dl b (idE src e t))
   rw [if_pos hon,kh (mZ hon).2.2 f3 (a1.trans f2) a2 a3 (lO f4),gT,if_pos hon,f3]
   exact Nm ho f1 (x:=(dl b (idE src e t)).cnt) (ny f4).2.1 nsm (by omega) (by rw [q43]) rfl (by rw [tG,if_neg k5,if_neg k11,if_neg k8,if_pos hc];rfl)
  ·have hon:=CQ (of_decide_eq_false h)
   rw [if_neg hon]
   simp only [aF]
   refine aa (aa (aa ?_))
   exact eI ho
 have k9:e.code ≠ 9:=by simpa using h
 refine ab _ (az _ _) (aj (fun h=>?_) (fun h=>?_))
 ·have hc:e.code=10:=by simpa using h
  have hp:p=0∨p=1:=by
   have:FN p e t=p:=by rw [FN,if_pos (z6 (.inl hc))]
   omega
  have ec:aL cs b p who (idE src e t) e most=(vG b p e.n e.m most).1:=by rw [aL,if_neg k1,if_neg k2,if_neg k3,if_neg k4,if_neg k6,if_neg k7,if_pos hc,Of hv hp]
  rw [ec]
  simp only [dQ]
  subst hl
  refine aa (aa (aa ?_))
  refine dF ho (fun Hf lf hf=>Ll hf hB hv hp e.n e.m most) ?_
  rintro _ H2 _ ⟨⟨w2,rfl,h2⟩,rfl⟩ l2
  refine ⟨ap w2 (vG b p e.n e.m most).1++[iV (vG b p e.n e.m most).2],rfl,ay (ao (h2.r [])) ⟨rfl,trivial⟩,af fun r=>?_⟩
  refine aa (aa (aa (aa ?_)))
  exact ah ⟨⟨w2,rfl,h2⟩,rfl⟩
 have k10:e.code ≠ 10:=by simpa using h
 refine ab _ (az _ _) (aj (fun h=>?_) (fun h=>?_))
 ·have hc:e.code=12:=by simpa using h
  have ec:aL cs b p who (idE src e t) e most=bO b 1 (fX (au b 1) e.colour e.n):=by rw [aL,if_neg k1,if_neg k2,if_neg k3,if_neg k4,if_neg k6,if_neg k7,if_neg k10,if_pos hc,hw]
  rw [ec]
  subst hl
  refine aa (aa ?_)
  obtain hc | hc | hc | hc:e.colour=0∨e.colour=1∨e.colour=2∨e.colour=3:=by omega
  ·refine ⟨.i64,e.colour,rfl,fun _=>?_,fun h=>absurd hc h⟩
   simp only [bj]
   refine aa (aa ?_)
   have hpl:=(dE hv 1).1
   have hpr:=(jK hv 1).1
   refine ab _ (MI hpl nsm) ?_
   refine ab _ (gR _ _) ?_
   refine ⟨.i64,e.colour,rfl,fun _=>?_,fun h=>absurd hc h⟩
   refine aa (aa (aa (aa ?_)))
   have ex:fX (au b 1) e.colour e.n={ au b 1 with p0:=min 99 ((au b 1).p0 + e.n) }:=by
    rw [fX,if_pos hc,ck,show max 0 (min ((au b 1).p0 + e.n) 99)=min 99 ((au b 1).p0 + e.n) by omega]
   rw [ex]
   exact eI (x:=bO b 1 { au b 1 with p0:=min 99 ((au b 1).p0 + e.n) }) (ct ho rfl rfl rfl rfl)
  ·refine ⟨.i64,e.colour,rfl,fun h=>absurd (hc.symm.trans h) (by omega),fun _=>⟨.i64,e.colour,rfl,fun _=>?_,fun h=>absurd hc h⟩⟩
   simp only [bj]
   refine aa (aa ?_)
   have hpl:=(dE hv 1).2.1
   have hpr:=(jK hv 1).2.1
   refine ab _ (MI hpl nsm) ?_
   refine ab _ (gR _ _) ?_
   refine ⟨.i64,e.colour,rfl,fun h=>absurd (hc.symm.trans h) (by omega),fun _=>⟨.i64,e.colour,rfl,fun _=>?_,fun h=>absurd hc h⟩⟩
   refine aa (aa (aa (aa ?_)))
   have ex:fX (au b 1) e.colour e.n={ au b 1 with p1:=min 99 ((au b 1).p1 + e.n) }:=by
    rw [fX,if_neg (by omega),if_pos hc,ck,show max 0 (min ((au b 1).p1 + e.n) 99)=min 99 ((au b 1).p1 + e.n) by omega]
   rw [ex]
   exact eI (x:=bO b 1 { au b 1 with p1:=min 99 ((au b 1).p1 + e.n) }) (ct ho rfl rfl rfl rfl)
  ·refine ⟨.i64,e.colour,rfl,fun h=>absurd (hc.symm.trans h) (by omega),fun _=>⟨.i64,e.colour,rfl,fun h=>absurd (hc.symm.trans h) (by omega),fun _=>⟨.i64,e.colour,rfl,fun _=>?_,fun h=>absurd hc h⟩⟩⟩
   simp only [bj]
   refine aa (aa ?_)
   have hpl:=(dE hv 1).2.2.1
   have hpr:=(jK hv 1).2.2.1
   refine ab _ (MI hpl nsm) ?_
   refine ab _ (gR _ _) ?_
   refine ⟨.i64,e.colour,rfl,fun h=>absurd (hc.symm.trans h) (by omega),fun _=>⟨.i64,e.colour,rfl,fun h=>absurd (hc.symm.trans h) (by omega),fun _=>⟨.i64,e.colour,rfl,fun _=>?_,fun h=>absurd hc h⟩⟩⟩
   refine aa (aa (aa (aa ?_)))
   have ex:fX (au b 1) e.colour e.n={ au b 1 with p2:=min 99 ((au b 1).p2 + e.n) }:=by
    rw [fX,if_neg (by omega),if_neg (by omega),if_pos hc,ck,show max 0 (min ((au b 1).p2 + e.n) 99)=min 99 ((au b 1).p2 + e.n) by omega]
   rw [ex]
   exact eI (x:=bO b 1 { au b 1 with p2:=min 99 ((au b 1).p2 + e.n) }) (ct ho rfl rfl rfl rfl)
  ·refine ⟨.i64,e.colour,rfl,fun h=>absurd (hc.symm.trans h) (by omega),fun _=>⟨.i64,e.colour,rfl,fun h=>absurd (hc.symm.trans h) (by omega),fun _=>⟨.i64,e.colour,rfl,fun h=>absurd (hc.symm.trans h) (by omega),fun _=>⟨.i64,e.colour,rfl,fun _=>?_,fun h=>absurd hc h⟩⟩⟩⟩
   simp only [bj]
   refine aa (aa ?_)
   have hpl:=(dE hv 1).2.2.2
   have hpr:=(jK hv 1).2.2.2
   refine ab _ (MI hpl nsm) ?_
   refine ab _ (gR _ _) ?_
   refine ⟨.i64,e.colour,rfl,fun h=>absurd (hc.symm.trans h) (by omega),fun _=>⟨.i64,e.colour,rfl,fun h=>absurd (hc.symm.trans h) (by omega),fun _=>⟨.i64,e.colour,rfl,fun h=>absurd (hc.symm.trans h) (by omega),fun _=>⟨.i64,e.colour,rfl,fun _=>?_,fun h=>absurd hc h⟩⟩⟩⟩
   refine aa (aa (aa (aa ?_)))
   have ex:fX (au b 1) e.colour e.n={ au b 1 with p3:=min 99 ((au b 1).p3 + e.n) }:=by
    rw [fX,if_neg (by omega),if_neg (by omega),if_neg (by omega),ck,show max 0 (min ((au b 1).p3 + e.n) 99)=min 99 ((au b 1).p3 + e.n) by omega]
   rw [ex]
   exact eI (x:=bO b 1 { au b 1 with p3:=min 99 ((au b 1).p3 + e.n) }) (ct ho rfl rfl rfl rfl)
 have k12:e.code ≠ 12:=by simpa using h
 exfalso
 omega
end
end Go.Proofs.YtdhobpmnkfmcfaaGreatDoor
namespace Go.Proofs.YtdhobpmnkfmcfaaGreatDoor
open Go Go.Sx
set_option maxRecDepth 100000
set_option maxHeartbeats 1000000
theorem Nq {H:Heap} {cv:Value} {cs:List CdX} (hk:CardsX H cv cs) (hli:eC (cs.map CdX.base)=true) {v:cX} {b:Bd} (h:BdS H v b) (hv:ax b=true) (hB:bdB b) (hfit:FG b) (hsum:∀ q,(au b q).lib.length + (au b q).hand.length≤1000000) {p src most:Int} (hp:p=0∨p=1) (hs:i64 src) {e:Eff} {t:Tg} (hev:EG e=true) :
  Triple PP lW [cv,.agg (ap v b).toArray,iV p,iV src,.agg e.row.toArray,.agg t.row.toArray,iV most] H [] (N9 (wK cs b p src e t most)):=by
 refine qN (vs:=cv::(ap v b++(iV p::iV src::(e.row++(t.row++[iV most]))))) (by kernel_rfl) ⟨hk.one,ay (ao (h.r [])) ⟨rfl,rfl,ay (js e) (ay (oS t) ⟨rfl,trivial⟩)⟩⟩ ?_
 simp only [gY]
 refine af fun r0=>af fun r1=>af fun r2=>af fun r3=>?_
 have h200:=Br hv
 refine aa ?_
 refine aw (Eg h hB) ?_
 rintro _ H1 O1 ⟨w,rfl,ho⟩ l1
 refine ⟨ap w b,rfl,bo H1 ho,?_⟩
 rw [List.append_nil]
 have hk:=hk.le l1
 have core:∀ {r0 r1 r2 r3:Nat} {H':Heap},Heap.le H1 H'→¬ OV cs b p e t→(dR r0 (cv::(ap v b++(iV p::iV src::(e.row++(t.row++[iV most]))))) (ap w b) r1 r2 r3).den PP (N9 (wK cs b p src e t most)) H' O1:=by
  intro r0 r1 r2 r3 H' hle hb
  obtain ⟨f1,f2,f3⟩:=GN hp hs hev hb
  rw [wK,if_neg hb]
  simp only [dR]
  refine aa ?_
  refine ai (Gi (hk.le hle) (ho.r (fun p hp=>hp) H') hv src) rfl ⟨rfl,trivial⟩ fun H2 l2=>?_
  refine aa ?_
  refine ab _ (bd _ _) (aj (fun h0=>?_) (fun h0=>?_))
  ·have h0:e.target ≠ 0:=by simpa using h0
   refine aa (aa (aa ?_))
   refine ai (Gi (hk.le (Heap.le_trans hle l2)) (ho.r (fun p hp=>hp) H2) hv t.id) rfl ⟨rfl,trivial⟩ fun H3 l3=>?_
   rcases f1 with f1 | f1
   ·exact Gg hv hB hev hb hsum ho rfl f1 rfl (by rw [FN,if_neg h0];rfl) (by rw [idE,if_neg h0])
   ·exact Gf hv hB hev hb hsum ho rfl f1 rfl (by rw [FN,if_neg h0];rfl) (by rw [idE,if_neg h0])
  ·have h0:e.target=0:=by simpa using h0
   rcases f1 with f1 | f1
   ·exact Gg hv hB hev hb hsum ho rfl f1 rfl (by rw [FN,if_pos h0];rfl) (by rw [idE,if_pos h0])
   ·exact Gf hv hB hev hb hsum ho rfl f1 rfl (by rw [FN,if_pos h0];rfl) (by rw [idE,if_pos h0])
 refine aa (aa ?_)
 refine ab _ (bd _ _) (aj (fun h0=>?_) (fun h0=>?_))
 ·have h0:e.target ≠ 0:=by simpa using h0
  refine aa (aa (aa ?_))
  refine ai (OwnB.thaw ho fun Hf lf hf=>Pp (hk.le lf).base hli hf hB hfit (by omega) p e.target t) rfl ⟨rfl,trivial⟩ fun H2 l2=>?_
  refine ab _ (aM _) (aj (fun hg=>?_) (fun hg=>?_))
  ·have hg:ut (cs.map CdX.base) b p e.target t=false:=vp hg
   rw [wK,if_pos ⟨h0,hg⟩]
   refine aa (aa (aa ?_))
   exact eI ho
  have hg:ut (cs.map CdX.base) b p e.target t=true:=qW hg
  exact core l2 (fun hb=>by rw [hb.2] at hg;cases hg)
 ·have h0:e.target=0:=by simpa using h0
  exact core (Heap.le_refl _) (fun hb=>hb.1 h0)
def Hw (cs:List CdX) (b:Bd) (p src:Int) (e:Eff) (t:Tg) (most:Int):Bd:=if (ar p 0 1 && (EG e && ax b))=true then wK cs b p src e t most else b
def Rj (x:Bd) (r:Value) (H':Heap) (O':Own):Prop:=(∃ w,r=.tuple #[.agg (ap w x).toArray,.bool true]∧BdS H' w x)∧O'=[]
theorem QW {H:Heap} {cv:Value} {cs:List CdX} (hgl:GlobOk CL H) (hk:CardsX H cv cs) (hli:eC (cs.map CdX.base)=true) {v:cX} {b:Bd} (h:BdS H v b) (hB:bdB b) (hfit:FG b) (hsum:∀ q,(au b q).lib.length + (au b q).hand.length≤1000000) (p:Int) {src:Int} (most:Int) (hs:i64 src) (e:Eff) (t:Tg) :
  Triple PP ox [cv,.agg (ap v b).toArray,iV p,iV src,.agg e.row.toArray,.agg t.row.toArray,iV most] H [] (Rj (Hw cs b p src e t most)):=by
 refine tZ (vs:=cv::(ap v b++(iV p::iV src::(e.row++(t.row++[iV most]))))) (by kernel_rfl) ⟨hk.one,ay (ao (h.r [])) ⟨rfl,rfl,ay (js e) (ay (oS t) ⟨rfl,trivial⟩)⟩⟩ ?_
 simp only [jC]
 refine af fun r0=>af fun r1=>af fun r2=>af fun r3=>?_
 refine aa ?_
 refine aw (Triple.frozen (Eg h hB)) ?_
 rintro _ H1 _ ⟨⟨u,rfl,hu⟩,rfl⟩ l1
 refine ⟨ap u b,rfl,ao (hu.r []),af fun r4=>?_⟩
 have h:=h.le l1
 have hk:=hk.le l1
 refine aa (aa (aa (aa ?_)))
 refine aw (FD (hgl.le l1) hk hli h hB p most hs e t) ?_
 rintro _ H2 O2 ⟨w2,rfl,ho⟩ l2
 refine ⟨ap w2 (bD cs b p src e t most).1++[iV (bD cs b p src e t most).2],rfl,ay (bo H2 ho) ⟨rfl,trivial⟩,af fun r5=>?_⟩
 have h:=h.le l2
 have hk:=hk.le l2
 have hu:=hu.le l2
 refine aa (aa ?_)
 refine ai (Lk (h.r _) hfit) rfl ⟨rfl,trivial⟩ fun H3 l3=>?_
 have h:=h.le l3
 have hk:=hk.le l3
 have hu:=hu.le l3
 rw [IB]
 refine ab _ (aM _) ?_
 refine ae ?_
 refine ab _ (aI _ _) ?_
 refine ae ?_
 refine ab _ (aR _ _) ?_
 refine ae ?_
 refine ab _ (bH _ _) ?_
 refine ae ?_
 refine ab _ (aR _ _) (aj (fun hc=>?_) (fun hc=>?_))
 ·have hc:((!ax b || decide (p < 0)) || decide (p > 1))=true:=hc
  have hb:(ar p 0 1 && (EG e && ax b))=false:=by
   rw [Bool.or_assoc,oD] at hc
   revert hc
   cases ax b <;> cases ar p 0 1 <;> simp
  have e1:bD cs b p src e t most=(zBd,2):=by rw [bD,if_neg (by rw [hb];simp)]
  have e2:Hw cs b p src e t most=b:=by rw [Hw,if_neg (by rw [hb];simp)]
  rw [e1] at ho ⊢
  rw [e2]
  refine aa (aa (aa (aa ?_)))
  refine uA (O1:=O2) (O2:=[]) (by simp) (Im ho (BE _) h hu 2 2) rfl ⟨rfl,trivial⟩ fun Hg Og lg=>?_
  rw [show (((zBd == zBd) && ((2:Int) == 2)) && (b == b))=true from by simp]
  refine aa (aa ?_)
  exact mV ⟨⟨v,rfl,h.le lg⟩,rfl⟩
 have hc:((!ax b || decide (p < 0)) || decide (p > 1))=false:=hc
 rw [Bool.or_assoc,oD,Bool.or_eq_false_iff] at hc
 have hv:=qW hc.1
 have hw:=qW hc.2
 have hp:p=0∨p=1:=by simp only [ar,decide_eq_true_eq] at hw;omega
 refine aa ?_
 refine ai (show RetO PP pJ [.agg e.row.toArray] H3 (O2++([]++[])) (.bool (EG e)) from by simpa using (EM e H3).frame O2) rfl ⟨rfl,trivial⟩ fun H4 l4=>?_
 refine ab _ (aM _) (aj (fun hc=>?_) (fun hc=>?_))
 ·have hb:(ar p 0 1 && (EG e && ax b))=false:=by rw [vp hc];simp
  have h:=h.le l4
  have hu:=hu.le l4
  have e1:bD cs b p src e t most=(zBd,2):=by rw [bD,if_neg (by rw [hb];simp)]
  have e2:Hw cs b p src e t most=b:=by rw [Hw,if_neg (by rw [hb];simp)]
  rw [e1] at ho ⊢
  rw [e2]
  refine aa (aa (aa (aa ?_)))
  refine uA (O1:=O2) (O2:=[]) (by simp) (Im ho (BE _) h hu 2 2) rfl ⟨rfl,trivial⟩ fun Hg Og lg=>?_
  rw [show (((zBd == zBd) && ((2:Int) == 2)) && (b == b))=true from by simp]
  refine aa (aa ?_)
  exact mV ⟨⟨v,rfl,h.le lg⟩,rfl⟩
 have hev:=qW hc
 have h:=h.le l4
 have hk:=hk.le l4
 have hu:=hu.le l4
 have e1:bD cs b p src e t most=(wK cs b p src e t most,0):=by rw [bD,if_pos (by rw [hw,hev,hv];rfl)]
 have e2:Hw cs b p src e t most=wK cs b p src e t most:=by rw [Hw,if_pos (by rw [hw,hev,hv];rfl)]
 rw [e1] at ho ⊢
 rw [e2]
 refine aa (aa (aa ?_))
 refine aw (Nq hk hli h hv hB hfit hsum hp hs hev) ?_
 rintro _ H5 _ ⟨⟨w5,rfl,h5⟩,rfl⟩ l5
 refine ⟨ap w5 _,rfl,ao (h5.r []),af fun r6=>?_⟩
 refine aa (aa (aa (aa (aa (aa ?_)))))
 refine uA (O1:=O2) (O2:=[]) (by simp) (Im ho h5 (h.le l5) (hu.le l5) 0 0) rfl ⟨rfl,trivial⟩ fun Hg Og lg=>?_
 rw [show (((wK cs b p src e t most == wK cs b p src e t most) && ((0:Int) == 0)) && (b == b))=true from by simp]
 refine aa (aa ?_)
 exact mV ⟨⟨w5,rfl,h5.le lg⟩,rfl⟩
end Go.Proofs.YtdhobpmnkfmcfaaGreatDoor
namespace Go.Proofs.YtdhobpmnkfmcfaaGreatDoor
open Go Go.Sx
set_option maxRecDepth 100000
set_option maxHeartbeats 1000000
def csP:List CdX:=[⟨2,[],[]⟩]
def ex0:Bd:=PD 20 [0,0] [0]
def ex1:Bd:=(fL ex0 1 2).1
def ex2:Bd:=(fL ex1 2 1).1
def exB:Bd:=(fL ex2 3 2).1
theorem LN (H:Heap):Triple PP oy [] H [] fun r H' O'=>CardsX H' r csP∧O'=[]:=by
 refine t7 (vs:=[]) (by kernel_rfl) trivial ?_
 simp only [jD]
 refine af fun r0=>?_
 refine Le fun H' l hf=>⟨?_,rfl⟩
 refine ⟨_,Sl.block1 (hf _ List.mem_cons_self) rfl ⟨rfl,rfl,rfl,rfl,rfl,rfl,rfl,rfl,rfl,rfl,rfl,rfl,rfl,rfl,trivial⟩,rfl,fun i r c a b=>?_⟩
 cases i with
 | succ i=>simp [csP] at b
 | zero =>
  simp only [csP,List.getElem?_cons_zero,Option.some.injEq] at a b
  subst a;subst b
  exact ⟨rfl,Sl.nil _ _,[],Sl.nil _ _,rfl,fun i r l a=>by simp at a⟩
theorem ql (H:Heap):Triple PP lh [] H [] (N9 exB):=by
 refine pY (vs:=[]) (by kernel_rfl) trivial ?_
 simp only [gf]
 refine af fun r0=>af fun r1=>af fun r2=>?_
 refine Qa (B:=[]) PX fun Hf lf hf _=>⟨_,RL 20 (a:=[0,0]) (c:=[0]) (Sl.block (cs:=[iV 0,iV 0]) (hf _ List.mem_cons_self) ⟨rfl,rfl,trivial⟩ rfl (by omega)) (Sl.block (cs:=[iV 0]) (hf _ (List.mem_cons_of_mem _ List.mem_cons_self)) ⟨rfl,trivial⟩ rfl (by omega)) (by simp) (by simp),?_⟩
 rintro _ H2 _ ⟨rfl,w,rfl,hb⟩ l2
 have enew:Oy 20 [0,0] [0]=(ex0,0):=by kernel_rfl
 rw [enew] at hb ⊢
 have hb:BdS H2 w ex0:=hb
 refine ⟨ap w ex0++[iV 0],rfl,ay (ao (hb.r [])) ⟨rfl,trivial⟩,?_⟩
 refine af fun r3=>?_
 refine aa (aa ?_)
 refine aw (y7 (o:=⟨1,0,0,0,0,0,0,0,0,false,false,false⟩) (k:=0) hb (by kernel_rfl) (E3 (by kernel_rfl)) (by kernel_rfl) 2 (by omega)) ?_
 rintro _ H3 _ ⟨⟨w3,rfl,hb3⟩,rfl⟩ l3
 have hb3:BdS H3 w3 ex1:=hb3
 refine ⟨ap w3 ex1,rfl,ao (hb3.r []),?_⟩
 refine aw (y7 (o:=⟨2,0,0,0,0,0,0,0,0,false,false,false⟩) (k:=1) hb3 (by kernel_rfl) (E3 (by kernel_rfl)) (by kernel_rfl) 1 (by omega)) ?_
 rintro _ H4 _ ⟨⟨w4,rfl,hb4⟩,rfl⟩ l4
 have hb4:BdS H4 w4 ex2:=hb4
 refine ⟨ap w4 ex2,rfl,ao (hb4.r []),?_⟩
 refine aw (y7 (o:=⟨3,0,1,0,0,0,0,0,0,false,false,false⟩) (k:=2) hb4 (by kernel_rfl) (E3 (by kernel_rfl)) (by kernel_rfl) 2 (by omega)) ?_
 rintro _ H5 _ ⟨⟨w5,rfl,hb5⟩,rfl⟩ l5
 have hb5:BdS H5 w5 exB:=hb5
 refine ⟨ap w5 exB,rfl,ao (hb5.r []),?_⟩
 refine aa (aa ?_)
 exact ah ⟨⟨w5,rfl,hb5⟩,rfl⟩
theorem PZ:bdB exB:=E3 (by kernel_rfl)
theorem re {H:Heap} (hgl:GlobOk CL H) (p:Int) {src:Int} (e:Eff) (t:Tg) (most:Int) (hs:i64 src) {x:Bd} (hx:bD csP exB p src e t most=(x,0)) (h3:decide ((x.objs.length:Int) ≥ 3)=true) :
  Triple PP mT [iV p,iV src,.agg e.row.toArray,.agg t.row.toArray,iV most] H [] (Rj x):=by
 refine s7 (vs:=iV p::iV src::(e.row++(t.row++[iV most]))) (by kernel_rfl) ⟨rfl,rfl,ay (js e) (ay (oS t) ⟨rfl,trivial⟩)⟩ ?_
 simp only [iW]
 refine af fun r0=>af fun r1=>af fun r2=>?_
 refine aa (aa ?_)
 refine aw (LN H) ?_
 rintro cv H1 _ ⟨hk,rfl⟩ l1
 refine ⟨[cv],rfl,⟨hk.one,trivial⟩,?_⟩
 refine aw (ql H1) ?_
 rintro _ H2 _ ⟨⟨w2,rfl,h2⟩,rfl⟩ l2
 refine ⟨ap w2 exB,rfl,ao (h2.r []),?_⟩
 refine aw (Triple.frozen2 (FD (hgl.le (Heap.le_trans l1 l2)) (hk.le l2) (by kernel_rfl) h2 PZ p most hs e t)) ?_
 rw [hx]
 rintro _ H3 _ ⟨⟨w3,rfl,h3'⟩,rfl⟩ l3
 have h3':BdS H3 w3 x:=h3'
 refine ⟨ap w3 x++[iV 0],rfl,ay (ao (h3'.r [])) ⟨rfl,trivial⟩,af fun r3=>?_⟩
 have olen:al .len [w3.o]=some (iV x.objs.length):=by have:=h3'.objs.len;rwa [List.length_map] at this
 refine aa (aa ?_)
 refine ab _ (az _ _) ?_
 refine aa (ae (ae ?_))
 refine ab _ olen ?_
 refine ae ?_
 refine ab _ (cZ _ _) ?_
 rw [h3]
 refine ae ?_
 refine ab _ (aX _ _) ?_
 refine aa (aa ?_)
 exact ah ⟨⟨w3,rfl,h3'⟩,rfl⟩
theorem MV {H:Heap} {cv:Value} {cs:List CdX} (hk:CardsX H cv cs) (hli:eC (cs.map CdX.base)=true) {v:cX} {b:Bd} (h:BdS H v b) (hv:ax b=true) (hB:bdB b) (hst:b.stack=[]) (most:Int) :
  Triple PP yE [cv,.agg (ap v b).toArray,iV most] H [] fun r _ O'=>r=.tuple #[.agg (ap zV zBd).toArray,.agg #[iV 0,iV 0,iV 0,iV 0,.slice none 0 0],iV 9]∧O'=[]:=by
 refine BQ (vs:=cv::(ap v b++[iV most])) (by kernel_rfl) ⟨hk.one,ay (ao (h.r [])) ⟨rfl,trivial⟩⟩ ?_
 simp only [rT]
 refine af fun r0=>af fun r1=>af fun r2=>?_
 refine aa ?_
 refine ai (Rf hk hli h hv) rfl ⟨rfl,trivial⟩ fun H1 l1=>?_
 rw [Gs hst]
 have h:=h.le l1
 refine ab _ (bd _ _) (aj (fun hd=>by cases hd) (fun _=>?_))
 refine aa ?_
 have e1:JN b=(zBd,9):=by rw [JN,if_neg (by rw [hv];simp),if_pos hst]
 refine aw (RY h hB) ?_
 rw [e1]
 rintro _ H2 O2 ⟨w,s,A,T,rfl,hp,ho,hs⟩ l2
 refine ⟨ap w zBd++([iV (JO b).player,iV (JO b).id,iV (JO b).card,iV (JO b).trig,s]++[iV 9]),rfl,ay (bo H2 ho) ⟨rfl,rfl,rfl,rfl,hs.one,rfl,trivial⟩,af fun r3=>?_⟩
 refine aa (aa ?_)
 refine ab _ (bd _ _) (aj (fun _=>?_) (fun hd=>by cases hd))
 refine aa (aa (aa (aa ?_)))
 exact mV ⟨rfl,rfl⟩
def xA:Bd:=(bD csP exB 0 1 ⟨1,1,3,0,0⟩ ⟨3,0⟩ 9).1
def xB:Bd:=(bD csP exB 0 1 ⟨1,4,20,0,0⟩ ⟨0,1⟩ 9).1
def xC:Bd:=(bD csP exB 1 3 ⟨3,0,5,0,0⟩ ⟨0,0⟩ 9).1
def xD:Bd:=(bD csP exB 0 1 ⟨6,3,0,0,0⟩ ⟨1,0⟩ 9).1
def xE:Bd:=(bD csP exB 0 1 ⟨9,0,2,0,0⟩ ⟨0,0⟩ 9).1
def xF:Bd:=(bD csP exB 0 2 ⟨9,0,2,0,0⟩ ⟨0,0⟩ 9).1
def xG:Bd:=(bD csP exB 1 3 ⟨2,0,1,0,0⟩ ⟨0,0⟩ 9).1
def xH:Bd:=(bD csP exB 0 1 ⟨10,0,1,1,0⟩ ⟨0,0⟩ 3).1
def xI:Bd:=(bD csP exB 0 1 ⟨10,0,1,1,0⟩ ⟨0,0⟩ 4).1
theorem SA:bD csP exB 0 1 ⟨1,1,3,0,0⟩ ⟨3,0⟩ 9=(xA,0):=Prod.ext rfl (by kernel_rfl)
theorem Sz:bD csP exB 0 1 ⟨1,4,20,0,0⟩ ⟨0,1⟩ 9=(xB,0):=Prod.ext rfl (by kernel_rfl)
theorem Sy:bD csP exB 1 3 ⟨3,0,5,0,0⟩ ⟨0,0⟩ 9=(xC,0):=Prod.ext rfl (by kernel_rfl)
theorem Sw:bD csP exB 0 1 ⟨6,3,0,0,0⟩ ⟨1,0⟩ 9=(xD,0):=Prod.ext rfl (by kernel_rfl)
theorem Sv:bD csP exB 0 1 ⟨9,0,2,0,0⟩ ⟨0,0⟩ 9=(xE,0):=Prod.ext rfl (by kernel_rfl)
theorem Su:bD csP exB 0 2 ⟨9,0,2,0,0⟩ ⟨0,0⟩ 9=(xF,0):=Prod.ext rfl (by kernel_rfl)
theorem Ss:bD csP exB 1 3 ⟨2,0,1,0,0⟩ ⟨0,0⟩ 9=(xG,0):=Prod.ext rfl (by kernel_rfl)
theorem Sr:bD csP exB 0 1 ⟨10,0,1,1,0⟩ ⟨0,0⟩ 3=(xH,0):=Prod.ext rfl (by kernel_rfl)
theorem Sq:bD csP exB 0 1 ⟨10,0,1,1,0⟩ ⟨0,0⟩ 4=(xI,0):=Prod.ext rfl (by kernel_rfl)
theorem RD:bD csP exB 2 1 ⟨2,0,1,0,0⟩ ⟨0,0⟩ 9=(zBd,2):=by kernel_rfl
end Go.Proofs.YtdhobpmnkfmcfaaGreatDoor
namespace Go.Proofs.YtdhobpmnkfmcfaaGreatDoor
open Go Go.Sx
set_option maxRecDepth 100000
set_option maxHeartbeats 1000000
theorem Lx {H:Heap} {w:cX} {b:Bd} (h:BdS H w b) {k:Nat} {o:Ob} (hk:b.objs[k]?=some o):∃ a,al (.idx 12) [w.o,iV k]=some (.pointer (some a))∧∀ off m,off + m≤12→Reads H [] (aT (.pointer (some a)) off) m ((o.row.drop off).take m):=by
 obtain ⟨a,k1,_,k3,_⟩:=(h.objs.rsl ([]:Own)).idx .i64 k (Ob.row o) (by rw [List.getElem?_map,hk];rfl)
 exact ⟨a,k1,k3⟩
theorem PR {H:Heap} (hgl:GlobOk CL H):Triple PP ja [] H [] fun r _ O'=>r=.bool true∧O'=[]:=by
 refine s5 (vs:=[]) (by kernel_rfl) trivial ?_
 simp only [iT]
 refine af fun r0=>?_
 refine aa ?_
 refine aw (re hgl 0 (src:=1) ⟨1,1,3,0,0⟩ ⟨3,0⟩ 9 (by constructor <;> omega) SA (by kernel_rfl)) ?_
 rintro _ H1 _ ⟨⟨wA,rfl,hxA⟩,rfl⟩ l1
 have hxA:BdS H1 wA xA:=hxA
 have hgl:=hgl.le l1
 refine ⟨ap wA xA++[.bool true],rfl,ay (ao (hxA.r [])) ⟨rfl,trivial⟩,?_⟩
 refine af fun r1=>?_
 refine aa ?_
 refine ab _ (aM _) ?_
 obtain ⟨a,i1,i2⟩:=Lx hxA (k:=2) (o:=(xA.objs.getD 2 zO)) (by kernel_rfl)
 refine aa (ae (ae ?_))
 refine ⟨.pointer (some a),fun _=>i1,.inr rfl,?_⟩
 refine aB rfl (ae (ae ?_))
 refine ⟨[iV 3],rfl,⟨rfl,trivial⟩,fun _=>i2 5 1 (by omega),?_⟩
 refine ae ?_
 refine ab _ (bd _ _) ?_
 refine ae ?_
 refine ab _ (aR _ _) (aj (fun hd=>by cases hd) (fun _=>?_))
 refine aw (re hgl 0 (src:=1) ⟨1,4,20,0,0⟩ ⟨0,1⟩ 9 (by constructor <;> omega) Sz (by kernel_rfl)) ?_
 rintro _ H2 _ ⟨⟨wB,rfl,hxB⟩,rfl⟩ l2
 have hxB:BdS H2 wB xB:=hxB
 have hgl:=hgl.le l2
 refine ⟨ap wB xB++[.bool true],rfl,ay (ao (hxB.r [])) ⟨rfl,trivial⟩,?_⟩
 refine aa (aa ?_)
 refine aw (re hgl 1 (src:=3) ⟨3,0,5,0,0⟩ ⟨0,0⟩ 9 (by constructor <;> omega) Sy (by kernel_rfl)) ?_
 rintro _ H3 _ ⟨⟨wC,rfl,hxC⟩,rfl⟩ l3
 have hxC:BdS H3 wC xC:=hxC
 have hgl:=hgl.le l3
 refine ⟨ap wC xC++[.bool true],rfl,ay (ao (hxC.r [])) ⟨rfl,trivial⟩,?_⟩
 refine af fun r2=>?_
 refine aa ?_
 refine ab _ (aM _) ?_
 refine ae (ae (aa (ae (ae ?_))))
 refine ab _ (bd _ _) ?_
 refine ae ?_
 refine ab _ (aR _ _) ?_
 refine ae ?_
 refine ab _ (aM _) ?_
 refine ae ?_
 refine ab _ (aR _ _) ?_
 refine ae (ae (aa (ae (ae ?_))))
 refine ab _ (bd _ _) ?_
 refine ae ?_
 refine ab _ (aR _ _) (aj (fun hd=>absurd (show ((((!true || (xB.s1.life != 0)) || !true) || (xC.s1.life != 25)))=true from hd) (by rw [show ((((!true || (xB.s1.life != 0)) || !true) || (xC.s1.life != 25)))=false from by kernel_rfl];simp)) (fun _=>?_))
 refine aw (re hgl 0 (src:=1) ⟨6,3,0,0,0⟩ ⟨1,0⟩ 9 (by constructor <;> omega) Sw (by kernel_rfl)) ?_
 rintro _ H4 _ ⟨⟨wD,rfl,hxD⟩,rfl⟩ l4
 have hxD:BdS H4 wD xD:=hxD
 have hgl:=hgl.le l4
 refine ⟨ap wD xD++[.bool true],rfl,ay (ao (hxD.r [])) ⟨rfl,trivial⟩,?_⟩
 refine aa (aa ?_)
 refine aw (re hgl 0 (src:=1) ⟨9,0,2,0,0⟩ ⟨0,0⟩ 9 (by constructor <;> omega) Sv (by kernel_rfl)) ?_
 rintro _ H5 _ ⟨⟨wE,rfl,hxE⟩,rfl⟩ l5
 have hxE:BdS H5 wE xE:=hxE
 have hgl:=hgl.le l5
 refine ⟨ap wE xE++[.bool true],rfl,ay (ao (hxE.r [])) ⟨rfl,trivial⟩,?_⟩
 have hxD:=hxD.le l5
 refine aa ?_
 refine ab _ (aM _) (aj (fun hd=>by cases hd) (fun _=>?_))
 refine aa ?_
 refine aw (ql _) ?_
 rintro _ H6 _ ⟨⟨v1,rfl,hx6⟩,rfl⟩ l6
 have hgl:=hgl.le l6
 refine ⟨ap v1 exB,rfl,ao (hx6.r []),?_⟩
 have hxD:=hxD.le l6
 have hxE:=hxE.le l6
 refine ai (Ee (hxD.r []) (hx6.r [])) rfl ⟨rfl,trivial⟩ fun H7 l7=>?_
 rw [show (xD == exB)=true from by kernel_rfl]
 have hxE:=hxE.le l7
 have hgl:=hgl.le l7
 refine ab _ (aM _) ?_
 refine ae ?_
 refine ab _ (aM _) ?_
 refine ae ?_
 refine ab _ (aR _ _) ?_
 obtain ⟨a2,j1,j2⟩:=Lx hxE (k:=0) (o:=(xE.objs.getD 0 zO)) (by kernel_rfl)
 refine aa (ae (ae ?_))
 refine ⟨.pointer (some a2),fun _=>j1,.inr rfl,?_⟩
 refine aB rfl (ae (ae ?_))
 refine ⟨[iV 2],rfl,⟨rfl,trivial⟩,fun _=>j2 6 1 (by omega),?_⟩
 refine ae ?_
 refine ab _ (bd _ _) ?_
 refine ae ?_
 refine ab _ (aR _ _) (aj (fun hd=>by cases hd) (fun _=>?_))
 refine aa ?_
 refine aw (re hgl 0 (src:=2) ⟨9,0,2,0,0⟩ ⟨0,0⟩ 9 (by constructor <;> omega) Su (by kernel_rfl)) ?_
 rintro _ H8 _ ⟨⟨wF,rfl,hxF⟩,rfl⟩ l8
 have hxF:BdS H8 wF xF:=hxF
 have hgl:=hgl.le l8
 refine ⟨ap wF xF++[.bool true],rfl,ay (ao (hxF.r [])) ⟨rfl,trivial⟩,?_⟩
 refine aa (aa ?_)
 refine aw (re hgl 1 (src:=3) ⟨2,0,1,0,0⟩ ⟨0,0⟩ 9 (by constructor <;> omega) Ss (by kernel_rfl)) ?_
 rintro _ H9 _ ⟨⟨wG,rfl,hxG⟩,rfl⟩ l9
 have hxG:BdS H9 wG xG:=hxG
 have hgl:=hgl.le l9
 refine ⟨ap wG xG++[.bool true],rfl,ay (ao (hxG.r [])) ⟨rfl,trivial⟩,?_⟩
 have hxF:=hxF.le l9
 refine aa ?_
 refine ab _ (aM _) (aj (fun hd=>by cases hd) (fun _=>?_))
 refine aa ?_
 refine aw (ql _) ?_
 rintro _ H10 _ ⟨⟨v2,rfl,hx10⟩,rfl⟩ l10
 have hgl:=hgl.le l10
 refine ⟨ap v2 exB,rfl,ao (hx10.r []),?_⟩
 have hxF:=hxF.le l10
 have hxG:=hxG.le l10
 refine ai (Ee (hxF.r []) (hx10.r [])) rfl ⟨rfl,trivial⟩ fun H11 l11=>?_
 rw [show (xF == exB)=true from by kernel_rfl]
 have hgl:=hgl.le l11
 refine ab _ (aM _) ?_
 refine ae ?_
 refine ab _ (aM _) ?_
 refine ae ?_
 refine ab _ (aR _ _) ?_
 refine ae (ae (aa (ae (ae ?_))))
 refine ab _ (aM xG.s1.empty) ?_
 refine ae ?_
 refine ab _ (aR _ _) ?_
 refine ae (ae (aa (ae (ae ?_))))
 refine ab _ (aR _ xG.s0.empty) (aj (fun hd=>absurd (show ((((!true || !true) || !xG.s1.empty) || xG.s0.empty))=true from hd) (by rw [show ((((!true || !true) || !xG.s1.empty) || xG.s0.empty))=false from by kernel_rfl];simp)) (fun _=>?_))
 refine af fun r3=>?_
 refine aa (aa (aa ?_))
 refine aw (re hgl 0 (src:=1) ⟨10,0,1,1,0⟩ ⟨0,0⟩ 3 (by constructor <;> omega) Sr (by kernel_rfl)) ?_
 rintro _ H12 _ ⟨⟨wH,rfl,hxH⟩,rfl⟩ l12
 have hxH:BdS H12 wH xH:=hxH
 have hgl:=hgl.le l12
 refine ⟨ap wH xH++[.bool true],rfl,ay (ao (hxH.r [])) ⟨rfl,trivial⟩,?_⟩
 refine aa (aa (aa ?_))
 refine aw (re hgl 0 (src:=1) ⟨10,0,1,1,0⟩ ⟨0,0⟩ 4 (by constructor <;> omega) Sq (by kernel_rfl)) ?_
 rintro _ H13 _ ⟨⟨wI,rfl,hxI⟩,rfl⟩ l13
 have hxI:BdS H13 wI xI:=hxI
 have hgl:=hgl.le l13
 refine ⟨ap wI xI++[.bool true],rfl,ay (ao (hxI.r [])) ⟨rfl,trivial⟩,?_⟩
 have hxH:=hxH.le l13
 refine aa ?_
 refine ab _ (aM _) (aj (fun hd=>by cases hd) (fun _=>?_))
 refine aa ?_
 refine aw (ql _) ?_
 rintro _ H14 _ ⟨⟨v3,rfl,hx14⟩,rfl⟩ l14
 have hgl:=hgl.le l14
 refine ⟨ap v3 exB,rfl,ao (hx14.r []),?_⟩
 have hxH:=hxH.le l14
 have hxI:=hxI.le l14
 refine ai (Ee (hxH.r []) (hx14.r [])) rfl ⟨rfl,trivial⟩ fun H15 l15=>?_
 rw [show (xH == exB)=true from by kernel_rfl]
 have hxI:=hxI.le l15
 have hgl:=hgl.le l15
 have olen:al .len [wI.o]=some (iV 4):=by have:=hxI.objs.len;rw [List.length_map] at this;exact this.trans (by kernel_rfl)
 refine ab _ (aM _) ?_
 refine ae ?_
 refine ab _ (aM _) ?_
 refine ae ?_
 refine ab _ (aR _ _) ?_
 refine aa (ae (ae ?_))
 refine ab _ olen ?_
 refine ae ?_
 refine ab _ (bd _ _) ?_
 refine ae ?_
 refine ab _ (aR _ _) ?_
 obtain ⟨a3,k1,k2⟩:=Lx hxI (k:=3) (o:=(xI.objs.getD 3 zO)) (by kernel_rfl)
 refine aa (ae (ae ?_))
 refine ⟨.pointer (some a3),fun _=>k1,.inr rfl,?_⟩
 refine aB rfl (ae (ae ?_))
 refine ⟨[iV 4],rfl,⟨rfl,trivial⟩,fun _=>by have:=k2 0 1 (by omega);rw [Ky] at this;exact this,?_⟩
 refine ae ?_
 refine ab _ (bd _ _) ?_
 refine ae ?_
 refine ab _ (aR _ _) ?_
 refine aa (ae (ae ?_))
 refine ⟨.pointer (some a3),fun _=>k1,.inr rfl,?_⟩
 refine aB rfl (ae (ae ?_))
 refine ⟨[iV (-1)],rfl,⟨rfl,trivial⟩,fun _=>k2 1 1 (by omega),?_⟩
 refine ae ?_
 refine ab _ (bd _ _) ?_
 refine ae ?_
 refine ab _ (aR _ _) (aj (fun hd=>by cases hd) (fun _=>?_))
 refine aw (LN _) ?_
 rintro cv H16 _ ⟨hk,rfl⟩ l16
 refine ⟨[cv],rfl,⟨hk.one,trivial⟩,?_⟩
 have hgl:=hgl.le l16
 refine aw (ql _) ?_
 rintro _ H17 _ ⟨⟨v4,rfl,hx17⟩,rfl⟩ l17
 have hgl:=hgl.le l17
 refine ⟨ap v4 exB,rfl,ao (hx17.r []),?_⟩
 refine aw (MV (hk.le l17) (by kernel_rfl) hx17 (by kernel_rfl) PZ (by kernel_rfl) 9) ?_
 rintro _ H18 _ ⟨rfl,rfl⟩ l18
 have hgl:=hgl.le l18
 refine ⟨ap zV zBd++([iV 0,iV 0,iV 0,iV 0,.slice none 0 0]++[iV 9]),rfl,ay (ao ((BE H18).r [])) ⟨rfl,rfl,rfl,rfl,rfl,rfl,trivial⟩,af fun r4=>af fun r5=>?_⟩
 refine aa (aa (aa ?_))
 refine aw (LN _) ?_
 rintro cv2 H19 _ ⟨hk2,rfl⟩ l19
 refine ⟨[cv2],rfl,⟨hk2.one,trivial⟩,?_⟩
 have hgl:=hgl.le l19
 refine aw (ql _) ?_
 rintro _ H20 _ ⟨⟨v5,rfl,hx20⟩,rfl⟩ l20
 have hgl:=hgl.le l20
 refine ⟨ap v5 exB,rfl,ao (hx20.r []),?_⟩
 refine aw (Triple.frozen2 (FD hgl (hk2.le l20) (by kernel_rfl) hx20 PZ 2 (src:=1) 9 (by constructor <;> omega) ⟨2,0,1,0,0⟩ ⟨0,0⟩)) ?_
 rw [RD]
 rintro _ H21 _ ⟨⟨w21,rfl,h21⟩,rfl⟩ l21
 have h21:BdS H21 w21 zBd:=h21
 refine ⟨ap w21 zBd++[iV 2],rfl,ay (ao (h21.r [])) ⟨rfl,trivial⟩,af fun r6=>?_⟩
 refine aa ?_
 refine ab _ (az _ _) ?_
 refine ae ?_
 refine ab _ (az _ _) ?_
 refine ae ?_
 refine ab _ (aX _ _) ?_
 exact ah ⟨rfl,rfl⟩
theorem QI {b:Bd} (h:szB 100 b):∀ q,(au b q).lib.length + (au b q).hand.length≤1000000:=fun q=>by
 obtain ⟨_,⟨a1,a2,_⟩,⟨b1,b2,_⟩,_⟩:=h
 rw [au]
 split <;> omega
theorem DU {H:Heap} (hgl:GlobOk CL H) {cv:Value} {cs:List CdX} (hk:CardsX H cv cs) {v:cX} {b:Bd} (h:BdS H v b) (p:Int) {src:Int} (hs:i64 src) (e:Eff) (t:Tg) (most:Int) :
  Triple PP fQ [cv,.agg (ap v b).toArray,iV p,iV src,.agg e.row.toArray,.agg t.row.toArray,iV most] H [] fun r _ O'=>r=.bool true∧O'=[]:=by
 refine lm (vs:=cv::(ap v b++(iV p::iV src::(e.row++(t.row++[iV most]))))) (by kernel_rfl) ⟨hk.one,ay (ao (h.r [])) ⟨rfl,rfl,ay (js e) (ay (oS t) ⟨rfl,trivial⟩)⟩⟩ ?_
 simp only [dC]
 have kn:∀ {H'},Heap.le H H'→dT (fun H1 O1 R=>Triple PP ja [] H1 O1 R) false [] [] .one (fun l _=>(Tree.ret (g l 0) []).den PP fun r _ O'=>r=.bool true∧O'=[]) H' []:=fun hl=>aw (PR (hgl.le hl)) (by
  rintro _ H2 _ ⟨rfl,rfl⟩ l2
  exact ⟨[.bool true],rfl,⟨rfl,trivial⟩,ah ⟨rfl,rfl⟩⟩)
 refine af fun r0=>af fun r1=>af fun r2=>?_
 refine ai (Qj hk.base) rfl ⟨rfl,trivial⟩ fun H1 l1=>?_
 refine ab _ (aM _) (aj (fun _=>?_) (fun hli=>?_))
 ·exact kn l1
 have hli:eC (cs.map CdX.base)=true:=qW hli
 have h:=h.le l1
 refine aa ?_
 refine ai (Qd (h.r [])) rfl ⟨rfl,trivial⟩ fun H2 l2=>?_
 have h:=h.le l2
 have l12:=Heap.le_trans l1 l2
 refine ab _ (aM _) ?_
 refine aa (ae (ae ?_))
 refine ab _ (bH _ _) ?_
 refine ae ?_
 refine ab _ (aR _ _) (aj (fun _=>?_) (fun hsm=>?_))
 ·exact kn l12
 have hsm:(!fi b || decide (e.n > 1000))=false:=hsm
 rw [Bool.or_eq_false_iff] at hsm
 have hsz:=Nc (qW hsm.1)
 refine aa (aa (aa ?_))
 refine aw (QW (hgl.le l12) (hk.le l12) hli h (SC hsz (by omega)) (QH hsz (by omega)) (QI (szB.le hsz (by omega))) p most hs e t) ?_
 rintro _ H3 _ ⟨⟨w3,rfl,h3⟩,rfl⟩ l3
 refine ⟨ap w3 _++[.bool true],rfl,ay (ao (h3.r [])) ⟨rfl,trivial⟩,af fun r3=>?_⟩
 refine aa ?_
 refine aj (fun _=>?_) (fun hd=>by cases hd)
 exact kn (Heap.le_trans l12 l3)
end Go.Proofs.YtdhobpmnkfmcfaaGreatDoor
