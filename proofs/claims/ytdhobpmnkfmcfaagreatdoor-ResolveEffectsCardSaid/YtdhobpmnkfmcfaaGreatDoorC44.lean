/- The reference's Token. -/
import Derived.Test.YtdhobpmnkfmcfaaGreatDoorC42
import Derived.Test.YtdhobpmnkfmcfaaGreatDoorC32
import Derived.Test.YtdhobpmnkfmcfaaGreatDoorC51
import Derived.Test.YtdhobpmnkfmcfaaGreatDoorRW
namespace Go.Proofs.YtdhobpmnkfmcfaaGreatDoor
open Go Go.Sx
set_option maxRecDepth 100000
set_option maxHeartbeats 1000000
theorem Uz:∀ (l:List Ob) (m:Nat),m≤500→(l.map (·.id)).Pairwise (· < ·)→(∀ o ∈ l,(m:Int) < o.id∧o.id≤500)→l.length + m≤500
 | [],m,h,_,_=>by simpa using h
 | o::l,m,h,hp,hm=>by
  rw [List.map_cons,List.pairwise_cons] at hp
  obtain ⟨h1,h2⟩:=hm o List.mem_cons_self
  have:=Uz l (m + 1) (by omega) hp.2 fun x hx=>by
   have h3:=hp.1 _ (List.mem_map_of_mem hx)
   have h4:=(hm x (List.mem_cons_of_mem _ hx)).2
   omega
  rw [List.length_cons];omega
theorem PL {b:Bd} (h:ay b=true):b.objs.length≤500 :=
 Uz b.objs 0 (by omega) (mA (ir (aY h).1).1) fun o ho=>by have:=(yQ h).1 o ho;omega
theorem VL {b:Bd} (h:ay b=true) {i:Nat} (hi:i < bU b):eX b ((i:Int) + 1)=i:=by
 have:=(rD h).2.1 i hi
 simp only [Option.map_eq_some_iff] at this
 obtain ⟨o,ho,he⟩:=this
 rw [← he]
 exact (eC (aY h).1 ho).2.2.1
theorem TI {b:Bd} (h:ay b=true):eX b ((bU b:Int) + 1) < 0:=by
 refine Decidable.byContradiction fun hn=>?_
 obtain ⟨k,o,e1,e2,_⟩:=oQ hn
 exact (rD h).2.2 o (List.mem_of_getElem? e1) e2
theorem Kx {P:Program} {f:FuncId} {args:List Value} {H:Heap} {O:Own} {e:TypeId} {size:Nat} {x:Value} {rows:List (List Value)} {R:Value→Heap→Own→Prop} {shp:Shp} {K:List Value→List (List Value)→Heap→Own→Prop}
  (hx:OSl e size x rows O) (h:∀ Hf,Heap.le H Hf→Sl Hf size x rows→Triple P f args Hf [] R) (hk:∀ v H' ,R v H' []→Heap.le H H'→∃ vs,shp.open v=some vs∧Ones vs∧K vs [] H' []) (hR:∀ v H' O',R v H' O'→O'=[]:=by rintro _ _ _ ⟨_,rfl⟩;rfl) :
  dN (fun H1 O1 R=>Triple P f args H1 O1 R) false [] [] shp K H O:=by
 intro hc
 obtain ⟨Hf,g,hs,hl⟩:=hx.freeze (X:=[]) (by simpa using hc)
 refine ⟨Hf,[],[],R,(by rw [List.append_nil] at g;exact g:Ghost H O Hf []),h Hf hl hs,fun v H' O' hr hle=>?_⟩
 obtain rfl:=hR v H' O' hr
 obtain ⟨vs,h1,h2,h3⟩:=hk v H' hr (Heap.le_trans hl hle)
 exact ⟨vs,[],[],h1,h2,trivial,rfl,h3⟩
def xh (b:Bd) (p pw tn most:Int):Bd × Int :=
 if (decide ((b.objs.length:Int) ≥ most) || decide ((bU b:Int) + 1 > 500))=true then (b,0) else (UU b (bU b) p pw tn,(bU b:Int) + 1)
theorem Qq {H:Heap} {v:cP} {b:Bd} (h:BdS H v b) (hB:bdB b) (hval:ay b=true) {p:Int} (hp:p=0∨p=1) (pw tn most:Int) :
  Triple PP nA [.agg (ap v b).toArray,iV p,iV pw,iV tn,iV most] H [] fun r H' O'=>(∃ w,r=.tuple #[.agg (ap w (xh b p pw tn most).1).toArray,iV (xh b p pw tn most).2]∧BdS H' w (xh b p pw tn most).1)∧O'=[]:=by
 refine un (vs:=ap v b++[iV p,iV pw,iV tn,iV most]) (by kernel_rfl) (az (ao (h.r [])) ⟨rfl,rfl,rfl,rfl,trivial⟩) ?_
 simp only [jr]
 have hf:=rD hval
 have h5:=PL hval
 refine af fun r0=>af fun r1=>?_
 refine aa ?_
 refine ax (Triple.frozen (GQ h hB)) ?_
 rintro _ H1 _ ⟨⟨w,rfl,hw⟩,rfl⟩ l1
 refine ⟨ap w b,rfl,ao (hw.r []),?_⟩
 refine aa ?_
 refine iU (fun vs H' O'=>∃ i:Nat,vs=[iV ((i:Int) + 1)]∧i≤bU b∧Heap.le H1 H'∧O'=[]) (fun vs _ _=>match g vs 0 with | .int _ k=>bU b + 1 - k.toNat | _=>0) ⟨0,rfl,Nat.zero_le _,Heap.le_refl _,rfl⟩ ?_
 rintro vs H2 O2 _ _ _ ⟨i,rfl,hi,hle,rfl⟩
 replace hw:=hw.le hle
 refine aa ?_
 refine ai (yj (hw.r _) ((i:Int) + 1)) rfl ⟨rfl,trivial⟩ fun H3 l3=>?_
 refine ab _ (di _ _) (aj (fun hb=>?_) (fun hb=>?_))
 ·have hlt:i < bU b:=by
   refine Nat.lt_of_le_of_ne hi fun e=>?_
   subst e
   have:=TI hval
   have hb:eX b ((bU b:Int) + 1) ≥ 0:=by simpa using hb
   omega
  refine ab (iV (((i + 1:Nat):Int) + 1)) (sM (x:=(i:Int) + 1) (y:=1) (by omega) (by omega)) (eL (by simp [Eqs]) ⟨i + 1,rfl,hlt,Heap.le_trans hle l3,rfl⟩ ?_)
  show bU b + 1 - (((i + 1:Nat):Int) + 1).toNat < bU b + 1 - ((i:Int) + 1).toNat
  omega
 ·have hil:i=bU b:=by
   refine Nat.le_antisymm hi (Nat.le_of_not_lt fun hlt=>?_)
   have:=VL hval hlt
   have hb:¬ eX b ((i:Int) + 1) ≥ 0:=by simpa using hb
   omega
  subst hil
  replace hw:=hw.le l3
  have hlen:ak .len [w.o]=some (iV b.objs.length):=by have:=hw.objs.len;rwa [List.length_map] at this
  refine aa ?_
  refine ab _ hlen ?_
  refine ab _ (di _ _) ?_
  refine ae ?_
  refine ab _ (bG _ _) ?_
  refine ae ?_
  refine ab _ (aS _ _) (aj (fun hb=>?_) (fun hb=>?_))
  ·have e:xh b p pw tn most=(b,0):=by rw [xh,if_pos hb]
   refine aa (aa (aa ?_))
   refine ah ⟨⟨w,?_,?_⟩,rfl⟩
   ·rw [e];rfl
   ·rw [e];exact hw
  have e:xh b p pw tn most=(UU b (bU b) p pw tn,(bU b:Int) + 1):=by rw [xh,if_neg (by rw [hb];simp)]
  refine ai (WE pw) rfl ⟨rfl,trivial⟩ fun H4 l4=>?_
  refine ai (WE tn) rfl ⟨rfl,trivial⟩ fun H5 l5=>?_
  replace hw:=hw.le (Heap.le_trans l4 l5)
  refine af fun r2=>?_
  have hs1:ak (.bin .sub .int) [iV ((bU b:Int) + 1),iV 1]=some (iV (bU b:Int)):=by
   rw [show (iV (bU b:Int))=iV ((bU b:Int) + 1 - 1) by congr 1;omega];exact HU (by omega) (by omega)
  obtain ⟨u1,e1,s1⟩:=hw.objs.from (i:=bU b) (by rw [List.length_map];exact hf.1)
  obtain ⟨u2,e2,s2⟩:=hw.objs.upto (i:=bU b) (by rw [List.length_map];exact hf.1)
  refine aa (aa (aa ?_))
  refine ab _ hs1 ?_
  refine ab _ e1 ?_
  refine af fun r3=>?_
  refine kZ (ad:=⟨r3,0,none⟩) (rows:=[(Py ((bU b:Int) + 1) p pw tn true).row]) (news:=(b.objs.map Ob.row).drop (bU b)) (size:=12) (e:=aM) (by kernel_rfl) (fun Hf _ hf=>Sl.block1 (hf _ List.mem_cons_self) rfl (bD _)) s1 (by rw [show lh PP aM=80 by kernel_rfl];simp;omega) (by simp;omega) fun v1 H6 l6 hv1=>?_
  refine aa ?_
  refine ab _ hs1 ?_
  refine ab _ e2 ?_
  refine dZ (e:=aM) (size:=12) (bytes:=80) (by kernel_rfl) (s2.le l6) (by simp;omega) (by simp;omega) fun xa Oa H7 lA pa=>?_
  refine aH (rows:=(b.objs.map Ob.row).take (bU b)) (news:=[(Py ((bU b:Int) + 1) p pw tn true).row]++(b.objs.map Ob.row).drop (bU b)) (O1:=Oa) (O2:=[]) (e:=aM) (size:=12) (bytes:=80) (by kernel_rfl) (by simp) pa (fun Hf lf _=>(hv1.le lA).le lf) (by simp;omega) (by simp;omega) ?_
  intro v' A' H8 l8 hA'
  rw [List.append_nil]
  have lz:=Heap.le_trans l6 (Heap.le_trans lA l8)
  replace hw:=hw.le lz
  have hA2:OSl aM 12 v' (List.map Ob.row (b.objs.take (bU b)++[Py ((bU b:Int) + 1) p pw tn true]++b.objs.drop (bU b))) A':=by
   rw [List.append_assoc,List.map_append,List.map_append,List.map_take,List.map_drop]
   exact hA'
  have hB2:bdB { b with objs:=b.objs.take (bU b)++[Py ((bU b:Int) + 1) p pw tn true]++b.objs.drop (bU b) }:=⟨by simp;omega,hB.2⟩
  refine aa (aa (aa ?_))
  refine Kx hA2 (fun Hf lf hs=>WB (v:={ w with o:=v' }) (b:={ b with objs:=b.objs.take (bU b)++[Py ((bU b:Int) + 1) p pw tn true]++b.objs.drop (bU b) }) ⟨hs,(hw.le lf).s0,(hw.le lf).s1,(hw.le lf).stack,(hw.le lf).queue,(hw.le lf).att,(hw.le lf).blocks⟩ hB2 (Py ((bU b:Int) + 1) p pw tn true) hp 2) ?_
  rintro _ H9 ⟨⟨w2,rfl,hw2⟩,-⟩ l9
  refine ⟨ap w2 (UU b (bU b) p pw tn),rfl,ao (hw2.r []),?_⟩
  refine aa (aa ?_)
  refine ah ⟨⟨w2,?_,?_⟩,rfl⟩
  ·rw [e];rfl
  ·rw [e];exact hw2
end Go.Proofs.YtdhobpmnkfmcfaaGreatDoor
namespace Go.Proofs.YtdhobpmnkfmcfaaGreatDoor
open Go Go.Sx
set_option maxRecDepth 100000
set_option maxHeartbeats 1000000
theorem Uh {b:Bd} (hval:ay b=true) {p:Int} (hp:p=0∨p=1) (pw tn most:Int):Aj b p pw tn most=((xh b p pw tn most).1,(xh b p pw tn most).2,0):=by
 have hw:aw p 0 1=true:=by simp only [aw,decide_eq_true_eq];omega
 rw [Aj,if_neg (by rw [hval,hw];simp),xh]
 by_cases h1:(b.objs.length:Int) ≥ most
 ·rw [if_pos h1,if_pos (by rw [decide_eq_true h1];rfl)]
 ·rw [if_neg h1]
  by_cases h2:500≤bU b
  ·rw [if_pos h2,if_pos (by rw [decide_eq_true (show (bU b:Int) + 1 > 500 by omega),Bool.or_true])]
  ·rw [if_neg h2,if_neg (by rw [decide_eq_false h1,decide_eq_false (show ¬ (bU b:Int) + 1 > 500 by omega)];simp)]
end Go.Proofs.YtdhobpmnkfmcfaaGreatDoor
namespace Go.Proofs.YtdhobpmnkfmcfaaGreatDoor
open Go Go.Sx
set_option maxRecDepth 100000
set_option maxHeartbeats 1000000
def Ue (x:Bd) (r:Value) (H':Heap) (O':Own):Prop:=(∃ w,r=.agg (ap w x).toArray∧BdS H' w x)∧O'=[]
theorem eY {H:Heap} {O:Own} {w:cP} {x:Bd} (ho:OwnB tys w x O):(Tree.ret (.agg (ap w x).toArray) []).den PP (Ue x) H O:=by
 intro hc
 obtain ⟨H',g,k,_⟩:=ho.freeze (X:=[]) (by simpa using hc)
 exact ⟨H',[],by simpa using g,⟨w,rfl,k⟩,rfl⟩
def iw (cs:List CdX) (b:Bd) (id:Int):Int:=if onB cs b id=true then eX b id else -1
theorem E7 {cs:List CdX} {b:Bd} {id:Int} (h:iw cs b id ≥ 0):onB cs b id=true:=by
 rw [iw] at h
 split at h
 ·assumption
 ·omega
theorem E8 {cs:List CdX} {b:Bd} {id:Int} (h:¬ iw cs b id ≥ 0):¬ onB cs b id=true:=by
 intro hon
 obtain ⟨k,f1,f2,f3,f4,f5⟩:=fu (nR hon).2.2
 rw [iw,if_pos hon,f3] at h
 omega
theorem ky {b:Bd} (hv:ay b=true) (q:Int):0≤(au b q).p0∧0≤(au b q).p1∧0≤(au b q).p2∧0≤(au b q).p3:=by
 have h:=D8 hv q
 simp only [ce,Bool.and_eq_true,aw,decide_eq_true_eq,List.all_cons,List.all_nil] at h
 obtain ⟨_,⟨⟨a1,a2⟩,⟨a3,a4⟩,⟨a5,a6⟩,⟨a7,a8⟩,_⟩,_⟩:=h
 exact ⟨a1,a3,a5,a7⟩
theorem kY {b:Bd} {id:Int} (hi:be b id=0) {k:Nat} (hk:eX b id=(k:Nat)) {f:Ob→Ob} (h1:(f (dA b id)).id=id) (h2:(f (dA b id)).card=(dA b id).card) (h3:(f (dA b id)).owner=(dA b id).owner) (hvo:bc (f (dA b id))=true) :
  cX b id f=dw b k (f (dA b id)):=by
 rw [cX,Qb hi h1 h2 h3 hvo,if_pos rfl,hk];rfl
theorem Qu {H:Heap} {O:Own} {a b:Int} (ha:sm a) (hb:sm b):RetO PP lK [iV a,iV b] H O (iV (pQ a b)):=by
 refine ni (vs:=[iV a,iV b]) (by kernel_rfl) ⟨rfl,rfl,trivial⟩ ?_
 simp only [gX]
 obtain ⟨a1,a2⟩:=ha
 obtain ⟨b1,b2⟩:=hb
 refine ab _ (iu _ _) (ab _ (md _ _) (ab _ (iu _ _) (ab _ (md _ _) (ab _ (sM ?_ ?_) (ab _ (iu _ _) (ah ⟨?_,rfl⟩))))))
 ·omega
 ·omega
 ·congr 1
  rw [pQ]
  omega
theorem OwnB.store_off {t:Tys} {w:cP} {b:Bd} {O:Own} (h:OwnB t w b O) {k:Nat} {o:Ob} (hk:b.objs[k]?=some o) {off:Nat} {ys:List Value} {o':Ob} (h1:off + ys.length≤12) (h2:Ones ys) (he:cB o.row off ys=o'.row) {a:Addr} (ha:ak (.idx 12) [w.o,iV k]=some (.pointer (some a))) :
  ∃ O1,wZ O (aU (.pointer (some a)) off) ys O1∧OwnB t w (dw b k o') O1:=by
 obtain ⟨Oo,A0,B0,C0,D0,A1,B1,C1,D1,Os,Oq,Oa,Obk,hp,h⟩:=h
 obtain ⟨a',k1,k2⟩:=h.objs.store hp (k:=.i64) (i:=k) (row:=o.row) (by rw [List.getElem?_map,hk];rfl)
 have:a'=a:=by
  rw [ha] at k1
  simpa using k1.symm
 subst this
 obtain ⟨O1',s1,s2⟩:=k2 off ys h1 h2
 refine ⟨_,s1,O1',A0,B0,C0,D0,A1,B1,C1,D1,Os,Oq,Oa,Obk,List.Perm.refl _,?_⟩
 have e:(b.objs.map Ob.row).set k (cB o.row off ys)=(dw b k o').objs.map Ob.row:=by
  rw [he,dw,List.map_set]
 rw [e] at s2
 exact ⟨s2,h.l0,h.h0,h.f0,h.g0,h.l1,h.h1,h.f1,h.g1,h.stack,h.queue,h.att,h.blocks⟩
theorem Lm {w:cP} {b:Bd} {O:Own} (ho:OwnB tys w b O) (H:Heap) {k:Nat} {o:Ob} (hk:b.objs[k]?=some o):∃ a,ak (.idx 12) [w.o,iV k]=some (.pointer (some a))∧∀ off m,off + m≤12→Reads H O (aU (.pointer (some a)) off) m ((o.row.drop off).take m):=by
 obtain ⟨a,k1,_,k3,_⟩:=(ho.r (fun p hp=>hp) H).objs.idx .i64 k (Ob.row o) (by rw [List.getElem?_map,hk];rfl)
 exact ⟨a,k1,k3⟩
theorem MP {H:Heap} {O:Own} {u:cP} {b:Bd} (ho:OwnB tys u b O) {k:Nat} {o o':Ob} (hk:b.objs[k]?=some o) {n:Nat} (hn:n + 1≤12) (he:cB o.row n [.bool true]=o'.row) {ra rb:Nat} :
  (bS ra (ap u b) [iV (k:Nat)] n rb).den PP (Ue (dw b k o')) H O:=by
 simp only [bS]
 obtain ⟨a,i1,i2⟩:=Lm ho H hk
 obtain ⟨O1,s1,s2⟩:=OwnB.store_off ho hk (off:=n) (ys:=[.bool true]) hn ⟨rfl,trivial⟩ he i1
 refine aa ?_
 refine ab _ i1 ?_
 refine aC rfl (aC rfl ?_)
 refine ⟨_,s1,?_⟩
 simp only [aG]
 refine aa (aa (aa ?_))
 exact eY s2
theorem S5 {H:Heap} {O:Own} {u:cP} {b:Bd} (ho:OwnB tys u b O) {k:Nat} {o o':Ob} (hk:b.objs[k]?=some o) {n:Nat} {x y:Int} (hx:sm x) (hy:sm y) (hn:n + 1≤12) {l:List Value} (q43:g l 43=iV y) (hr:(o.row.drop n).take 1=[iV x]) (he:cB o.row n [iV (pQ x y)]=o'.row) {ra rb rc:Nat} :
  (cm ra (ap u b) [iV (k:Nat)] n rb l rc).den PP (Ue (dw b k o')) H O:=by
 simp only [cm]
 obtain ⟨a,i1,i2⟩:=Lm ho H hk
 obtain ⟨O1,s1,s2⟩:=OwnB.store_off ho hk (off:=n) (ys:=[iV (pQ x y)]) hn ⟨rfl,trivial⟩ he i1
 have hrd:=i2 n 1 hn
 rw [hr] at hrd
 rw [q43]
 refine aa (aa ?_)
 refine ab _ i1 ?_
 refine aC rfl ?_
 refine ar (vs:=[iV x]) hrd rfl ⟨rfl,trivial⟩ ?_
 refine aa ?_
 refine ai (Qu hx hy) rfl ⟨rfl,trivial⟩ fun H1 l1=>?_
 refine ab _ i1 ?_
 refine aC rfl (aC rfl ?_)
 refine ⟨_,s1,?_⟩
 refine aa (aa (aa ?_))
 exact eY s2
theorem Uk {H:Heap} {O:Own} {cs:List CdX} {u:cP} {b:Bd} (ho:OwnB tys u b O) {e:Eff} (hn:sm e.n) (hm:sm e.m) {id:Int} {l:List Value} (q43:g l 43=iV e.n) (q44:g l 44=iV e.m) (ha:∀ o,uT e o={ o with pp:=pQ o.pp e.n,pt:=pQ o.pt e.m }) {ra rb rc:Nat} :
  (dJ [iV (iw cs b id)] ra (ap u b) rb l rc).den PP (Ue (if onB cs b id=true then cX b id (uT e) else b)) H O:=by
 simp only [dJ]
 rw [q43,q44]
 refine ab _ (di _ _) (aj (fun h=>?_) (fun h=>?_))
 rotate_left
 ·have hon:=E8 (of_decide_eq_false h)
  rw [if_neg hon]
  simp only [aG]
  refine aa (aa (aa ?_))
  exact eY ho
 have hon:=E7 (of_decide_eq_true h)
 obtain ⟨k,f1,f2,f3,f4,f5⟩:=fu (nR hon).2.2
 obtain ⟨a1,a2,a3⟩:=mE e (dA b id)
 rw [if_pos hon,kY (nR hon).2.2 f3 (a1.trans f2) a2 a3 (mD f4),iw,if_pos hon,f3,ha]
 generalize dA b id=o at *
 have hsm:=ox f4
 obtain ⟨a,i1,i2⟩:=Lm ho H f1
 obtain ⟨O1,s1,s2⟩:=OwnB.store_off ho f1 (off:=7) (ys:=[iV (pQ o.pp e.n)]) (o':={ o with pp:=pQ o.pp e.n }) (by simp) ⟨rfl,trivial⟩ rfl i1
 have hk2:(dw b k { o with pp:=pQ o.pp e.n }).objs[k]?=some { o with pp:=pQ o.pp e.n }:=by
  have:=(List.getElem?_eq_some_iff.1 f1).1
  simp [dw,this]
 obtain ⟨O2,t1,t2⟩:=OwnB.store_off s2 hk2 (off:=8) (ys:=[iV (pQ o.pt e.m)]) (o':={ o with pp:=pQ o.pp e.n,pt:=pQ o.pt e.m }) (by simp) ⟨rfl,trivial⟩ rfl i1
 have hset:dw (dw b k { o with pp:=pQ o.pp e.n }) k { o with pp:=pQ o.pp e.n,pt:=pQ o.pt e.m }=dw b k { o with pp:=pQ o.pp e.n,pt:=pQ o.pt e.m }:=by
  simp [dw]
 rw [hset] at t2
 refine aa ?_
 refine ab _ i1 ?_
 refine aC rfl (aC rfl ?_)
 refine ar (vs:=[iV o.pp]) (i2 7 1 (by omega)) rfl ⟨rfl,trivial⟩ ?_
 refine aa (aC rfl (aC rfl ?_))
 refine ar (vs:=[iV o.pt]) (i2 8 1 (by omega)) rfl ⟨rfl,trivial⟩ ?_
 refine aa ?_
 refine ai (Qu hsm.2.2.1 hn) rfl ⟨rfl,trivial⟩ fun H1 l1=>?_
 refine ai (Qu hsm.2.2.2 hm) rfl ⟨rfl,trivial⟩ fun H2 l2=>?_
 refine aC rfl (aC rfl (aC rfl ?_))
 refine ⟨_,s1,?_⟩
 refine aC rfl (aC rfl (aC rfl ?_))
 refine ⟨_,t1,?_⟩
 refine aa (aa (aa ?_))
 exact eY t2
theorem Jx {H:Heap} {O:Own} {cv:Value} {cs:List CdX} (hk:CardsX H cv cs) {v:cP} {b:Bd} (h:BdR H O v b) (hv:ay b=true) (id:Int):RetO PP lU [cv,.agg (ap v b).toArray,iV id] H O (iV (iw cs b id)):=by
 refine qX (vs:=cv::(ap v b++[iV id])) (by kernel_rfl) ⟨hk.one,az (ao h) ⟨rfl,trivial⟩⟩ ?_
 simp only [gy]
 refine af fun r0=>?_
 refine aa ?_
 refine ai (yj h id) rfl ⟨rfl,trivial⟩ fun H1 l1=>?_
 have h:=h.le l1
 refine ab _ (aJ _ _) (aj (fun hi=>?_) (fun hi=>?_))
 ·have hi:eX b id < 0:=of_decide_eq_true hi
  have hn:¬ onB cs b id=true:=fun hon=>by
   obtain ⟨k,f1,f2,f3,f4,f5⟩:=fu (nR hon).2.2
   omega
  refine ah ⟨?_,rfl⟩
  rw [iw,if_neg hn]
 have hi:¬ eX b id < 0:=of_decide_eq_false hi
 obtain ⟨k,o,e1,e2,e3⟩:=oQ (b:=b) (id:=id) (by omega)
 obtain ⟨g1,g2,_⟩:=Nl hv e1
 rw [e2] at g1 g2
 have hown:=(eC (aY hv).1 e1).2.2.2
 have hon:onB cs b id=(eN (VJ cs) o && (au b o.owner).field.contains id):=by rw [onB,g1,g2];rfl
 have hnd:∀ q,(au b q).field.Nodup:=fun q=>by
  have:=vB (aY hv).1
  rw [au];split
  ·exact this.1
  ·exact this.2
 obtain ⟨a,i1,i2,i3,i4,i5⟩:=h.objs.idx .i64 k (Ob.row o) (by rw [List.getElem?_map,e1];rfl)
 rw [e3]
 refine aa ?_
 refine ab _ i1 (ar i2 i4 i5 ?_)
 refine ai (AI (hk.le l1).base.kinds o) rfl ⟨rfl,trivial⟩ fun H2 l2=>?_
 have h:=h.le l2
 have i3:Reads H2 O (aU (.pointer (some a)) 2) 1 [iV o.owner]:=by
  obtain ⟨a',j1,_,j3,_,_⟩:=h.objs.idx .i64 k (Ob.row o) (by rw [List.getElem?_map,e1];rfl)
  have:a'=a:=by
   rw [i1] at j1
   simpa using j1.symm
  subst this
  exact j3 2 1 (by omega)
 refine ab _ (aN _) (aj (fun hc=>?_) (fun hc=>?_))
 ·have hc:eN (VJ cs) o=false:=wR hc
  refine ah ⟨?_,rfl⟩
  rw [iw,hon,hc,if_neg (by simp)]
 have hc:eN (VJ cs) o=true:=rx hc
 rw [hc,Bool.true_and] at hon
 have hcnt:∀ q,(((au b q).field.count id:Nat):Int) ≠ 1→(au b q).field.contains id=false:=fun q hne=>by
  cases hcon:(au b q).field.contains id
  ·rfl
  ·exfalso
   have hm:id ∈ (au b q).field:=by simpa using hcon
   have:=(hnd q).count (a:=id)
   rw [if_pos hm] at this
   omega
 have hcnt2:∀ q,(((au b q).field.count id:Nat):Int)=1→(au b q).field.contains id=true:=fun q he=>by
  have:0 < (au b q).field.count id:=by omega
  simpa using List.count_pos_iff.1 this
 refine aa ?_
 refine ab _ i1 (aC rfl (ar (vs:=[iV o.owner]) i3 rfl ⟨rfl,trivial⟩ ?_))
 rcases hown with hown | hown
 ·refine ⟨.i64,o.owner,rfl,fun _=>?_,fun e=>absurd hown e⟩
  refine aa ?_
  refine ai (gw h.s0.field id) rfl ⟨rfl,trivial⟩ fun H3 l3=>?_
  refine ab _ (bf _ _) (aj (fun hq=>?_) (fun hq=>?_))
  ·have hq:((b.s0.field.count id:Nat):Int) ≠ 1:=by simpa using hq
   refine ah ⟨?_,rfl⟩
   rw [iw,hon,hown,hcnt 0 hq,if_neg (by simp)]
  ·have hq:((b.s0.field.count id:Nat):Int)=1:=by simpa using hq
   refine ah ⟨?_,rfl⟩
   rw [iw,hon,hown,hcnt2 0 hq,if_pos rfl,e3];rfl
 ·refine ⟨.i64,o.owner,rfl,fun e=>absurd (hown.symm.trans e) (by omega),fun _=>⟨.i64,o.owner,rfl,fun _=>?_,fun e=>absurd hown e⟩⟩
  refine aa ?_
  refine ai (gw h.s1.field id) rfl ⟨rfl,trivial⟩ fun H3 l3=>?_
  refine ab _ (bf _ _) (aj (fun hq=>?_) (fun hq=>?_))
  ·have hq:((b.s1.field.count id:Nat):Int) ≠ 1:=by simpa using hq
   refine ah ⟨?_,rfl⟩
   rw [iw,hon,hown,hcnt 1 hq,if_neg (by simp)]
  ·have hq:((b.s1.field.count id:Nat):Int)=1:=by simpa using hq
   refine ah ⟨?_,rfl⟩
   rw [iw,hon,hown,hcnt2 1 hq,if_pos rfl,e3];rfl
section
variable {cv:Value} {cs:List CdX} {v:cP} {b:Bd} (hv:ay b=true) (hB:bdB b) {p src most:Int} {e:Eff} {t:Tg} (hev:Hy e=true) (hnb:¬ UO cs b p e t) (hsum:∀ q,(au b q).lib.length + (au b q).hand.length≤1000000)
 {n r1 r2 r0 r3:Nat} {who:Int}
include hv hB hev hnb hsum
theorem Jv {u:cP} {H:Heap} {O:Own} (ho:OwnB tys u b O) {l l7:List Value} (hl:l=(cv::(ap v b++(iV p::iV src::(e.row++(t.row++[iV most])))))) (hw:who=0) (hwd:who=I4 p e t) (qn:g l n=iV who) (q7:l7=[iV (iw cs b (idE src e t))]) :
  (ct l n r1 r2 r0 (ap u b) l7 r3).den PP (Ue (aL cs b p who (idE src e t) e most)) H O:=by
 obtain ⟨n0,n99,m0,m99,c0,c3⟩:=oc hev
 obtain ⟨z1,z2,z3,z4,z5,z6,z7,z8⟩:=zl hev
 have nsm:sm e.n:=by constructor <;> omega
 have msm:sm e.m:=by constructor <;> omega
 have hlf:=qW hv 0
 have q41:g l 41=iV e.code:=by rw [hl];rfl
 have q46:g l 46=iV t.id:=by rw [hl];rfl
 have q43:g l 43=iV e.n:=by rw [hl];rfl
 simp only [ct]
 refine ⟨.i64,who,qn,fun _=>?_,fun h=>absurd hw h⟩
 refine aa ?_
 rw [q41,q46,q43]
 refine ab _ (aA _ _) (aj (fun h=>?_) (fun h=>?_))
 ·have hc:e.code=1:=by simpa using h
  have ht:e.target ≠ 0:=by have:=z1 hc;omega
  have eid:idE src e t=t.id:=by rw [idE,if_neg ht]
  rw [eid] at q7 ⊢
  refine aa ?_
  refine ab _ (bG _ _) (aj (fun hp=>?_) (fun hp=>?_))
  ·have hp:t.id > 0:=of_decide_eq_true hp
   have ec:aL cs b p who t.id e most=cX b t.id fun o=>{ o with dmg:=pQ o.dmg e.n }:=by rw [aL,if_pos hc,if_pos hp]
   have hon:onB cs b t.id=true:=by
    rcases (ry (JI hnb ht)).2.2.2 with ⟨_,_,h2,_⟩ | ⟨h2,_⟩ | ⟨h6,_⟩
    ·exact h2
    ·omega
    ·have:=z1 hc;omega
   obtain ⟨k,f1,f2,f3,f4,f5⟩:=fu (nR hon).2.2
   rw [iw,if_pos hon,f3] at q7
   rw [ec,kY (nR hon).2.2 f3 f2 rfl rfl (Fh f4 e.n)]
   subst q7
   exact S5 ho f1 (x:=(dA b t.id).dmg) (ox f4).1 nsm (by omega) (by rw [q43]) rfl rfl
  ·have ec:aL cs b p who t.id e most=nV b 0 (cu ((au b 0).life - e.n) 9999):=by rw [aL,if_pos hc,if_neg (of_decide_eq_false hp),hw]
   rw [ec]
   refine aa (aa ?_)
   refine ab _ (I5 (x:=(au b 0).life) (y:=e.n) (by omega) (by omega)) ?_
   refine ab _ (md _ _) ?_
   simp only [cq]
   refine aa (aa (aa (aa ?_)))
   have ex:cu ((au b 0).life - e.n) 9999=max 0 ((au b 0).life - e.n):=by rw [cu];omega
   rw [ex]
   exact eY (x:=nV b 0 (max 0 ((au b 0).life - e.n))) (cC ho rfl rfl rfl rfl)
 have k1:e.code ≠ 1:=by simpa using h
 refine ab _ (aA _ _) (aj (fun h=>?_) (fun h=>?_))
 ·have hc:e.code=2:=by simpa using h
  have ec:aL cs b p who (idE src e t) e most=eG e.n.toNat b 0:=by
   rw [aL,if_neg k1,if_pos hc,hw,rG,if_neg (by rw [hv,show aw 0 0 1=true by decide,decide_eq_false (show ¬ e.n < 0 by omega)];simp)]
  rw [ec]
  simp only [dG]
  rw [qn,q43,hw]
  refine aa (aa ?_)
  have hnn:(iV e.n:Value)=iV ((e.n.toNat:Nat):Int):=by rw [Int.toNat_of_nonneg n0]
  rw [hnn]
  refine dP ho (fun Hf lf hf=>Un hf hB hv 0 (by omega) (hsum 0) e.n.toNat (by omega)) ?_
  rintro _ H2 _ ⟨⟨w2,rfl,h2⟩,rfl⟩ l2
  refine ⟨ap w2 _,rfl,ao (h2.r []),?_⟩
  simp only [aG]
  refine aa (aa ?_)
  exact ah ⟨⟨w2,rfl,h2⟩,rfl⟩
 have k2:e.code ≠ 2:=by simpa using h
 refine ab _ (aA _ _) (aj (fun h=>?_) (fun h=>?_))
 ·have hc:e.code=3:=by simpa using h
  have ec:aL cs b p who (idE src e t) e most=nV b 0 (cu ((au b 0).life + e.n) 9999):=by rw [aL,if_neg k1,if_neg k2,if_pos hc,hw]
  rw [ec]
  refine aa (aa ?_)
  refine ab _ (Sr (x:=(au b 0).life) (y:=e.n) (by constructor <;> omega) nsm) ?_
  refine ab _ (iu _ _) ?_
  simp only [cq]
  refine aa (aa (aa (aa ?_)))
  have ex:cu ((au b 0).life + e.n) 9999=min 9999 ((au b 0).life + e.n):=by rw [cu];omega
  rw [ex]
  exact eY (x:=nV b 0 (min 9999 ((au b 0).life + e.n))) (cC ho rfl rfl rfl rfl)
 have k3:e.code ≠ 3:=by simpa using h
 refine ab _ (aA _ _) (aj (fun h=>?_) (fun h=>?_))
 ·have hc:e.code=4:=by simpa using h
  have ec:aL cs b p who (idE src e t) e most=nV b 0 (cu ((au b 0).life - e.n) 9999):=by rw [aL,if_neg k1,if_neg k2,if_neg k3,if_pos hc,hw]
  rw [ec]
  refine aa (aa ?_)
  refine ab _ (I5 (x:=(au b 0).life) (y:=e.n) (by omega) (by omega)) ?_
  refine ab _ (md _ _) ?_
  simp only [cq]
  refine aa (aa (aa (aa ?_)))
  have ex:cu ((au b 0).life - e.n) 9999=max 0 ((au b 0).life - e.n):=by rw [cu];omega
  rw [ex]
  exact eY (x:=nV b 0 (max 0 ((au b 0).life - e.n))) (cC ho rfl rfl rfl rfl)
 have k4:e.code ≠ 4:=by simpa using h
 have onT:e.code=5∨e.code=6∨e.code=11→idE src e t=t.id∧onB cs b t.id=true:=fun hc=>by
  have ht:e.target ≠ 0:=by have:=z3 hc;omega
  refine ⟨by rw [idE,if_neg ht],?_⟩
  rcases (ry (JI hnb ht)).2.2.2 with ⟨_,_,h2,_⟩ | ⟨_,h2⟩ | ⟨h6,_⟩
  ·exact h2
  ·have:=z3 hc;omega
  ·have:=z3 hc;omega
 refine ab _ (aA _ _) (aj (fun h=>?_) (fun h=>?_))
 ·have hc:e.code=5:=by simpa using h
  obtain ⟨eid,hon⟩:=onT (.inl hc)
  rw [eid] at q7 ⊢
  obtain ⟨k,f1,f2,f3,f4,f5⟩:=fu (nR hon).2.2
  have ec:aL cs b p who t.id e most=cX b t.id (uT e):=by rw [aL,if_neg k1,if_neg k2,if_neg k3,if_neg k4,if_neg (by omega),if_neg (by omega),if_neg (by omega),if_neg (by omega),if_pos hon]
  obtain ⟨a1,a2,a3⟩:=mE e (dA b t.id)
  rw [iw,if_pos hon,f3] at q7
  rw [ec,kY (nR hon).2.2 f3 (a1.trans f2) a2 a3 (mD f4)]
  subst q7
  exact MP ho f1 (by omega) (by rw [uT,if_pos hc];rfl)
 have k5:e.code ≠ 5:=by simpa using h
 refine ab _ (aA _ _) (aj (fun h=>?_) (fun h=>?_))
 ·have hc:e.code=11:=by simpa using h
  obtain ⟨eid,hon⟩:=onT (.inr (.inr hc))
  rw [eid] at q7 ⊢
  obtain ⟨k,f1,f2,f3,f4,f5⟩:=fu (nR hon).2.2
  have ec:aL cs b p who t.id e most=cX b t.id (uT e):=by rw [aL,if_neg k1,if_neg k2,if_neg k3,if_neg k4,if_neg (by omega),if_neg (by omega),if_neg (by omega),if_neg (by omega),if_pos hon]
  obtain ⟨a1,a2,a3⟩:=mE e (dA b t.id)
  rw [iw,if_pos hon,f3] at q7
  rw [ec,kY (nR hon).2.2 f3 (a1.trans f2) a2 a3 (mD f4)]
  subst q7
  exact MP ho f1 (by omega) (by rw [uT,if_neg k5,if_pos hc];rfl)
 have k11:e.code ≠ 11:=by simpa using h
 refine ab _ (aA _ _) (aj (fun h=>?_) (fun h=>?_))
 ·have hc:e.code=6:=by simpa using h
  obtain ⟨eid,hon⟩:=onT (.inr (.inl hc))
  rw [eid]
  obtain ⟨k,f1,f2,f3,f4,f5⟩:=fu (nR hon).2.2
  have ec:aL cs b p who t.id e most=(fE b t.id 1).1:=by rw [aL,if_neg k1,if_neg k2,if_neg k3,if_neg k4,if_pos hc]
  rw [ec]
  simp only [dH]
  rw [q46]
  refine aa (aa ?_)
  refine dP ho (fun Hf lf hf=>by have hm:=AH hf hv hB f1 1 (by omega);rw [f2] at hm;exact hm) ?_
  rintro _ H2 _ ⟨⟨w2,rfl,h2⟩,rfl⟩ l2
  refine ⟨ap w2 _,rfl,ao (h2.r []),?_⟩
  simp only [aG]
  refine aa (aa ?_)
  exact ah ⟨⟨w2,rfl,h2⟩,rfl⟩
 have k6:e.code ≠ 6:=by simpa using h
 refine ab _ (aA _ _) (aj (fun h=>?_) (fun h=>?_))
 ·have hc:e.code=7:=by simpa using h
  have eid:idE src e t=t.id:=by rw [idE,if_neg (by have:=z4 hc;omega)]
  rw [eid]
  have ec:aL cs b p who t.id e most=(bK b t.id).1:=by rw [aL,if_neg k1,if_neg k2,if_neg k3,if_neg k4,if_neg k6,if_pos hc]
  rw [ec]
  simp only [dI]
  rw [q46]
  refine aa (aa ?_)
  refine dP ho (fun Hf lf hf=>Jy hf hv hB) ?_
  rintro _ H2 _ ⟨⟨w2,rfl,h2⟩,rfl⟩ l2
  refine ⟨ap w2 (bK b t.id).1++[iV (bK b t.id).2],rfl,az (ao (h2.r [])) ⟨rfl,trivial⟩,af fun r=>?_⟩
  refine aa (aa (aa (aa ?_)))
  exact ah ⟨⟨w2,rfl,h2⟩,rfl⟩
 have k7:e.code ≠ 7:=by simpa using h
 have hal:e.code=8∨e.code=9→aL cs b p who (idE src e t) e most=if onB cs b (idE src e t)=true then cX b (idE src e t) (uT e) else b:=fun hc=>by
  rw [aL,if_neg k1,if_neg k2,if_neg k3,if_neg k4,if_neg k6,if_neg k7,if_neg (by omega),if_neg (by omega)]
 refine ab _ (aA _ _) (aj (fun h=>?_) (fun h=>?_))
 ·have hc:e.code=8:=by simpa using h
  rw [hal (.inl hc)]
  subst q7
  exact Uk ho nsm msm q43 (by rw [hl];rfl) (fun o=>by rw [uT,if_neg k5,if_neg k11,if_pos hc])
 have k8:e.code ≠ 8:=by simpa using h
 refine ab _ (aA _ _) (aj (fun h=>?_) (fun h=>?_))
 ·have hc:e.code=9:=by simpa using h
  rw [hal (.inr hc)]
  subst q7
  refine ab _ (di _ _) (aj (fun h=>?_) (fun h=>?_))
  ·have hon:=E7 (of_decide_eq_true h)
   obtain ⟨k,f1,f2,f3,f4,f5⟩:=fu (nR hon).2.2
   obtain ⟨a1,a2,a3⟩:=mE e (dA b (idE src e t))
   rw [if_pos hon,kY (nR hon).2.2 f3 (a1.trans f2) a2 a3 (mD f4),iw,if_pos hon,f3]
   exact S5 ho f1 (x:=(dA b (idE src e t)).cnt) (ox f4).2.1 nsm (by omega) (by rw [q43]) rfl (by rw [uT,if_neg k5,if_neg k11,if_neg k8,if_pos hc];rfl)
  ·have hon:=E8 (of_decide_eq_false h)
   rw [if_neg hon]
   simp only [aG]
   refine aa (aa (aa ?_))
   exact eY ho
 have k9:e.code ≠ 9:=by simpa using h
 refine ab _ (aA _ _) (aj (fun h=>?_) (fun h=>?_))
 ·have hc:e.code=10:=by simpa using h
  have hp:p=0∨p=1:=by
   have:I4 p e t=p:=by rw [I4,if_pos (z6 (.inl hc))]
   omega
  have ec:aL cs b p who (idE src e t) e most=(xh b p e.n e.m most).1:=by rw [aL,if_neg k1,if_neg k2,if_neg k3,if_neg k4,if_neg k6,if_neg k7,if_pos hc,Uh hv hp]
  rw [ec]
  simp only [ee]
  subst hl
  refine aa (aa (aa ?_))
  refine dP ho (fun Hf lf hf=>Qq hf hB hv hp e.n e.m most) ?_
  rintro _ H2 _ ⟨⟨w2,rfl,h2⟩,rfl⟩ l2
  refine ⟨ap w2 (xh b p e.n e.m most).1++[iV (xh b p e.n e.m most).2],rfl,az (ao (h2.r [])) ⟨rfl,trivial⟩,af fun r=>?_⟩
  refine aa (aa (aa (aa ?_)))
  exact ah ⟨⟨w2,rfl,h2⟩,rfl⟩
 have k10:e.code ≠ 10:=by simpa using h
 refine ab _ (aA _ _) (aj (fun h=>?_) (fun h=>?_))
 ·have hc:e.code=12:=by simpa using h
  have ec:aL cs b p who (idE src e t) e most=bH b 0 (fL (au b 0) e.colour e.n):=by rw [aL,if_neg k1,if_neg k2,if_neg k3,if_neg k4,if_neg k6,if_neg k7,if_neg k10,if_pos hc,hw]
  rw [ec]
  subst hl
  refine aa (aa ?_)
  obtain hc | hc | hc | hc:e.colour=0∨e.colour=1∨e.colour=2∨e.colour=3:=by omega
  ·refine ⟨.i64,e.colour,rfl,fun _=>?_,fun h=>absurd hc h⟩
   simp only [bp]
   refine aa (aa ?_)
   have hpl:=(dO hv 0).1
   have hpr:=(ky hv 0).1
   refine ab _ (Sr hpl nsm) ?_
   refine ab _ (iu _ _) ?_
   refine ⟨.i64,e.colour,rfl,fun _=>?_,fun h=>absurd hc h⟩
   refine aa (aa (aa (aa ?_)))
   have ex:fL (au b 0) e.colour e.n={ au b 0 with p0:=min 99 ((au b 0).p0 + e.n) }:=by
    rw [fL,if_pos hc,cu,show max 0 (min ((au b 0).p0 + e.n) 99)=min 99 ((au b 0).p0 + e.n) by omega]
   rw [ex]
   exact eY (x:=bH b 0 { au b 0 with p0:=min 99 ((au b 0).p0 + e.n) }) (cC ho rfl rfl rfl rfl)
  ·refine ⟨.i64,e.colour,rfl,fun h=>absurd (hc.symm.trans h) (by omega),fun _=>⟨.i64,e.colour,rfl,fun _=>?_,fun h=>absurd hc h⟩⟩
   simp only [bp]
   refine aa (aa ?_)
   have hpl:=(dO hv 0).2.1
   have hpr:=(ky hv 0).2.1
   refine ab _ (Sr hpl nsm) ?_
   refine ab _ (iu _ _) ?_
   refine ⟨.i64,e.colour,rfl,fun h=>absurd (hc.symm.trans h) (by omega),fun _=>⟨.i64,e.colour,rfl,fun _=>?_,fun h=>absurd hc h⟩⟩
   refine aa (aa (aa (aa ?_)))
   have ex:fL (au b 0) e.colour e.n={ au b 0 with p1:=min 99 ((au b 0).p1 + e.n) }:=by
    rw [fL,if_neg (by omega),if_pos hc,cu,show max 0 (min ((au b 0).p1 + e.n) 99)=min 99 ((au b 0).p1 + e.n) by omega]
   rw [ex]
   exact eY (x:=bH b 0 { au b 0 with p1:=min 99 ((au b 0).p1 + e.n) }) (cC ho rfl rfl rfl rfl)
  ·refine ⟨.i64,e.colour,rfl,fun h=>absurd (hc.symm.trans h) (by omega),fun _=>⟨.i64,e.colour,rfl,fun h=>absurd (hc.symm.trans h) (by omega),fun _=>⟨.i64,e.colour,rfl,fun _=>?_,fun h=>absurd hc h⟩⟩⟩
   simp only [bp]
   refine aa (aa ?_)
   have hpl:=(dO hv 0).2.2.1
   have hpr:=(ky hv 0).2.2.1
   refine ab _ (Sr hpl nsm) ?_
   refine ab _ (iu _ _) ?_
   refine ⟨.i64,e.colour,rfl,fun h=>absurd (hc.symm.trans h) (by omega),fun _=>⟨.i64,e.colour,rfl,fun h=>absurd (hc.symm.trans h) (by omega),fun _=>⟨.i64,e.colour,rfl,fun _=>?_,fun h=>absurd hc h⟩⟩⟩
   refine aa (aa (aa (aa ?_)))
   have ex:fL (au b 0) e.colour e.n={ au b 0 with p2:=min 99 ((au b 0).p2 + e.n) }:=by
    rw [fL,if_neg (by omega),if_neg (by omega),if_pos hc,cu,show max 0 (min ((au b 0).p2 + e.n) 99)=min 99 ((au b 0).p2 + e.n) by omega]
   rw [ex]
   exact eY (x:=bH b 0 { au b 0 with p2:=min 99 ((au b 0).p2 + e.n) }) (cC ho rfl rfl rfl rfl)
  ·refine ⟨.i64,e.colour,rfl,fun h=>absurd (hc.symm.trans h) (by omega),fun _=>⟨.i64,e.colour,rfl,fun h=>absurd (hc.symm.trans h) (by omega),fun _=>⟨.i64,e.colour,rfl,fun h=>absurd (hc.symm.trans h) (by omega),fun _=>⟨.i64,e.colour,rfl,fun _=>?_,fun h=>absurd hc h⟩⟩⟩⟩
   simp only [bp]
   refine aa (aa ?_)
   have hpl:=(dO hv 0).2.2.2
   have hpr:=(ky hv 0).2.2.2
   refine ab _ (Sr hpl nsm) ?_
   refine ab _ (iu _ _) ?_
   refine ⟨.i64,e.colour,rfl,fun h=>absurd (hc.symm.trans h) (by omega),fun _=>⟨.i64,e.colour,rfl,fun h=>absurd (hc.symm.trans h) (by omega),fun _=>⟨.i64,e.colour,rfl,fun h=>absurd (hc.symm.trans h) (by omega),fun _=>⟨.i64,e.colour,rfl,fun _=>?_,fun h=>absurd hc h⟩⟩⟩⟩
   refine aa (aa (aa (aa ?_)))
   have ex:fL (au b 0) e.colour e.n={ au b 0 with p3:=min 99 ((au b 0).p3 + e.n) }:=by
    rw [fL,if_neg (by omega),if_neg (by omega),if_neg (by omega),cu,show max 0 (min ((au b 0).p3 + e.n) 99)=min 99 ((au b 0).p3 + e.n) by omega]
   rw [ex]
   exact eY (x:=bH b 0 { au b 0 with p3:=min 99 ((au b 0).p3 + e.n) }) (cC ho rfl rfl rfl rfl)
 have k12:e.code ≠ 12:=by simpa using h
 exfalso
 omega
include hv hB hev hnb hsum
theorem Ju {u:cP} {H:Heap} {O:Own} (ho:OwnB tys u b O) {l l7:List Value} (hl:l=(cv::(ap v b++(iV p::iV src::(e.row++(t.row++[iV most])))))) (hw:who=1) (hwd:who=I4 p e t) (qn:g l n=iV who) (q7:l7=[iV (iw cs b (idE src e t))]) :
  (ct l n r1 r2 r0 (ap u b) l7 r3).den PP (Ue (aL cs b p who (idE src e t) e most)) H O:=by
 obtain ⟨n0,n99,m0,m99,c0,c3⟩:=oc hev
 obtain ⟨z1,z2,z3,z4,z5,z6,z7,z8⟩:=zl hev
 have nsm:sm e.n:=by constructor <;> omega
 have msm:sm e.m:=by constructor <;> omega
 have hlf:=qW hv 1
 have q41:g l 41=iV e.code:=by rw [hl];rfl
 have q46:g l 46=iV t.id:=by rw [hl];rfl
 have q43:g l 43=iV e.n:=by rw [hl];rfl
 simp only [ct]
 refine ⟨.i64,who,qn,fun h=>absurd (hw.symm.trans h) (by omega),fun _=>⟨.i64,who,qn,fun _=>?_,fun h=>absurd hw h⟩⟩
 refine aa ?_
 rw [q41,q46,q43]
 refine ab _ (aA _ _) (aj (fun h=>?_) (fun h=>?_))
 ·have hc:e.code=1:=by simpa using h
  have ht:e.target ≠ 0:=by have:=z1 hc;omega
  have eid:idE src e t=t.id:=by rw [idE,if_neg ht]
  rw [eid] at q7 ⊢
  refine aa ?_
  refine ab _ (bG _ _) (aj (fun hp=>?_) (fun hp=>?_))
  ·have hp:t.id > 0:=of_decide_eq_true hp
   have ec:aL cs b p who t.id e most=cX b t.id fun o=>{ o with dmg:=pQ o.dmg e.n }:=by rw [aL,if_pos hc,if_pos hp]
   have hon:onB cs b t.id=true:=by
    rcases (ry (JI hnb ht)).2.2.2 with ⟨_,_,h2,_⟩ | ⟨h2,_⟩ | ⟨h6,_⟩
    ·exact h2
    ·omega
    ·have:=z1 hc;omega
   obtain ⟨k,f1,f2,f3,f4,f5⟩:=fu (nR hon).2.2
   rw [iw,if_pos hon,f3] at q7
   rw [ec,kY (nR hon).2.2 f3 f2 rfl rfl (Fh f4 e.n)]
   subst q7
   exact S5 ho f1 (x:=(dA b t.id).dmg) (ox f4).1 nsm (by omega) (by rw [q43]) rfl rfl
  ·have ec:aL cs b p who t.id e most=nV b 1 (cu ((au b 1).life - e.n) 9999):=by rw [aL,if_pos hc,if_neg (of_decide_eq_false hp),hw]
   rw [ec]
   refine aa (aa ?_)
   refine ab _ (I5 (x:=(au b 1).life) (y:=e.n) (by omega) (by omega)) ?_
   refine ab _ (md _ _) ?_
   simp only [cn]
   refine aa (aa (aa (aa ?_)))
   have ex:cu ((au b 1).life - e.n) 9999=max 0 ((au b 1).life - e.n):=by rw [cu];omega
   rw [ex]
   exact eY (x:=nV b 1 (max 0 ((au b 1).life - e.n))) (cC ho rfl rfl rfl rfl)
 have k1:e.code ≠ 1:=by simpa using h
 refine ab _ (aA _ _) (aj (fun h=>?_) (fun h=>?_))
 ·have hc:e.code=2:=by simpa using h
  have ec:aL cs b p who (idE src e t) e most=eG e.n.toNat b 1:=by
   rw [aL,if_neg k1,if_pos hc,hw,rG,if_neg (by rw [hv,show aw 1 0 1=true by decide,decide_eq_false (show ¬ e.n < 0 by omega)];simp)]
  rw [ec]
  simp only [dG]
  rw [qn,q43,hw]
  refine aa (aa ?_)
  have hnn:(iV e.n:Value)=iV ((e.n.toNat:Nat):Int):=by rw [Int.toNat_of_nonneg n0]
  rw [hnn]
  refine dP ho (fun Hf lf hf=>Un hf hB hv 1 (by omega) (hsum 1) e.n.toNat (by omega)) ?_
  rintro _ H2 _ ⟨⟨w2,rfl,h2⟩,rfl⟩ l2
  refine ⟨ap w2 _,rfl,ao (h2.r []),?_⟩
  simp only [aG]
  refine aa (aa ?_)
  exact ah ⟨⟨w2,rfl,h2⟩,rfl⟩
 have k2:e.code ≠ 2:=by simpa using h
 refine ab _ (aA _ _) (aj (fun h=>?_) (fun h=>?_))
 ·have hc:e.code=3:=by simpa using h
  have ec:aL cs b p who (idE src e t) e most=nV b 1 (cu ((au b 1).life + e.n) 9999):=by rw [aL,if_neg k1,if_neg k2,if_pos hc,hw]
  rw [ec]
  refine aa (aa ?_)
  refine ab _ (Sr (x:=(au b 1).life) (y:=e.n) (by constructor <;> omega) nsm) ?_
  refine ab _ (iu _ _) ?_
  simp only [cn]
  refine aa (aa (aa (aa ?_)))
  have ex:cu ((au b 1).life + e.n) 9999=min 9999 ((au b 1).life + e.n):=by rw [cu];omega
  rw [ex]
  exact eY (x:=nV b 1 (min 9999 ((au b 1).life + e.n))) (cC ho rfl rfl rfl rfl)
 have k3:e.code ≠ 3:=by simpa using h
 refine ab _ (aA _ _) (aj (fun h=>?_) (fun h=>?_))
 ·have hc:e.code=4:=by simpa using h
  have ec:aL cs b p who (idE src e t) e most=nV b 1 (cu ((au b 1).life - e.n) 9999):=by rw [aL,if_neg k1,if_neg k2,if_neg k3,if_pos hc,hw]
  rw [ec]
  refine aa (aa ?_)
  refine ab _ (I5 (x:=(au b 1).life) (y:=e.n) (by omega) (by omega)) ?_
  refine ab _ (md _ _) ?_
  simp only [cn]
  refine aa (aa (aa (aa ?_)))
  have ex:cu ((au b 1).life - e.n) 9999=max 0 ((au b 1).life - e.n):=by rw [cu];omega
  rw [ex]
  exact eY (x:=nV b 1 (max 0 ((au b 1).life - e.n))) (cC ho rfl rfl rfl rfl)
 have k4:e.code ≠ 4:=by simpa using h
 have onT:e.code=5∨e.code=6∨e.code=11→idE src e t=t.id∧onB cs b t.id=true:=fun hc=>by
  have ht:e.target ≠ 0:=by have:=z3 hc;omega
  refine ⟨by rw [idE,if_neg ht],?_⟩
  rcases (ry (JI hnb ht)).2.2.2 with ⟨_,_,h2,_⟩ | ⟨_,h2⟩ | ⟨h6,_⟩
  ·exact h2
  ·have:=z3 hc;omega
  ·have:=z3 hc;omega
 refine ab _ (aA _ _) (aj (fun h=>?_) (fun h=>?_))
 ·have hc:e.code=5:=by simpa using h
  obtain ⟨eid,hon⟩:=onT (.inl hc)
  rw [eid] at q7 ⊢
  obtain ⟨k,f1,f2,f3,f4,f5⟩:=fu (nR hon).2.2
  have ec:aL cs b p who t.id e most=cX b t.id (uT e):=by rw [aL,if_neg k1,if_neg k2,if_neg k3,if_neg k4,if_neg (by omega),if_neg (by omega),if_neg (by omega),if_neg (by omega),if_pos hon]
  obtain ⟨a1,a2,a3⟩:=mE e (dA b t.id)
  rw [iw,if_pos hon,f3] at q7
  rw [ec,kY (nR hon).2.2 f3 (a1.trans f2) a2 a3 (mD f4)]
  subst q7
  exact MP ho f1 (by omega) (by rw [uT,if_pos hc];rfl)
 have k5:e.code ≠ 5:=by simpa using h
 refine ab _ (aA _ _) (aj (fun h=>?_) (fun h=>?_))
 ·have hc:e.code=11:=by simpa using h
  obtain ⟨eid,hon⟩:=onT (.inr (.inr hc))
  rw [eid] at q7 ⊢
  obtain ⟨k,f1,f2,f3,f4,f5⟩:=fu (nR hon).2.2
  have ec:aL cs b p who t.id e most=cX b t.id (uT e):=by rw [aL,if_neg k1,if_neg k2,if_neg k3,if_neg k4,if_neg (by omega),if_neg (by omega),if_neg (by omega),if_neg (by omega),if_pos hon]
  obtain ⟨a1,a2,a3⟩:=mE e (dA b t.id)
  rw [iw,if_pos hon,f3] at q7
  rw [ec,kY (nR hon).2.2 f3 (a1.trans f2) a2 a3 (mD f4)]
  subst q7
  exact MP ho f1 (by omega) (by rw [uT,if_neg k5,if_pos hc];rfl)
 have k11:e.code ≠ 11:=by simpa using h
 refine ab _ (aA _ _) (aj (fun h=>?_) (fun h=>?_))
 ·have hc:e.code=6:=by simpa using h
  obtain ⟨eid,hon⟩:=onT (.inr (.inl hc))
  rw [eid]
  obtain ⟨k,f1,f2,f3,f4,f5⟩:=fu (nR hon).2.2
  have ec:aL cs b p who t.id e most=(fE b t.id 1).1:=by rw [aL,if_neg k1,if_neg k2,if_neg k3,if_neg k4,if_pos hc]
  rw [ec]
  simp only [dH]
  rw [q46]
  refine aa (aa ?_)
  refine dP ho (fun Hf lf hf=>by have hm:=AH hf hv hB f1 1 (by omega);rw [f2] at hm;exact hm) ?_
  rintro _ H2 _ ⟨⟨w2,rfl,h2⟩,rfl⟩ l2
  refine ⟨ap w2 _,rfl,ao (h2.r []),?_⟩
  simp only [aG]
  refine aa (aa ?_)
  exact ah ⟨⟨w2,rfl,h2⟩,rfl⟩
 have k6:e.code ≠ 6:=by simpa using h
 refine ab _ (aA _ _) (aj (fun h=>?_) (fun h=>?_))
 ·have hc:e.code=7:=by simpa using h
  have eid:idE src e t=t.id:=by rw [idE,if_neg (by have:=z4 hc;omega)]
  rw [eid]
  have ec:aL cs b p who t.id e most=(bK b t.id).1:=by rw [aL,if_neg k1,if_neg k2,if_neg k3,if_neg k4,if_neg k6,if_pos hc]
  rw [ec]
  simp only [dI]
  rw [q46]
  refine aa (aa ?_)
  refine dP ho (fun Hf lf hf=>Jy hf hv hB) ?_
  rintro _ H2 _ ⟨⟨w2,rfl,h2⟩,rfl⟩ l2
  refine ⟨ap w2 (bK b t.id).1++[iV (bK b t.id).2],rfl,az (ao (h2.r [])) ⟨rfl,trivial⟩,af fun r=>?_⟩
  refine aa (aa (aa (aa ?_)))
  exact ah ⟨⟨w2,rfl,h2⟩,rfl⟩
 have k7:e.code ≠ 7:=by simpa using h
 have hal:e.code=8∨e.code=9→aL cs b p who (idE src e t) e most=if onB cs b (idE src e t)=true then cX b (idE src e t) (uT e) else b:=fun hc=>by
  rw [aL,if_neg k1,if_neg k2,if_neg k3,if_neg k4,if_neg k6,if_neg k7,if_neg (by omega),if_neg (by omega)]
 refine ab _ (aA _ _) (aj (fun h=>?_) (fun h=>?_))
 ·have hc:e.code=8:=by simpa using h
  rw [hal (.inl hc)]
  subst q7
  exact Uk ho nsm msm q43 (by rw [hl];rfl) (fun o=>by rw [uT,if_neg k5,if_neg k11,if_pos hc])
 have k8:e.code ≠ 8:=by simpa using h
 refine ab _ (aA _ _) (aj (fun h=>?_) (fun h=>?_))
 ·have hc:e.code=9:=by simpa using h
  rw [hal (.inr hc)]
  subst q7
  refine ab _ (di _ _) (aj (fun h=>?_) (fun h=>?_))
  ·have hon:=E7 (of_decide_eq_true h)
   obtain ⟨k,f1,f2,f3,f4,f5⟩:=fu (nR hon).2.2
   obtain ⟨a1,a2,a3⟩:=mE e (dA b (idE src e t))
   rw [if_pos hon,kY (nR hon).2.2 f3 (a1.trans f2) a2 a3 (mD f4),iw,if_pos hon,f3]
   exact S5 ho f1 (x:=(dA b (idE src e t)).cnt) (ox f4).2.1 nsm (by omega) (by rw [q43]) rfl (by rw [uT,if_neg k5,if_neg k11,if_neg k8,if_pos hc];rfl)
  ·have hon:=E8 (of_decide_eq_false h)
   rw [if_neg hon]
   simp only [aG]
   refine aa (aa (aa ?_))
   exact eY ho
 have k9:e.code ≠ 9:=by simpa using h
 refine ab _ (aA _ _) (aj (fun h=>?_) (fun h=>?_))
 ·have hc:e.code=10:=by simpa using h
  have hp:p=0∨p=1:=by
   have:I4 p e t=p:=by rw [I4,if_pos (z6 (.inl hc))]
   omega
  have ec:aL cs b p who (idE src e t) e most=(xh b p e.n e.m most).1:=by rw [aL,if_neg k1,if_neg k2,if_neg k3,if_neg k4,if_neg k6,if_neg k7,if_pos hc,Uh hv hp]
  rw [ec]
  simp only [ee]
  subst hl
  refine aa (aa (aa ?_))
  refine dP ho (fun Hf lf hf=>Qq hf hB hv hp e.n e.m most) ?_
  rintro _ H2 _ ⟨⟨w2,rfl,h2⟩,rfl⟩ l2
  refine ⟨ap w2 (xh b p e.n e.m most).1++[iV (xh b p e.n e.m most).2],rfl,az (ao (h2.r [])) ⟨rfl,trivial⟩,af fun r=>?_⟩
  refine aa (aa (aa (aa ?_)))
  exact ah ⟨⟨w2,rfl,h2⟩,rfl⟩
 have k10:e.code ≠ 10:=by simpa using h
 refine ab _ (aA _ _) (aj (fun h=>?_) (fun h=>?_))
 ·have hc:e.code=12:=by simpa using h
  have ec:aL cs b p who (idE src e t) e most=bH b 1 (fL (au b 1) e.colour e.n):=by rw [aL,if_neg k1,if_neg k2,if_neg k3,if_neg k4,if_neg k6,if_neg k7,if_neg k10,if_pos hc,hw]
  rw [ec]
  subst hl
  refine aa (aa ?_)
  obtain hc | hc | hc | hc:e.colour=0∨e.colour=1∨e.colour=2∨e.colour=3:=by omega
  ·refine ⟨.i64,e.colour,rfl,fun _=>?_,fun h=>absurd hc h⟩
   simp only [bo]
   refine aa (aa ?_)
   have hpl:=(dO hv 1).1
   have hpr:=(ky hv 1).1
   refine ab _ (Sr hpl nsm) ?_
   refine ab _ (iu _ _) ?_
   refine ⟨.i64,e.colour,rfl,fun _=>?_,fun h=>absurd hc h⟩
   refine aa (aa (aa (aa ?_)))
   have ex:fL (au b 1) e.colour e.n={ au b 1 with p0:=min 99 ((au b 1).p0 + e.n) }:=by
    rw [fL,if_pos hc,cu,show max 0 (min ((au b 1).p0 + e.n) 99)=min 99 ((au b 1).p0 + e.n) by omega]
   rw [ex]
   exact eY (x:=bH b 1 { au b 1 with p0:=min 99 ((au b 1).p0 + e.n) }) (cC ho rfl rfl rfl rfl)
  ·refine ⟨.i64,e.colour,rfl,fun h=>absurd (hc.symm.trans h) (by omega),fun _=>⟨.i64,e.colour,rfl,fun _=>?_,fun h=>absurd hc h⟩⟩
   simp only [bo]
   refine aa (aa ?_)
   have hpl:=(dO hv 1).2.1
   have hpr:=(ky hv 1).2.1
   refine ab _ (Sr hpl nsm) ?_
   refine ab _ (iu _ _) ?_
   refine ⟨.i64,e.colour,rfl,fun h=>absurd (hc.symm.trans h) (by omega),fun _=>⟨.i64,e.colour,rfl,fun _=>?_,fun h=>absurd hc h⟩⟩
   refine aa (aa (aa (aa ?_)))
   have ex:fL (au b 1) e.colour e.n={ au b 1 with p1:=min 99 ((au b 1).p1 + e.n) }:=by
    rw [fL,if_neg (by omega),if_pos hc,cu,show max 0 (min ((au b 1).p1 + e.n) 99)=min 99 ((au b 1).p1 + e.n) by omega]
   rw [ex]
   exact eY (x:=bH b 1 { au b 1 with p1:=min 99 ((au b 1).p1 + e.n) }) (cC ho rfl rfl rfl rfl)
  ·refine ⟨.i64,e.colour,rfl,fun h=>absurd (hc.symm.trans h) (by omega),fun _=>⟨.i64,e.colour,rfl,fun h=>absurd (hc.symm.trans h) (by omega),fun _=>⟨.i64,e.colour,rfl,fun _=>?_,fun h=>absurd hc h⟩⟩⟩
   simp only [bo]
   refine aa (aa ?_)
   have hpl:=(dO hv 1).2.2.1
   have hpr:=(ky hv 1).2.2.1
   refine ab _ (Sr hpl nsm) ?_
   refine ab _ (iu _ _) ?_
   refine ⟨.i64,e.colour,rfl,fun h=>absurd (hc.symm.trans h) (by omega),fun _=>⟨.i64,e.colour,rfl,fun h=>absurd (hc.symm.trans h) (by omega),fun _=>⟨.i64,e.colour,rfl,fun _=>?_,fun h=>absurd hc h⟩⟩⟩
   refine aa (aa (aa (aa ?_)))
   have ex:fL (au b 1) e.colour e.n={ au b 1 with p2:=min 99 ((au b 1).p2 + e.n) }:=by
    rw [fL,if_neg (by omega),if_neg (by omega),if_pos hc,cu,show max 0 (min ((au b 1).p2 + e.n) 99)=min 99 ((au b 1).p2 + e.n) by omega]
   rw [ex]
   exact eY (x:=bH b 1 { au b 1 with p2:=min 99 ((au b 1).p2 + e.n) }) (cC ho rfl rfl rfl rfl)
  ·refine ⟨.i64,e.colour,rfl,fun h=>absurd (hc.symm.trans h) (by omega),fun _=>⟨.i64,e.colour,rfl,fun h=>absurd (hc.symm.trans h) (by omega),fun _=>⟨.i64,e.colour,rfl,fun h=>absurd (hc.symm.trans h) (by omega),fun _=>⟨.i64,e.colour,rfl,fun _=>?_,fun h=>absurd hc h⟩⟩⟩⟩
   simp only [bo]
   refine aa (aa ?_)
   have hpl:=(dO hv 1).2.2.2
   have hpr:=(ky hv 1).2.2.2
   refine ab _ (Sr hpl nsm) ?_
   refine ab _ (iu _ _) ?_
   refine ⟨.i64,e.colour,rfl,fun h=>absurd (hc.symm.trans h) (by omega),fun _=>⟨.i64,e.colour,rfl,fun h=>absurd (hc.symm.trans h) (by omega),fun _=>⟨.i64,e.colour,rfl,fun h=>absurd (hc.symm.trans h) (by omega),fun _=>⟨.i64,e.colour,rfl,fun _=>?_,fun h=>absurd hc h⟩⟩⟩⟩
   refine aa (aa (aa (aa ?_)))
   have ex:fL (au b 1) e.colour e.n={ au b 1 with p3:=min 99 ((au b 1).p3 + e.n) }:=by
    rw [fL,if_neg (by omega),if_neg (by omega),if_neg (by omega),cu,show max 0 (min ((au b 1).p3 + e.n) 99)=min 99 ((au b 1).p3 + e.n) by omega]
   rw [ex]
   exact eY (x:=bH b 1 { au b 1 with p3:=min 99 ((au b 1).p3 + e.n) }) (cC ho rfl rfl rfl rfl)
 have k12:e.code ≠ 12:=by simpa using h
 exfalso
 omega
end
end Go.Proofs.YtdhobpmnkfmcfaaGreatDoor
namespace Go.Proofs.YtdhobpmnkfmcfaaGreatDoor
open Go Go.Sx
set_option maxRecDepth 100000
set_option maxHeartbeats 1000000
theorem Tc {H:Heap} {cv:Value} {cs:List CdX} (hk:CardsX H cv cs) (hli:eD (cs.map CdX.base)=true) {v:cP} {b:Bd} (h:BdS H v b) (hv:ay b=true) (hB:bdB b) (hfit:IW b) (hsum:∀ q,(au b q).lib.length + (au b q).hand.length≤1000000) {p src most:Int} (hp:p=0∨p=1) (hs:i64 src) {e:Eff} {t:Tg} (hev:Hy e=true) :
  Triple PP mL [cv,.agg (ap v b).toArray,iV p,iV src,.agg e.row.toArray,.agg t.row.toArray,iV most] H [] (Ue (vK cs b p src e t most)):=by
 refine sc (vs:=cv::(ap v b++(iV p::iV src::(e.row++(t.row++[iV most]))))) (by kernel_rfl) ⟨hk.one,az (ao (h.r [])) ⟨rfl,rfl,az (jX e) (az (qj t) ⟨rfl,trivial⟩)⟩⟩ ?_
 simp only [iD]
 refine af fun r0=>af fun r1=>af fun r2=>af fun r3=>?_
 have h200:=DG hv
 refine aa ?_
 refine ax (GQ h hB) ?_
 rintro _ H1 O1 ⟨w,rfl,ho⟩ l1
 refine ⟨ap w b,rfl,bq H1 ho,?_⟩
 rw [List.append_nil]
 have hk:=hk.le l1
 have core:∀ {r0 r1 r2 r3:Nat} {H':Heap},Heap.le H1 H'→¬ UO cs b p e t→(ef r0 (cv::(ap v b++(iV p::iV src::(e.row++(t.row++[iV most]))))) (ap w b) r1 r2 r3).den PP (Ue (vK cs b p src e t most)) H' O1:=by
  intro r0 r1 r2 r3 H' hle hb
  obtain ⟨f1,f2,f3⟩:=J6 hp hs hev hb
  rw [vK,if_neg hb]
  simp only [ef]
  refine aa ?_
  refine ai (Jx (hk.le hle) (ho.r (fun p hp=>hp) H') hv src) rfl ⟨rfl,trivial⟩ fun H2 l2=>?_
  refine aa ?_
  refine ab _ (bf _ _) (aj (fun h0=>?_) (fun h0=>?_))
  ·have h0:e.target ≠ 0:=by simpa using h0
   refine aa (aa (aa ?_))
   refine ai (Jx (hk.le (Heap.le_trans hle l2)) (ho.r (fun p hp=>hp) H2) hv t.id) rfl ⟨rfl,trivial⟩ fun H3 l3=>?_
   rcases f1 with f1 | f1
   ·exact Jv hv hB hev hb hsum ho rfl f1 rfl (by rw [I4,if_neg h0];rfl) (by rw [idE,if_neg h0])
   ·exact Ju hv hB hev hb hsum ho rfl f1 rfl (by rw [I4,if_neg h0];rfl) (by rw [idE,if_neg h0])
  ·have h0:e.target=0:=by simpa using h0
   rcases f1 with f1 | f1
   ·exact Jv hv hB hev hb hsum ho rfl f1 rfl (by rw [I4,if_pos h0];rfl) (by rw [idE,if_pos h0])
   ·exact Ju hv hB hev hb hsum ho rfl f1 rfl (by rw [I4,if_pos h0];rfl) (by rw [idE,if_pos h0])
 refine aa (aa ?_)
 refine ab _ (bf _ _) (aj (fun h0=>?_) (fun h0=>?_))
 ·have h0:e.target ≠ 0:=by simpa using h0
  refine aa (aa (aa ?_))
  refine ai (OwnB.thaw ho fun Hf lf hf=>Vj (hk.le lf).base hli hf hB hfit (by omega) p e.target t) rfl ⟨rfl,trivial⟩ fun H2 l2=>?_
  refine ab _ (aN _) (aj (fun hg=>?_) (fun hg=>?_))
  ·have hg:vJ (cs.map CdX.base) b p e.target t=false:=wR hg
   rw [vK,if_pos ⟨h0,hg⟩]
   refine aa (aa (aa ?_))
   exact eY ho
  have hg:vJ (cs.map CdX.base) b p e.target t=true:=rx hg
  exact core l2 (fun hb=>by rw [hb.2] at hg;cases hg)
 ·have h0:e.target=0:=by simpa using h0
  exact core (Heap.le_refl _) (fun hb=>hb.1 h0)
def Ge (cs:List CdX) (b:Bd) (p src:Int) (e:Eff) (t:Tg) (most:Int):Bd:=if (aw p 0 1 && (Hy e && ay b))=true then vK cs b p src e t most else b
def W5 (x:Bd) (r:Value) (H':Heap) (O':Own):Prop:=(∃ w,r=.tuple #[.agg (ap w x).toArray,.bool true]∧BdS H' w x)∧O'=[]
theorem UA {H:Heap} {cv:Value} {cs:List CdX} (hgl:GlobOk AT H) (hk:CardsX H cv cs) (hli:eD (cs.map CdX.base)=true) {v:cP} {b:Bd} (h:BdS H v b) (hB:bdB b) (hfit:IW b) (hsum:∀ q,(au b q).lib.length + (au b q).hand.length≤1000000) (p:Int) {src:Int} (most:Int) (hs:i64 src) (e:Eff) (t:Tg) :
  Triple PP pF [cv,.agg (ap v b).toArray,iV p,iV src,.agg e.row.toArray,.agg t.row.toArray,iV most] H [] (W5 (Ge cs b p src e t most)):=by
 refine vo (vs:=cv::(ap v b++(iV p::iV src::(e.row++(t.row++[iV most]))))) (by kernel_rfl) ⟨hk.one,az (ao (h.r [])) ⟨rfl,rfl,az (jX e) (az (qj t) ⟨rfl,trivial⟩)⟩⟩ ?_
 simp only [kj]
 refine af fun r0=>af fun r1=>af fun r2=>af fun r3=>?_
 refine aa ?_
 refine ax (Triple.frozen (GQ h hB)) ?_
 rintro _ H1 _ ⟨⟨u,rfl,hu⟩,rfl⟩ l1
 refine ⟨ap u b,rfl,ao (hu.r []),af fun r4=>?_⟩
 have h:=h.le l1
 have hk:=hk.le l1
 refine aa (aa (aa (aa ?_)))
 refine ax (IT (hgl.le l1) hk hli h hB p most hs e t) ?_
 rintro _ H2 O2 ⟨w2,rfl,ho⟩ l2
 refine ⟨ap w2 (bJ cs b p src e t most).1++[iV (bJ cs b p src e t most).2],rfl,az (bq H2 ho) ⟨rfl,trivial⟩,af fun r5=>?_⟩
 have h:=h.le l2
 have hk:=hk.le l2
 have hu:=hu.le l2
 refine aa (aa ?_)
 refine ai (Qp (h.r _) hfit) rfl ⟨rfl,trivial⟩ fun H3 l3=>?_
 have h:=h.le l3
 have hk:=hk.le l3
 have hu:=hu.le l3
 rw [Mc]
 refine ab _ (aN _) ?_
 refine ae ?_
 refine ab _ (aJ _ _) ?_
 refine ae ?_
 refine ab _ (aS _ _) ?_
 refine ae ?_
 refine ab _ (bG _ _) ?_
 refine ae ?_
 refine ab _ (aS _ _) (aj (fun hc=>?_) (fun hc=>?_))
 ·have hc:((!ay b || decide (p < 0)) || decide (p > 1))=true:=hc
  have hb:(aw p 0 1 && (Hy e && ay b))=false:=by
   rw [Bool.or_assoc,pU] at hc
   revert hc
   cases ay b <;> cases aw p 0 1 <;> simp
  have e1:bJ cs b p src e t most=(zBd,2):=by rw [bJ,if_neg (by rw [hb];simp)]
  have e2:Ge cs b p src e t most=b:=by rw [Ge,if_neg (by rw [hb];simp)]
  rw [e1] at ho ⊢
  rw [e2]
  refine aa (aa (aa (aa ?_)))
  refine vR (O1:=O2) (O2:=[]) (by simp) (LO ho (DY _) h hu 2 2) rfl ⟨rfl,trivial⟩ fun Hg Og lg=>?_
  rw [show (((zBd == zBd) && ((2:Int) == 2)) && (b == b))=true from by simp]
  refine aa (aa ?_)
  exact nN ⟨⟨v,rfl,h.le lg⟩,rfl⟩
 have hc:((!ay b || decide (p < 0)) || decide (p > 1))=false:=hc
 rw [Bool.or_assoc,pU,Bool.or_eq_false_iff] at hc
 have hv:=rx hc.1
 have hw:=rx hc.2
 have hp:p=0∨p=1:=by simp only [aw,decide_eq_true_eq] at hw;omega
 refine aa ?_
 refine ai (show RetO PP qS [.agg e.row.toArray] H3 (O2++([]++[])) (.bool (Hy e)) from by simpa using (HF e H3).frame O2) rfl ⟨rfl,trivial⟩ fun H4 l4=>?_
 refine ab _ (aN _) (aj (fun hc=>?_) (fun hc=>?_))
 ·have hb:(aw p 0 1 && (Hy e && ay b))=false:=by rw [wR hc];simp
  have h:=h.le l4
  have hu:=hu.le l4
  have e1:bJ cs b p src e t most=(zBd,2):=by rw [bJ,if_neg (by rw [hb];simp)]
  have e2:Ge cs b p src e t most=b:=by rw [Ge,if_neg (by rw [hb];simp)]
  rw [e1] at ho ⊢
  rw [e2]
  refine aa (aa (aa (aa ?_)))
  refine vR (O1:=O2) (O2:=[]) (by simp) (LO ho (DY _) h hu 2 2) rfl ⟨rfl,trivial⟩ fun Hg Og lg=>?_
  rw [show (((zBd == zBd) && ((2:Int) == 2)) && (b == b))=true from by simp]
  refine aa (aa ?_)
  exact nN ⟨⟨v,rfl,h.le lg⟩,rfl⟩
 have hev:=rx hc
 have h:=h.le l4
 have hk:=hk.le l4
 have hu:=hu.le l4
 have e1:bJ cs b p src e t most=(vK cs b p src e t most,0):=by rw [bJ,if_pos (by rw [hw,hev,hv];rfl)]
 have e2:Ge cs b p src e t most=vK cs b p src e t most:=by rw [Ge,if_pos (by rw [hw,hev,hv];rfl)]
 rw [e1] at ho ⊢
 rw [e2]
 refine aa (aa (aa ?_))
 refine ax (Tc hk hli h hv hB hfit hsum hp hs hev) ?_
 rintro _ H5 _ ⟨⟨w5,rfl,h5⟩,rfl⟩ l5
 refine ⟨ap w5 _,rfl,ao (h5.r []),af fun r6=>?_⟩
 refine aa (aa (aa (aa (aa (aa ?_)))))
 refine vR (O1:=O2) (O2:=[]) (by simp) (LO ho h5 (h.le l5) (hu.le l5) 0 0) rfl ⟨rfl,trivial⟩ fun Hg Og lg=>?_
 rw [show (((vK cs b p src e t most == vK cs b p src e t most) && ((0:Int) == 0)) && (b == b))=true from by simp]
 refine aa (aa ?_)
 exact nN ⟨⟨w5,rfl,h5.le lg⟩,rfl⟩
end Go.Proofs.YtdhobpmnkfmcfaaGreatDoor
namespace Go.Proofs.YtdhobpmnkfmcfaaGreatDoor
open Go Go.Sx
set_option maxRecDepth 100000
set_option maxHeartbeats 1000000
def csP:List CdX:=[⟨2,[],[]⟩]
def ex0:Bd:=Vy 20 [0,0] [0]
def ex1:Bd:=(fE ex0 1 2).1
def ex2:Bd:=(fE ex1 2 1).1
def exB:Bd:=(fE ex2 3 2).1
theorem QU (H:Heap):Triple PP pJ [] H [] fun r H' O'=>CardsX H' r csP∧O'=[]:=by
 refine vp (vs:=[]) (by kernel_rfl) trivial ?_
 simp only [kl]
 refine af fun r0=>?_
 refine Qj fun H' l hf=>⟨?_,rfl⟩
 refine ⟨_,Sl.block1 (hf _ List.mem_cons_self) rfl ⟨rfl,rfl,rfl,rfl,rfl,rfl,rfl,rfl,rfl,rfl,rfl,rfl,rfl,rfl,trivial⟩,rfl,fun i r c a b=>?_⟩
 cases i with
 | succ i=>simp [csP] at b
 | zero =>
  simp only [csP,List.getElem?_cons_zero,Option.some.injEq] at a b
  subst a;subst b
  exact ⟨rfl,Sl.nil _ _,[],Sl.nil _ _,rfl,fun i r l a=>by simp at a⟩
theorem rA (H:Heap):Triple PP lX [] H [] (Ue exB):=by
 refine rf (vs:=[]) (by kernel_rfl) trivial ?_
 simp only [gC]
 refine af fun r0=>af fun r1=>af fun r2=>?_
 refine VS (B:=[]) VO fun Hf lf hf _=>⟨_,Xv 20 (a:=[0,0]) (c:=[0]) (Sl.block (cs:=[iV 0,iV 0]) (hf _ List.mem_cons_self) ⟨rfl,rfl,trivial⟩ rfl (by omega)) (Sl.block (cs:=[iV 0]) (hf _ (List.mem_cons_of_mem _ List.mem_cons_self)) ⟨rfl,trivial⟩ rfl (by omega)) (by simp) (by simp),?_⟩
 rintro _ H2 _ ⟨rfl,w,rfl,hb⟩ l2
 have enew:Ur 20 [0,0] [0]=(ex0,0):=by kernel_rfl
 rw [enew] at hb ⊢
 have hb:BdS H2 w ex0:=hb
 refine ⟨ap w ex0++[iV 0],rfl,az (ao (hb.r [])) ⟨rfl,trivial⟩,?_⟩
 refine af fun r3=>?_
 refine aa (aa ?_)
 refine ax (AH (o:=⟨1,0,0,0,0,0,0,0,0,false,false,false⟩) (k:=0) hb (by kernel_rfl) (Ic (by kernel_rfl)) (by kernel_rfl) 2 (by omega)) ?_
 rintro _ H3 _ ⟨⟨w3,rfl,hb3⟩,rfl⟩ l3
 have hb3:BdS H3 w3 ex1:=hb3
 refine ⟨ap w3 ex1,rfl,ao (hb3.r []),?_⟩
 refine ax (AH (o:=⟨2,0,0,0,0,0,0,0,0,false,false,false⟩) (k:=1) hb3 (by kernel_rfl) (Ic (by kernel_rfl)) (by kernel_rfl) 1 (by omega)) ?_
 rintro _ H4 _ ⟨⟨w4,rfl,hb4⟩,rfl⟩ l4
 have hb4:BdS H4 w4 ex2:=hb4
 refine ⟨ap w4 ex2,rfl,ao (hb4.r []),?_⟩
 refine ax (AH (o:=⟨3,0,1,0,0,0,0,0,0,false,false,false⟩) (k:=2) hb4 (by kernel_rfl) (Ic (by kernel_rfl)) (by kernel_rfl) 2 (by omega)) ?_
 rintro _ H5 _ ⟨⟨w5,rfl,hb5⟩,rfl⟩ l5
 have hb5:BdS H5 w5 exB:=hb5
 refine ⟨ap w5 exB,rfl,ao (hb5.r []),?_⟩
 refine aa (aa ?_)
 exact ah ⟨⟨w5,rfl,hb5⟩,rfl⟩
theorem VP:bdB exB:=Ic (by kernel_rfl)
theorem sy {H:Heap} (hgl:GlobOk AT H) (p:Int) {src:Int} (e:Eff) (t:Tg) (most:Int) (hs:i64 src) {x:Bd} (hx:bJ csP exB p src e t most=(x,0)) (h3:decide ((x.objs.length:Int) ≥ 3)=true) :
  Triple PP nK [iV p,iV src,.agg e.row.toArray,.agg t.row.toArray,iV most] H [] (W5 x):=by
 refine uB (vs:=iV p::iV src::(e.row++(t.row++[iV most]))) (by kernel_rfl) ⟨rfl,rfl,az (jX e) (az (qj t) ⟨rfl,trivial⟩)⟩ ?_
 simp only [jC]
 refine af fun r0=>af fun r1=>af fun r2=>?_
 refine aa (aa ?_)
 refine ax (QU H) ?_
 rintro cv H1 _ ⟨hk,rfl⟩ l1
 refine ⟨[cv],rfl,⟨hk.one,trivial⟩,?_⟩
 refine ax (rA H1) ?_
 rintro _ H2 _ ⟨⟨w2,rfl,h2⟩,rfl⟩ l2
 refine ⟨ap w2 exB,rfl,ao (h2.r []),?_⟩
 refine ax (Triple.frozen2 (IT (hgl.le (Heap.le_trans l1 l2)) (hk.le l2) (by kernel_rfl) h2 VP p most hs e t)) ?_
 rw [hx]
 rintro _ H3 _ ⟨⟨w3,rfl,h3'⟩,rfl⟩ l3
 have h3':BdS H3 w3 x:=h3'
 refine ⟨ap w3 x++[iV 0],rfl,az (ao (h3'.r [])) ⟨rfl,trivial⟩,af fun r3=>?_⟩
 have olen:ak .len [w3.o]=some (iV x.objs.length):=by have:=h3'.objs.len;rwa [List.length_map] at this
 refine aa (aa ?_)
 refine ab _ (aA _ _) ?_
 refine aa (ae (ae ?_))
 refine ab _ olen ?_
 refine ae ?_
 refine ab _ (di _ _) ?_
 rw [h3]
 refine ae ?_
 refine ab _ (aX _ _) ?_
 refine aa (aa ?_)
 exact ah ⟨⟨w3,rfl,h3'⟩,rfl⟩
theorem SK {H:Heap} {cv:Value} {cs:List CdX} (hk:CardsX H cv cs) (hli:eD (cs.map CdX.base)=true) {v:cP} {b:Bd} (h:BdS H v b) (hv:ay b=true) (hB:bdB b) (hst:b.stack=[]) (most:Int) :
  Triple PP zU [cv,.agg (ap v b).toArray,iV most] H [] fun r _ O'=>r=.tuple #[.agg (ap BJ zBd).toArray,.agg #[iV 0,iV 0,iV 0,iV 0,.slice none 0 0],iV 9]∧O'=[]:=by
 refine Ed (vs:=cv::(ap v b++[iV most])) (by kernel_rfl) ⟨hk.one,az (ao (h.r [])) ⟨rfl,trivial⟩⟩ ?_
 simp only [to]
 refine af fun r0=>af fun r1=>af fun r2=>?_
 refine aa ?_
 refine ai (W1 hk hli h hv) rfl ⟨rfl,trivial⟩ fun H1 l1=>?_
 rw [JG hst]
 have h:=h.le l1
 refine ab _ (bf _ _) (aj (fun hd=>by cases hd) (fun _=>?_))
 refine aa ?_
 have e1:Oe b=(zBd,9):=by rw [Oe,if_neg (by rw [hv];simp),if_pos hst]
 refine ax (XF h hB) ?_
 rw [e1]
 rintro _ H2 O2 ⟨w,s,A,T,rfl,hp,ho,hs⟩ l2
 refine ⟨ap w zBd++([iV (Of b).player,iV (Of b).id,iV (Of b).card,iV (Of b).trig,s]++[iV 9]),rfl,az (bq H2 ho) ⟨rfl,rfl,rfl,rfl,hs.one,rfl,trivial⟩,af fun r3=>?_⟩
 refine aa (aa ?_)
 refine ab _ (bf _ _) (aj (fun _=>?_) (fun hd=>by cases hd))
 refine aa (aa (aa (aa ?_)))
 exact nN ⟨rfl,rfl⟩
def xA:Bd:=(bJ csP exB 0 1 ⟨1,1,3,0,0⟩ ⟨3,0⟩ 9).1
def xB:Bd:=(bJ csP exB 0 1 ⟨1,4,20,0,0⟩ ⟨0,1⟩ 9).1
def xC:Bd:=(bJ csP exB 1 3 ⟨3,0,5,0,0⟩ ⟨0,0⟩ 9).1
def xD:Bd:=(bJ csP exB 0 1 ⟨6,3,0,0,0⟩ ⟨1,0⟩ 9).1
def xE:Bd:=(bJ csP exB 0 1 ⟨9,0,2,0,0⟩ ⟨0,0⟩ 9).1
def xF:Bd:=(bJ csP exB 0 2 ⟨9,0,2,0,0⟩ ⟨0,0⟩ 9).1
def xG:Bd:=(bJ csP exB 1 3 ⟨2,0,1,0,0⟩ ⟨0,0⟩ 9).1
def xH:Bd:=(bJ csP exB 0 1 ⟨10,0,1,1,0⟩ ⟨0,0⟩ 3).1
def xI:Bd:=(bJ csP exB 0 1 ⟨10,0,1,1,0⟩ ⟨0,0⟩ 4).1
theorem Ye:bJ csP exB 0 1 ⟨1,1,3,0,0⟩ ⟨3,0⟩ 9=(xA,0):=Prod.ext rfl (by kernel_rfl)
theorem Yd:bJ csP exB 0 1 ⟨1,4,20,0,0⟩ ⟨0,1⟩ 9=(xB,0):=Prod.ext rfl (by kernel_rfl)
theorem Yc:bJ csP exB 1 3 ⟨3,0,5,0,0⟩ ⟨0,0⟩ 9=(xC,0):=Prod.ext rfl (by kernel_rfl)
theorem Yb:bJ csP exB 0 1 ⟨6,3,0,0,0⟩ ⟨1,0⟩ 9=(xD,0):=Prod.ext rfl (by kernel_rfl)
theorem Ya:bJ csP exB 0 1 ⟨9,0,2,0,0⟩ ⟨0,0⟩ 9=(xE,0):=Prod.ext rfl (by kernel_rfl)
theorem XZ:bJ csP exB 0 2 ⟨9,0,2,0,0⟩ ⟨0,0⟩ 9=(xF,0):=Prod.ext rfl (by kernel_rfl)
theorem XY:bJ csP exB 1 3 ⟨2,0,1,0,0⟩ ⟨0,0⟩ 9=(xG,0):=Prod.ext rfl (by kernel_rfl)
theorem XX:bJ csP exB 0 1 ⟨10,0,1,1,0⟩ ⟨0,0⟩ 3=(xH,0):=Prod.ext rfl (by kernel_rfl)
theorem XW:bJ csP exB 0 1 ⟨10,0,1,1,0⟩ ⟨0,0⟩ 4=(xI,0):=Prod.ext rfl (by kernel_rfl)
theorem Xm:bJ csP exB 2 1 ⟨2,0,1,0,0⟩ ⟨0,0⟩ 9=(zBd,2):=by kernel_rfl
end Go.Proofs.YtdhobpmnkfmcfaaGreatDoor
namespace Go.Proofs.YtdhobpmnkfmcfaaGreatDoor
open Go Go.Sx
set_option maxRecDepth 100000
set_option maxHeartbeats 1000000
theorem QE {H:Heap} {w:cP} {b:Bd} (h:BdS H w b) {k:Nat} {o:Ob} (hk:b.objs[k]?=some o):∃ a,ak (.idx 12) [w.o,iV k]=some (.pointer (some a))∧∀ off m,off + m≤12→Reads H [] (aU (.pointer (some a)) off) m ((o.row.drop off).take m):=by
 obtain ⟨a,k1,_,k3,_⟩:=(h.objs.rsl ([]:Own)).idx .i64 k (Ob.row o) (by rw [List.getElem?_map,hk];rfl)
 exact ⟨a,k1,k3⟩
theorem QV {H:Heap} (hgl:GlobOk AT H):Triple PP dR [] H [] fun r _ O'=>r=.bool true∧O'=[]:=by
 refine uz (vs:=[]) (by kernel_rfl) trivial ?_
 simp only [jA]
 refine af fun r0=>?_
 refine aa ?_
 refine ax (sy hgl 0 (src:=1) ⟨1,1,3,0,0⟩ ⟨3,0⟩ 9 (by constructor <;> omega) Ye (by kernel_rfl)) ?_
 rintro _ H1 _ ⟨⟨wA,rfl,hxA⟩,rfl⟩ l1
 have hxA:BdS H1 wA xA:=hxA
 have hgl:=hgl.le l1
 refine ⟨ap wA xA++[.bool true],rfl,az (ao (hxA.r [])) ⟨rfl,trivial⟩,?_⟩
 refine af fun r1=>?_
 refine aa ?_
 refine ab _ (aN _) ?_
 obtain ⟨a,i1,i2⟩:=QE hxA (k:=2) (o:=(xA.objs.getD 2 zO)) (by kernel_rfl)
 refine aa (ae (ae ?_))
 refine ⟨.pointer (some a),fun _=>i1,.inr rfl,?_⟩
 refine aC rfl (ae (ae ?_))
 refine ⟨[iV 3],rfl,⟨rfl,trivial⟩,fun _=>i2 5 1 (by omega),?_⟩
 refine ae ?_
 refine ab _ (bf _ _) ?_
 refine ae ?_
 refine ab _ (aS _ _) (aj (fun hd=>by cases hd) (fun _=>?_))
 refine ax (sy hgl 0 (src:=1) ⟨1,4,20,0,0⟩ ⟨0,1⟩ 9 (by constructor <;> omega) Yd (by kernel_rfl)) ?_
 rintro _ H2 _ ⟨⟨wB,rfl,hxB⟩,rfl⟩ l2
 have hxB:BdS H2 wB xB:=hxB
 have hgl:=hgl.le l2
 refine ⟨ap wB xB++[.bool true],rfl,az (ao (hxB.r [])) ⟨rfl,trivial⟩,?_⟩
 refine aa (aa ?_)
 refine ax (sy hgl 1 (src:=3) ⟨3,0,5,0,0⟩ ⟨0,0⟩ 9 (by constructor <;> omega) Yc (by kernel_rfl)) ?_
 rintro _ H3 _ ⟨⟨wC,rfl,hxC⟩,rfl⟩ l3
 have hxC:BdS H3 wC xC:=hxC
 have hgl:=hgl.le l3
 refine ⟨ap wC xC++[.bool true],rfl,az (ao (hxC.r [])) ⟨rfl,trivial⟩,?_⟩
 refine af fun r2=>?_
 refine aa ?_
 refine ab _ (aN _) ?_
 refine ae (ae (aa (ae (ae ?_))))
 refine ab _ (bf _ _) ?_
 refine ae ?_
 refine ab _ (aS _ _) ?_
 refine ae ?_
 refine ab _ (aN _) ?_
 refine ae ?_
 refine ab _ (aS _ _) ?_
 refine ae (ae (aa (ae (ae ?_))))
 refine ab _ (bf _ _) ?_
 refine ae ?_
 refine ab _ (aS _ _) (aj (fun hd=>absurd (show ((((!true || (xB.s1.life != 0)) || !true) || (xC.s1.life != 25)))=true from hd) (by rw [show ((((!true || (xB.s1.life != 0)) || !true) || (xC.s1.life != 25)))=false from by kernel_rfl];simp)) (fun _=>?_))
 refine ax (sy hgl 0 (src:=1) ⟨6,3,0,0,0⟩ ⟨1,0⟩ 9 (by constructor <;> omega) Yb (by kernel_rfl)) ?_
 rintro _ H4 _ ⟨⟨wD,rfl,hxD⟩,rfl⟩ l4
 have hxD:BdS H4 wD xD:=hxD
 have hgl:=hgl.le l4
 refine ⟨ap wD xD++[.bool true],rfl,az (ao (hxD.r [])) ⟨rfl,trivial⟩,?_⟩
 refine aa (aa ?_)
 refine ax (sy hgl 0 (src:=1) ⟨9,0,2,0,0⟩ ⟨0,0⟩ 9 (by constructor <;> omega) Ya (by kernel_rfl)) ?_
 rintro _ H5 _ ⟨⟨wE,rfl,hxE⟩,rfl⟩ l5
 have hxE:BdS H5 wE xE:=hxE
 have hgl:=hgl.le l5
 refine ⟨ap wE xE++[.bool true],rfl,az (ao (hxE.r [])) ⟨rfl,trivial⟩,?_⟩
 have hxD:=hxD.le l5
 refine aa ?_
 refine ab _ (aN _) (aj (fun hd=>by cases hd) (fun _=>?_))
 refine aa ?_
 refine ax (rA _) ?_
 rintro _ H6 _ ⟨⟨v1,rfl,hx6⟩,rfl⟩ l6
 have hgl:=hgl.le l6
 refine ⟨ap v1 exB,rfl,ao (hx6.r []),?_⟩
 have hxD:=hxD.le l6
 have hxE:=hxE.le l6
 refine ai (GP (hxD.r []) (hx6.r [])) rfl ⟨rfl,trivial⟩ fun H7 l7=>?_
 rw [show (xD == exB)=true from by kernel_rfl]
 have hxE:=hxE.le l7
 have hgl:=hgl.le l7
 refine ab _ (aN _) ?_
 refine ae ?_
 refine ab _ (aN _) ?_
 refine ae ?_
 refine ab _ (aS _ _) ?_
 obtain ⟨a2,j1,j2⟩:=QE hxE (k:=0) (o:=(xE.objs.getD 0 zO)) (by kernel_rfl)
 refine aa (ae (ae ?_))
 refine ⟨.pointer (some a2),fun _=>j1,.inr rfl,?_⟩
 refine aC rfl (ae (ae ?_))
 refine ⟨[iV 2],rfl,⟨rfl,trivial⟩,fun _=>j2 6 1 (by omega),?_⟩
 refine ae ?_
 refine ab _ (bf _ _) ?_
 refine ae ?_
 refine ab _ (aS _ _) (aj (fun hd=>by cases hd) (fun _=>?_))
 refine aa ?_
 refine ax (sy hgl 0 (src:=2) ⟨9,0,2,0,0⟩ ⟨0,0⟩ 9 (by constructor <;> omega) XZ (by kernel_rfl)) ?_
 rintro _ H8 _ ⟨⟨wF,rfl,hxF⟩,rfl⟩ l8
 have hxF:BdS H8 wF xF:=hxF
 have hgl:=hgl.le l8
 refine ⟨ap wF xF++[.bool true],rfl,az (ao (hxF.r [])) ⟨rfl,trivial⟩,?_⟩
 refine aa (aa ?_)
 refine ax (sy hgl 1 (src:=3) ⟨2,0,1,0,0⟩ ⟨0,0⟩ 9 (by constructor <;> omega) XY (by kernel_rfl)) ?_
 rintro _ H9 _ ⟨⟨wG,rfl,hxG⟩,rfl⟩ l9
 have hxG:BdS H9 wG xG:=hxG
 have hgl:=hgl.le l9
 refine ⟨ap wG xG++[.bool true],rfl,az (ao (hxG.r [])) ⟨rfl,trivial⟩,?_⟩
 have hxF:=hxF.le l9
 refine aa ?_
 refine ab _ (aN _) (aj (fun hd=>by cases hd) (fun _=>?_))
 refine aa ?_
 refine ax (rA _) ?_
 rintro _ H10 _ ⟨⟨v2,rfl,hx10⟩,rfl⟩ l10
 have hgl:=hgl.le l10
 refine ⟨ap v2 exB,rfl,ao (hx10.r []),?_⟩
 have hxF:=hxF.le l10
 have hxG:=hxG.le l10
 refine ai (GP (hxF.r []) (hx10.r [])) rfl ⟨rfl,trivial⟩ fun H11 l11=>?_
 rw [show (xF == exB)=true from by kernel_rfl]
 have hgl:=hgl.le l11
 refine ab _ (aN _) ?_
 refine ae ?_
 refine ab _ (aN _) ?_
 refine ae ?_
 refine ab _ (aS _ _) ?_
 refine ae (ae (aa (ae (ae ?_))))
 refine ab _ (aN xG.s1.empty) ?_
 refine ae ?_
 refine ab _ (aS _ _) ?_
 refine ae (ae (aa (ae (ae ?_))))
 refine ab _ (aS _ xG.s0.empty) (aj (fun hd=>absurd (show ((((!true || !true) || !xG.s1.empty) || xG.s0.empty))=true from hd) (by rw [show ((((!true || !true) || !xG.s1.empty) || xG.s0.empty))=false from by kernel_rfl];simp)) (fun _=>?_))
 refine af fun r3=>?_
 refine aa (aa (aa ?_))
 refine ax (sy hgl 0 (src:=1) ⟨10,0,1,1,0⟩ ⟨0,0⟩ 3 (by constructor <;> omega) XX (by kernel_rfl)) ?_
 rintro _ H12 _ ⟨⟨wH,rfl,hxH⟩,rfl⟩ l12
 have hxH:BdS H12 wH xH:=hxH
 have hgl:=hgl.le l12
 refine ⟨ap wH xH++[.bool true],rfl,az (ao (hxH.r [])) ⟨rfl,trivial⟩,?_⟩
 refine aa (aa (aa ?_))
 refine ax (sy hgl 0 (src:=1) ⟨10,0,1,1,0⟩ ⟨0,0⟩ 4 (by constructor <;> omega) XW (by kernel_rfl)) ?_
 rintro _ H13 _ ⟨⟨wI,rfl,hxI⟩,rfl⟩ l13
 have hxI:BdS H13 wI xI:=hxI
 have hgl:=hgl.le l13
 refine ⟨ap wI xI++[.bool true],rfl,az (ao (hxI.r [])) ⟨rfl,trivial⟩,?_⟩
 have hxH:=hxH.le l13
 refine aa ?_
 refine ab _ (aN _) (aj (fun hd=>by cases hd) (fun _=>?_))
 refine aa ?_
 refine ax (rA _) ?_
 rintro _ H14 _ ⟨⟨v3,rfl,hx14⟩,rfl⟩ l14
 have hgl:=hgl.le l14
 refine ⟨ap v3 exB,rfl,ao (hx14.r []),?_⟩
 have hxH:=hxH.le l14
 have hxI:=hxI.le l14
 refine ai (GP (hxH.r []) (hx14.r [])) rfl ⟨rfl,trivial⟩ fun H15 l15=>?_
 rw [show (xH == exB)=true from by kernel_rfl]
 have hxI:=hxI.le l15
 have hgl:=hgl.le l15
 have olen:ak .len [wI.o]=some (iV 4):=by have:=hxI.objs.len;rw [List.length_map] at this;exact this.trans (by kernel_rfl)
 refine ab _ (aN _) ?_
 refine ae ?_
 refine ab _ (aN _) ?_
 refine ae ?_
 refine ab _ (aS _ _) ?_
 refine aa (ae (ae ?_))
 refine ab _ olen ?_
 refine ae ?_
 refine ab _ (bf _ _) ?_
 refine ae ?_
 refine ab _ (aS _ _) ?_
 obtain ⟨a3,k1,k2⟩:=QE hxI (k:=3) (o:=(xI.objs.getD 3 zO)) (by kernel_rfl)
 refine aa (ae (ae ?_))
 refine ⟨.pointer (some a3),fun _=>k1,.inr rfl,?_⟩
 refine aC rfl (ae (ae ?_))
 refine ⟨[iV 4],rfl,⟨rfl,trivial⟩,fun _=>by have:=k2 0 1 (by omega);rw [Pz] at this;exact this,?_⟩
 refine ae ?_
 refine ab _ (bf _ _) ?_
 refine ae ?_
 refine ab _ (aS _ _) ?_
 refine aa (ae (ae ?_))
 refine ⟨.pointer (some a3),fun _=>k1,.inr rfl,?_⟩
 refine aC rfl (ae (ae ?_))
 refine ⟨[iV (-1)],rfl,⟨rfl,trivial⟩,fun _=>k2 1 1 (by omega),?_⟩
 refine ae ?_
 refine ab _ (bf _ _) ?_
 refine ae ?_
 refine ab _ (aS _ _) (aj (fun hd=>by cases hd) (fun _=>?_))
 refine ax (QU _) ?_
 rintro cv H16 _ ⟨hk,rfl⟩ l16
 refine ⟨[cv],rfl,⟨hk.one,trivial⟩,?_⟩
 have hgl:=hgl.le l16
 refine ax (rA _) ?_
 rintro _ H17 _ ⟨⟨v4,rfl,hx17⟩,rfl⟩ l17
 have hgl:=hgl.le l17
 refine ⟨ap v4 exB,rfl,ao (hx17.r []),?_⟩
 refine ax (SK (hk.le l17) (by kernel_rfl) hx17 (by kernel_rfl) VP (by kernel_rfl) 9) ?_
 rintro _ H18 _ ⟨rfl,rfl⟩ l18
 have hgl:=hgl.le l18
 refine ⟨ap BJ zBd++([iV 0,iV 0,iV 0,iV 0,.slice none 0 0]++[iV 9]),rfl,az (ao ((DY H18).r [])) ⟨rfl,rfl,rfl,rfl,rfl,rfl,trivial⟩,af fun r4=>af fun r5=>?_⟩
 refine aa (aa (aa ?_))
 refine ax (QU _) ?_
 rintro cv2 H19 _ ⟨hk2,rfl⟩ l19
 refine ⟨[cv2],rfl,⟨hk2.one,trivial⟩,?_⟩
 have hgl:=hgl.le l19
 refine ax (rA _) ?_
 rintro _ H20 _ ⟨⟨v5,rfl,hx20⟩,rfl⟩ l20
 have hgl:=hgl.le l20
 refine ⟨ap v5 exB,rfl,ao (hx20.r []),?_⟩
 refine ax (Triple.frozen2 (IT hgl (hk2.le l20) (by kernel_rfl) hx20 VP 2 (src:=1) 9 (by constructor <;> omega) ⟨2,0,1,0,0⟩ ⟨0,0⟩)) ?_
 rw [Xm]
 rintro _ H21 _ ⟨⟨w21,rfl,h21⟩,rfl⟩ l21
 have h21:BdS H21 w21 zBd:=h21
 refine ⟨ap w21 zBd++[iV 2],rfl,az (ao (h21.r [])) ⟨rfl,trivial⟩,af fun r6=>?_⟩
 refine aa ?_
 refine ab _ (aA _ _) ?_
 refine ae ?_
 refine ab _ (aA _ _) ?_
 refine ae ?_
 refine ab _ (aX _ _) ?_
 exact ah ⟨rfl,rfl⟩
theorem Wv {b:Bd} (h:szB 100 b):∀ q,(au b q).lib.length + (au b q).hand.length≤1000000:=fun q=>by
 obtain ⟨_,⟨a1,a2,_⟩,⟨b1,b2,_⟩,_⟩:=h
 rw [au]
 split <;> omega
theorem Gt {H:Heap} (hgl:GlobOk AT H) {cv:Value} {cs:List CdX} (hk:CardsX H cv cs) {v:cP} {b:Bd} (h:BdS H v b) (p:Int) {src:Int} (hs:i64 src) (e:Eff) (t:Tg) (most:Int) :
  Triple PP gm [cv,.agg (ap v b).toArray,iV p,iV src,.agg e.row.toArray,.agg t.row.toArray,iV most] H [] fun r _ O'=>r=.bool true∧O'=[]:=by
 refine mc (vs:=cv::(ap v b++(iV p::iV src::(e.row++(t.row++[iV most]))))) (by kernel_rfl) ⟨hk.one,az (ao (h.r [])) ⟨rfl,rfl,az (jX e) (az (qj t) ⟨rfl,trivial⟩)⟩⟩ ?_
 simp only [dM]
 have kn:∀ {H'},Heap.le H H'→dN (fun H1 O1 R=>Triple PP dR [] H1 O1 R) false [] [] .one (fun l _=>(Tree.ret (g l 0) []).den PP fun r _ O'=>r=.bool true∧O'=[]) H' []:=fun hl=>ax (QV (hgl.le hl)) (by
  rintro _ H2 _ ⟨rfl,rfl⟩ l2
  exact ⟨[.bool true],rfl,⟨rfl,trivial⟩,ah ⟨rfl,rfl⟩⟩)
 refine af fun r0=>af fun r1=>af fun r2=>?_
 refine ai (RH hk.base) rfl ⟨rfl,trivial⟩ fun H1 l1=>?_
 refine ab _ (aN _) (aj (fun _=>?_) (fun hli=>?_))
 ·exact kn l1
 have hli:eD (cs.map CdX.base)=true:=rx hli
 have h:=h.le l1
 refine aa ?_
 refine ai (RA (h.r [])) rfl ⟨rfl,trivial⟩ fun H2 l2=>?_
 have h:=h.le l2
 have l12:=Heap.le_trans l1 l2
 refine ab _ (aN _) ?_
 refine aa (ae (ae ?_))
 refine ab _ (bG _ _) ?_
 refine ae ?_
 refine ab _ (aS _ _) (aj (fun _=>?_) (fun hsm=>?_))
 ·exact kn l12
 have hsm:(!fw b || decide (e.n > 1000))=false:=hsm
 rw [Bool.or_eq_false_iff] at hsm
 have hsz:=ME (rx hsm.1)
 refine aa (aa (aa ?_))
 refine ax (UA (hgl.le l12) (hk.le l12) hli h (Xo hsz (by omega)) (PW hsz (by omega)) (Wv (szB.le hsz (by omega))) p most hs e t) ?_
 rintro _ H3 _ ⟨⟨w3,rfl,h3⟩,rfl⟩ l3
 refine ⟨ap w3 _++[.bool true],rfl,az (ao (h3.r [])) ⟨rfl,trivial⟩,af fun r3=>?_⟩
 refine aa ?_
 refine aj (fun _=>?_) (fun hd=>by cases hd)
 exact kn (Heap.le_trans l12 l3)
end Go.Proofs.YtdhobpmnkfmcfaaGreatDoor
namespace Go.Proofs.YtdhobpmnkfmcfaaGreatDoor
open Go Go.Sx
set_option maxRecDepth 100000
set_option maxHeartbeats 1000000
theorem UW (n:Nat):szB n zBd:=⟨Nat.zero_le _,⟨Nat.zero_le _,Nat.zero_le _,Nat.zero_le _,Nat.zero_le _⟩,⟨Nat.zero_le _,Nat.zero_le _,Nat.zero_le _,Nat.zero_le _⟩,⟨Nat.zero_le _,fun x hx=>by cases hx⟩,⟨Nat.zero_le _,fun x hx=>by cases hx⟩,Nat.zero_le _,Nat.zero_le _⟩
theorem Ak {n:Nat} {b:Bd} (h:szB n b) (p:Int):szS n (au b p):=by
 rw [au];split
 ·exact h.2.1
 ·exact h.2.2.1
theorem D4 {n:Nat} {b:Bd} (h:szB n b) (p:Int) {s:St} (hs:szS n s):szB n (bH b p s):=by
 rw [bH];split
 ·exact ⟨h.1,hs,h.2.2⟩
 ·exact ⟨h.1,h.2.1,hs,h.2.2.2⟩
theorem PV {n:Nat} {b:Bd} (h:szB n b) {l:List Ob} (hl:l.length≤n):szB n { b with objs:=l }:=⟨hl,h.2⟩
theorem Me {n:Nat} {b:Bd} (h:szB n b) (k:Nat) (o:Ob):szB n (dw b k o):=PV h (by rw [List.length_set];exact h.1)
theorem U0 {n:Nat} {b:Bd} (h:szB n b) (p x:Int):szB n (nV b p x):=D4 h p (Ak h p)
theorem PX {n:Nat} {b:Bd} (h:szB n b) (id:Int) (f:Ob→Ob):szB n (cX b id f):=by
 rw [cX]
 split
 ·rw [F7]
  split
  ·split
   ·exact UW n
   split
   ·exact UW n
   ·exact Me h _ _
  ·exact UW n
 ·exact h
theorem UZ {n:Nat} {s:St} (h:szS n s) (c k:Int):szS n (fL s c k):=by
 rw [fL]
 split
 ·exact h
 split
 ·exact h
 split
 ·exact h
 ·exact h
theorem Wt {n:Nat} {b:Bd} (h:szB n b) (p id:Int):szB (n + 1) (oU b p id):=by
 rw [oU]
 refine Me ?_ _ _
 rw [DK]
 have h':=szB.le h (show n≤n + 1 by omega)
 refine D4 h' p ?_
 obtain ⟨a1,a2,a3,a4⟩:=Ak h p
 exact ⟨by rw [Tt,List.length_dropLast];omega,by rw [Tt,List.length_append,List.length_singleton];omega,by show (au b p).field.length≤n + 1;omega,by show (au b p).grave.length≤n + 1;omega⟩
theorem Wu {p:Int}:∀ (k:Nat) {n:Nat} {b:Bd},szB n b→szB (n + k) (eG k b p)
 | 0,_,_,h=>h
 | k + 1,n,b,h=>by
  rw [eG]
  split
  ·exact szB.le (D4 h p (Ak h p)) (by omega)
  ·exact szB.le (Wu (p:=p) k (Wt h p _)) (by omega)
theorem U2 {n:Nat} {b:Bd} (h:szB n b) (p:Int) {k:Int} (hk:k≤99):szB (n + 99) (rG b p k).1:=by
 rw [rG]
 split
 ·exact UW _
 ·exact szB.le (Wu _ h) (by omega)
theorem NY {n:Nat} {b:Bd} (h:szB n b) (id:Int):szB (n + 1) (bK b id).1:=by
 rw [bK]
 split
 ·exact UW _
 split
 ·exact UW _
 ·exact MA h _ _
theorem Wq {n:Nat} {b:Bd} (h:szB n b) (p pw tn most:Int):szB (n + 1) (Aj b p pw tn most).1:=by
 have h':=szB.le h (show n≤n + 1 by omega)
 rw [Aj]
 split
 ·exact UW _
 split
 ·exact h'
 split
 ·exact h'
 ·show szB (n + 1) (UU b (bU b) p pw tn)
  rw [UU,rU]
  have ho:szB (n + 1) { b with objs:=b.objs.take (bU b)++[Py ((bU b:Int) + 1) p pw tn true]++b.objs.drop (bU b) }:=PV h' (by
   have h1:=h.1
   have:(b.objs.take (bU b)).length + (b.objs.drop (bU b)).length=b.objs.length:=by rw [← List.length_append,List.take_append_drop]
   simp only [List.length_append,List.length_singleton]
   omega)
  refine D4 ho p (PU ?_ _ _)
  have hs:=Ak h p
  rw [au] at hs ⊢
  exact hs
theorem U3 {n:Nat} {b:Bd} (h:szB n b) (cs:List CdX) (p who id:Int) {e:Eff} (hn:e.n≤99) (most:Int):szB (n + 100) (aL cs b p who id e most):=by
 have hc:=fun (i:Int) f=>szB.le (PX h i f) (show n≤n + 100 by omega)
 have hl:=fun (q x:Int)=>szB.le (U0 h q x) (show n≤n + 100 by omega)
 rw [aL]
 split
 ·split
  ·exact hc _ _
  ·exact hl _ _
 split
 ·exact szB.le (U2 h _ hn) (by omega)
 split
 ·exact hl _ _
 split
 ·exact hl _ _
 split
 ·exact szB.le (MA h _ _) (by omega)
 split
 ·exact szB.le (NY h _) (by omega)
 split
 ·exact szB.le (Wq h _ _ _ _) (by omega)
 split
 ·exact szB.le (D4 h _ (UZ (Ak h _) _ _)) (by omega)
 split
 ·exact hc _ _
 ·exact szB.le h (by omega)
theorem U1 {n:Nat} {b:Bd} (h:szB n b) (cs:List CdX) (p src:Int) {e:Eff} (hn:e.n≤99) (t:Tg) (most:Int):szB (n + 100) (vK cs b p src e t most):=by
 rw [vK]
 split
 ·exact szB.le h (by omega)
 ·exact U3 h cs _ _ _ hn _
theorem UX {n:Nat} {b:Bd} (h:szB n b) (cs:List CdX) (p src:Int) (e:Eff) (t:Tg) (most:Int):szB (n + 100) (Ge cs b p src e t most):=by
 rw [Ge]
 split
 ·rename_i hc
  rw [Bool.and_eq_true,Bool.and_eq_true] at hc
  exact U1 h cs _ _ (oc hc.2.1).2.1 _ _
 ·exact szB.le h (by omega)
theorem U4 {b:Bd} (h:szB 5000 b):∀ q,(au b q).lib.length + (au b q).hand.length≤1000000:=fun q=>by
 obtain ⟨a1,a2,_⟩:=Ak h q
 omega
end Go.Proofs.YtdhobpmnkfmcfaaGreatDoor
namespace Go.Proofs.YtdhobpmnkfmcfaaGreatDoor
open Go Go.Sx
set_option maxRecDepth 100000
set_option maxHeartbeats 1000000
structure Ar where
 (p src:Int)
 e:Eff
 t:Tg
 which:Int
def Pq (a:Ar):List Value:=[iV a.p,iV a.src,iV a.e.code,iV a.e.target,iV a.e.n,iV a.e.m,iV a.e.colour,iV a.t.id,iV a.t.player,iV a.which]
def ArsS (H:Heap) (v:Value) (l:List Ar):Prop:=Sl H 10 v (l.map Pq)∧∀ a ∈ l,i64 a.src
theorem ArsS.le {H H':Heap} {v:Value} {l:List Ar} (h:ArsS H v l) (hl:Heap.le H H'):ArsS H' v l:=⟨h.1.le hl,h.2⟩
theorem ArsS.len {H:Heap} {v:Value} {l:List Ar} (h:ArsS H v l):ak .len [v]=some (iV l.length):=by
 have:=h.1.len;rwa [List.length_map] at this
theorem Qh {H:Heap} (hgl:GlobOk AT H) {cv:Value} {cs:List CdX} (hk:CardsX H cv cs) (hli:eD (cs.map CdX.base)=true) {v w:cP} {b c:Bd} {av:Value} (hc:BdS H w c) {n:Nat} (hcz:szB n c) (hn:n + 100≤5000) (a:Ar) (hs:i64 a.src) (most:Int) {i m:Nat} (hi:i < 2 ^ 62) {lt:List Value} {n1 n2 r0 r1:Nat} {t:Tg} (ht:[g lt n1,g lt n2]=t.row)
  {I:List Value→Heap→Own→Prop} {μ:List Value→Heap→Own→Nat} (hI:∀ {H':Heap} {w':cP} {c':Bd},Heap.le H H'→BdS H' w' c'→szB (n + 100) c'→I (iV ((i + 1:Nat):Int)::ap w' c') H' []∧μ (iV ((i + 1:Nat):Int)::ap w' c') H' [] < m) :
  (bP r0 r1 (cv::(ap v b++[av,iV most])) (iV (i:Int)::ap w c) (Pq a) lt n1 n2 (NX I μ m)).den PP (fun r _ O'=>r=.bool true∧O'=[]) H []:=by
 simp only [bP,ht]
 refine aa (aa (aa (aa (aa ?_))))
 refine ax (UA hgl hk hli hc (Xo hcz (by omega)) (PW hcz (by omega)) (U4 (szB.le hcz (by omega))) a.p most hs a.e t) ?_
 rintro _ H5 _ ⟨⟨w5,rfl,h5⟩,rfl⟩ l5
 have hz:=UX hcz cs a.p a.src a.e t most
 generalize Ge cs c a.p a.src a.e t most=q at *
 refine ⟨ap w5 q++[.bool true],rfl,az (ao (h5.r [])) ⟨rfl,trivial⟩,af fun r2=>?_⟩
 refine aa ?_
 refine ab _ (aN _) (aj (fun hd=>by cases hd) (fun _=>?_))
 refine aa (aa ?_)
 obtain ⟨k1,k2⟩:=hI l5 h5 hz
 exact ab _ (aE (by omega)) (eL (by simp [Eqs,E]) k1 k2)
theorem Le {H:Heap} (hgl:GlobOk AT H) {cv:Value} {cs:List CdX} (hk:CardsX H cv cs) {v:cP} {b:Bd} (h:BdS H v b) {av:Value} {l:List Ar} (ha:ArsS H av l) (most:Int) :
  Triple PP je [cv,.agg (ap v b).toArray,av,iV most] H [] fun r _ O'=>r=.bool true∧O'=[]:=by
 refine nL (vs:=cv::(ap v b++[av,iV most])) (by kernel_rfl) ⟨hk.one,az (ao (h.r [])) ⟨ha.1.one,rfl,trivial⟩⟩ ?_
 simp only [eR]
 have alen:=ha.len
 have kn:∀ {H'},Heap.le H H'→dN (fun H1 O1 R=>Triple PP dR [] H1 O1 R) false [] [] .one (fun l _=>(Tree.ret (g l 0) []).den PP fun r _ O'=>r=.bool true∧O'=[]) H' []:=fun hl=>ax (QV (hgl.le hl)) (by
  rintro _ H2 _ ⟨rfl,rfl⟩ l2
  exact ⟨[.bool true],rfl,⟨rfl,trivial⟩,ah ⟨rfl,rfl⟩⟩)
 refine af fun r0=>?_
 refine ai (RH hk.base) rfl ⟨rfl,trivial⟩ fun H1 l1=>?_
 refine ab _ (aN _) (aj (fun _=>?_) (fun hli=>?_))
 ·exact kn l1
 have hli:eD (cs.map CdX.base)=true:=rx hli
 have h:=h.le l1
 refine aa ?_
 refine ai (RA (h.r [])) rfl ⟨rfl,trivial⟩ fun H2 l2=>?_
 have h:=h.le l2
 have l12:=Heap.le_trans l1 l2
 refine ab _ (aN _) ?_
 refine ae ?_
 refine ab _ alen ?_
 refine ae ?_
 refine ab _ (bG _ _) ?_
 refine ae ?_
 refine ab _ (aS _ _) (aj (fun _=>?_) (fun hsm=>?_))
 ·exact kn l12
 have hsm:(!fw b || decide ((l.length:Int) > 12))=false:=hsm
 rw [Bool.or_eq_false_iff,decide_eq_false_iff_not] at hsm
 have hsz:=ME (rx hsm.1)
 have hl12:l.length≤12:=by omega
 have hgl:=hgl.le l12
 have hk:=hk.le l12
 have ha:=ha.le l12
 have kn:∀ {H'},Heap.le H2 H'→dN (fun H1 O1 R=>Triple PP dR [] H1 O1 R) false [] [] .one (fun l _=>(Tree.ret (g l 0) []).den PP fun r _ O'=>r=.bool true∧O'=[]) H' []:=fun hl=>kn (Heap.le_trans l12 hl)
 refine iU (fun vs H' O'=>∃ (i:Nat) (w:cP) (c:Bd),vs=iV (i:Int)::ap w c∧i≤l.length∧Heap.le H2 H'∧BdS H' w c∧szB (40 + 100 * i) c∧O'=[]) (fun vs _ _=>match g vs 0 with | .int _ k=>l.length + 1 - k.toNat | _=>0) ⟨0,v,b,rfl,Nat.zero_le _,Heap.le_refl _,h,hsz,rfl⟩ ?_
 rintro _ H4 O4 _ _ _ ⟨i,w,c,rfl,hi,hle,hc,hcz,rfl⟩
 refine ab _ alen ?_
 refine ab _ (aJ _ _) (aj (fun hlt=>?_) (fun _=>?_))
 ·have hlt:i < l.length:=by simpa using hlt
  have hgl:=hgl.le hle
  have hk:=hk.le hle
  have ha':=ha.le hle
  obtain ⟨a,k1,k2,k3,_⟩:=(ha'.1.rsl ([]:Own)).idx .i64 i (Pq l[i]) (by rw [List.getElem?_map,List.getElem?_eq_getElem hlt];rfl)
  have hsrc:i64 l[i].src:=ha.2 _ (List.getElem_mem hlt)
  refine ab _ k1 (ar k2 rfl ⟨rfl,rfl,rfl,rfl,rfl,rfl,rfl,rfl,rfl,rfl,trivial⟩ ?_)
  refine af fun r1=>?_
  refine aa (aa ?_)
  refine ab _ (bG _ _) (aj (fun _=>?_) (fun _=>?_))
  ·exact kn hle
  refine aa (aa (aa ?_))
  refine ax (Qr hk.base hli hc (Xo hcz (by omega)) (PW hcz (by omega)) (by have:=hcz.2.2.2.1.1;omega) l[i].p l[i].e.target) ?_
  rintro tv H5 _ ⟨ht,rfl⟩ l5
  refine ⟨[tv],rfl,⟨ht.one,trivial⟩,?_⟩
  generalize zQ (cs.map CdX.base) c l[i].p l[i].e.target=ts at *
  have tlen:ak .len [tv]=some (iV ts.length):=by have:=ht.len;rwa [bF] at this
  have fin:∀ {lt:List Value} {n1 n2 r0 r1:Nat} {t:Tg},[g lt n1,g lt n2]=t.row→∀ {I:List Value→Heap→Own→Prop} {μ:List Value→Heap→Own→Nat} {m:Nat},(∀ {H':Heap} {w':cP} {c':Bd},Heap.le H5 H'→BdS H' w' c'→szB (40 + 100 * i + 100) c'→I (iV ((i + 1:Nat):Int)::ap w' c') H' []∧μ (iV ((i + 1:Nat):Int)::ap w' c') H' [] < m) →
    (bP r0 r1 (cv::(ap v b++[av,iV most])) (iV (i:Int)::ap w c) (Pq l[i]) lt n1 n2 (NX I μ m)).den PP (fun r _ O'=>r=.bool true∧O'=[]) H5 []:=fun ht _ _ _ hI =>
   Qh (hgl.le l5) (hk.le l5) hli (hc.le l5) hcz (by omega) l[i] hsrc most (by omega) ht hI
  refine aa ?_
  refine ab _ (di _ _) ?_
  refine ae ?_
  refine ab _ tlen ?_
  refine ae ?_
  refine ab _ (bG _ _) ?_
  refine ae ?_
  refine ab _ (aX _ _) (aj (fun hd=>?_) (fun _=>?_))
  ·have hd:(decide (l[i].which ≥ 0) && decide ((ts.length:Int) > 0))=true:=hd
   rw [Bool.and_eq_true,decide_eq_true_eq,decide_eq_true_eq] at hd
   have hlen:0 < ts.length:=by omega
   have hm:=Nat.mod_lt l[i].which.toNat hlen
   obtain ⟨a1,i1,i2,_,i4,i5⟩:=(ht.rsl ([]:Own)).idx .i64 (l[i].which.toNat % ts.length) (Tg.row ts[l[i].which.toNat % ts.length]) (by rw [cO,List.getElem?_map,List.getElem?_eq_getElem hm];rfl)
   refine aa ?_
   refine ab _ tlen ?_
   refine ab _ (Va hd.1 hlen) ?_
   refine ab _ i1 (ar i2 i4 i5 ?_)
   refine aa ?_
   refine fin (t:=ts[l[i].which.toNat % ts.length]) (by rfl) ?_
   intro H' w' c' lq hq zq
   refine ⟨⟨i + 1,w',c',rfl,hlt,Heap.le_trans hle (Heap.le_trans l5 lq),hq,by rw [Nat.mul_add,← Nat.add_assoc];exact zq,rfl⟩,?_⟩
   show l.length + 1 - ((i + 1:Nat):Int).toNat < l.length + 1 - (i:Int).toNat
   omega
  ·refine fin (t:=l[i].t) (by rfl) ?_
   intro H' w' c' lq hq zq
   refine ⟨⟨i + 1,w',c',rfl,hlt,Heap.le_trans hle (Heap.le_trans l5 lq),hq,by rw [Nat.mul_add,← Nat.add_assoc];exact zq,rfl⟩,?_⟩
   show l.length + 1 - ((i + 1:Nat):Int).toNat < l.length + 1 - (i:Int).toNat
   omega
 ·exact kn hle
end Go.Proofs.YtdhobpmnkfmcfaaGreatDoor
namespace Go.Proofs.YtdhobpmnkfmcfaaGreatDoor
open Go Go.Sx Go.ChangeShapes Go.WideShapes Go.ChangeAt Go.RowKit
set_option maxRecDepth 100000
set_option maxHeartbeats 1000000
theorem mr:jJ PP 8 50=some [3,3,35,36,3,3,37,3,3,3]:=by kernel_rfl
theorem S8 {H:Heap} {v:Value} (h:Leaf PP H 48 v):∃ l,ArsS H v l:=by
 obtain ⟨rows,hs,n,hw⟩:=h.slice Tryz.underlying48
 have hc:PP.cellsOf 50=10:=by kernel_rfl
 rw [hc] at hs
 have key:∀ r ∈ rows,∃ a:Ar,Pq a=r∧i64 a.src:=fun r hr=>by
  have hl:=GN hs hr
  have hw:=hw r hr
  obtain ⟨x0,e0⟩:=ba (dn mr hw 0 3 rfl)
  obtain ⟨x1,e1,b1,b2⟩:=(dn mr hw 1 3 rfl).int Tryz.underlying3
  obtain ⟨x2,e2,_⟩:=(dn mr hw 2 _ rfl).int Tryz.underlying35
  obtain ⟨x3,e3,_⟩:=(dn mr hw 3 _ rfl).int Tryz.underlying36
  obtain ⟨x4,e4⟩:=ba (dn mr hw 4 3 rfl)
  obtain ⟨x5,e5⟩:=ba (dn mr hw 5 3 rfl)
  obtain ⟨x6,e6,_⟩:=(dn mr hw 6 _ rfl).int Tryz.underlying37
  obtain ⟨x7,e7⟩:=ba (dn mr hw 7 3 rfl)
  obtain ⟨x8,e8⟩:=ba (dn mr hw 8 3 rfl)
  obtain ⟨x9,e9⟩:=ba (dn mr hw 9 3 rfl)
  match r,hl with
  | [_,_,_,_,_,_,_,_,_,_],_ =>
   refine ⟨⟨x0,x1,⟨x2,x3,x4,x5,x6⟩,⟨x7,x8⟩,x9⟩,?_,b1,b2⟩
   simp only [g,List.getD_cons_zero,List.getD_cons_succ] at e0 e1 e2 e3 e4 e5 e6 e7 e8 e9
   rw [e0,e1,e2,e3,e4,e5,e6,e7,e8,e9];rfl
 clear hw
 have all:∃ l:List Ar,l.map Pq=rows∧∀ a ∈ l,i64 a.src:=by
  clear hs
  induction rows with
  | nil=>exact ⟨[],rfl,fun _ h=>by cases h⟩
  | cons r rs ih =>
   obtain ⟨a,ea,ha⟩:=key r (List.mem_cons_self ..)
   obtain ⟨l,el,hl⟩:=ih fun r hr=>key r (List.mem_cons_of_mem _ hr)
   refine ⟨a::l,by rw [List.map_cons,ea,el],fun x hx=>?_⟩
   rcases List.mem_cons.1 hx with rfl | hx
   ·exact ha
   ·exact hl x hx
 obtain ⟨l,rfl,hl⟩:=all
 exact ⟨l,hs,hl⟩
end Go.Proofs.YtdhobpmnkfmcfaaGreatDoor
namespace Go.Proofs.YtdhobpmnkfmcfaaGreatDoor
open Go Go.Sx Go.ChangeShapes Go.WideShapes Go.ChangeAt Go.RowKit
set_option maxRecDepth 100000
set_option maxHeartbeats 1000000
theorem Db (os:Os) (started:os.Started) (H:Type) (enc:TypeId × Value→H) :
  ReturnsInHanded {} Tryz.checked os 3 .any (fun w args=>(Rows.resolveEffectsSpec.pre enc Tryz.prog Tryz.f3 [] false w args∧laidMetH Tryz.prog JY w)∧sizedMet enc Tryz.prog Tryz.f3 (OpenSpec.ofChange Rows.resolveEffectsSpec) false w args)
   (Rows.resolveEffectsSpec.post enc Tryz.prog Tryz.f3 false true false false):=by
 refine returnsInHanded_of_change_and (C:=Tryz.checked) (X:=fun w _=>laidMetH Tryz.prog JY w) (fun _ _ _ hh h=>h.of_heap hh) own started (by kernel_rfl) Tryz.func3
  (ChangeSpec.witness_shaped (enc:=enc) (C:=Tryz.checked) (os:=os) (X:=fun w _=>laidMetH Tryz.prog JY w) false (World.doorLaid Tryz.prog 400 os) #[xj,zB,iV 0,iV 0,.agg #[iV 0,iV 0,iV 0,iV 0,iV 0],.agg #[iV 0,iV 0],iV 0] 8 rfl
   (World.shaped_of_RefB (by kernel_rfl) (by kernel_rfl)) (by kernel_rfl) (by kernel_rfl) (by kernel_rfl) (NH os _)) ?_
 intro W base args ds gs before hval0 hW _ _ hL _
 have hval:∀ (j:Nat) t v,Tryz.f3.params[j]?=some t→args[j]?=some v→Value.okWide Tryz.prog W .any base t v:=hval0
 have hW':=hW
 obtain ⟨p,q,hA0,hV,rfl,hfz,hnd⟩:=hW
 have hA:DataW.TrodAll enc Tryz.prog W 0 (fun _=>true) true Tryz.f3.params.toList args.toList ds p:=hA0
 rw [Tryz.params3] at hA hval
 obtain ⟨v0,v1,v2,v3,v4,v5,v6,d0,d1,d2,d3,d4,d5,d6,p0,p1,p2,p3,p4,p5,p6,rfl,rfl,rfl,h0,h1,h2,h3,h4,h5,h6⟩:=HQ hA
 obtain ⟨rfl,rfl⟩:=trodVars_none hV
 obtain ⟨k0,hk0⟩:=EE (Ap Tryz.underlying22 sOk (by kernel_rfl) (hval 0 22 v0 rfl rfl) h0)
 obtain ⟨cs1,rfl,hlen1,_,hlf1⟩:=wX 6 NA sOk (by kernel_rfl) (by kernel_rfl) (by kernel_rfl) (hval 1 34 v1 rfl rfl) h1
 obtain ⟨w1,b1,rfl,hb1⟩:=GO hlen1 hlf1
 obtain ⟨n2,rfl,rfl,rfl,wf2⟩:=open_int Tryz.underlying3 (hval 2 3 v2 rfl rfl) h2
 obtain ⟨n3,rfl,rfl,rfl,wf3⟩:=open_int Tryz.underlying3 (hval 3 3 v3 rfl rfl) h3
 obtain ⟨cs4,rfl,hlen4,_,hlf4⟩:=wX 5 rz sOk (by kernel_rfl) (by kernel_rfl) (by kernel_rfl) (hval 4 39 v4 rfl rfl) h4
 obtain ⟨t4,rfl⟩:=Qn hlen4 hlf4
 obtain ⟨cs5,rfl,hlen5,_,hlf5⟩:=wX 5 Nz sOk (by kernel_rfl) (by kernel_rfl) (by kernel_rfl) (hval 5 41 v5 rfl rfl) h5
 obtain ⟨t5,rfl⟩:=S7 hlen5 hlf5
 obtain ⟨n6,rfl,rfl,rfl,wf6⟩:=open_int Tryz.underlying3 (hval 6 3 v6 rfl rfl) h6
 refine JX (tb:=4) (Gt (Rf hL) hk0 hb1 n2 (PI wf3) t4 t5 n6) hW' rfl rfl rfl Tryz.underlying4 QS ?_
 intro t ht
 have ht:t ∈ Tryz.f3.params.toList:=ht
 rw [Tryz.params3] at ht
 have hall:([22,34,3,3,39,41,3].all fun t=>Tryz.prog.readableRec t && Nat.blt t Tryz.prog.types.size)=true:=by kernel_rfl
 have:=List.all_eq_true.1 hall t (by simpa using ht)
 rw [Bool.and_eq_true] at this
 exact ⟨this.1,Nat.le_of_ble_eq_true this.2⟩
theorem Fe:Rows.ResolveEffectsSaid :=
 OpenClaim.holds_of_wide 3 Tryz.f3 rfl rfl rfl rfl rfl rfl rfl ⟨rfl,rfl,rfl,rfl,rfl⟩ rfl rfl rfl rfl rfl (by kernel_rfl) Tryz.func3 (by kernel_rfl)
  (of_decide_eq_true (by kernel_rfl)) (by unfold Func.isWrapper;rw [if_neg (of_decide_eq_false (by kernel_rfl))];exact ⟨rfl,rfl⟩)
  (fun os started H enc _=>Db os started H enc)
theorem effects20_card:Rows.ResolveEffectsCardSaid :=
 Claim7.holds_tied_plain_at .later [] [.data] true (true,"447a777f604c810c9fd257a5c4107233ceb265284c7eca2c4142b010c32e51c5") false
  Fe (fun _ h=>by cases h) (by kernel_rfl) (fun _ h=>by cases h) resolveEffects_row_tie rfl ⟨rfl,rfl⟩ (by kernel_rfl) rfl
  (fun f fn hf hfn=>by
   obtain rfl:f=3:=Option.some.inj ((show Tryz.prog.funcNamed "zeitnot/zeitnotlaw20.ResolveEffects"=some 3 by kernel_rfl).symm.trans hf) |>.symm
   obtain rfl:fn=Tryz.f3:=(Option.some.inj (Tryz.func3.symm.trans hfn)).symm
   exact ⟨by kernel_rfl,fun j t ht=>by
    rw [Tryz.params3] at ht
    have hm:t ∈ [22,34,3,3,39,41,3]:=by simpa using Array.mem_of_getElem? ht
    have hall:([22,34,3,3,39,41,3].all fun u=>!Tryz.prog.wantsStandIn u)=true:=by kernel_rfl
    exact (show Tryz.prog.wantsStandIn t=false by simpa using List.all_eq_true.1 hall t hm)⟩)
  (by kernel_rfl)
#print axioms effects20_card
end Go.Proofs.YtdhobpmnkfmcfaaGreatDoor
