/- slices.SortFunc at targets, by their ids: the library's contract, said of own blocks. -/
import Derived.Test.YtdhobpmnkfmcfaaGreatDoorC32
import Derived.Test.YtdhobpmnkfmcfaaGreatDoorM17
import Derived.Test.YtdhobpmnkfmcfaaGreatDoorSH
namespace Go.Proofs.YtdhobpmnkfmcfaaGreatDoor
open Go Go.Sx
set_option maxRecDepth 100000
set_option maxHeartbeats 1000000
section
open Go.Shelf Go.RowKit Go.Lib Go.Sort
theorem WW (x y:Int) (W:World):Calls Tryz.prog 158 #[.agg #[.int .i64 x,.int .i64 0],.agg #[.int .i64 y,.int .i64 0]] W fun e w'=>e=.returned (.int .i64 (Lib.compareInt x y))∧∃ q os',w'=grow (W.drewN q) os':=by
 have hcon:=fun W'=>AnyG.cmp_Compare_int Tryz.cmpInt x y W'
 change ∀ W',Calls Tryz.prog 159 _ _ _ at hcon
 generalize Lib.compareInt x y=r at hcon ⊢
 go_enter Tryz.func158,Tryz.ntmps158
 go_wp2_with (go_at_call 159;refine (hcon _).mono ?_;rintro e w' ⟨rfl,rfl⟩)
 go_ret
 exact ⟨rfl,0,_,by rw [alloc_eq_grow,alloc_eq_grow,grow_grow];rfl⟩
theorem Ux (x y:Int):ltOf (fun x y:Int=>Lib.compareInt x y) x y=decide (x < y):=by
 unfold ltOf Lib.compareInt
 by_cases h1:x < y
 ·simp [h1]
 ·by_cases h2:y < x <;> simp [h1,h2]
theorem Xp:SWO (ltOf fun x y:Int=>Lib.compareInt x y) where
 irrefl x:=by rw [Ux];simp
 trans x y z h1 h2:=by rw [Ux] at *;simp at *;omega
 ntrans x y z h1 h2:=by rw [Ux] at *;simp at *;omega
theorem Ls {l:List Int} (h:l.Nodup):(l.mergeSort fun x y=>!(ltOf fun x y:Int=>Lib.compareInt x y) y x)=qk l:=by
 have hp:=List.mergeSort_perm l (fun x y=>!(ltOf fun x y:Int=>Lib.compareInt x y) y x)
 have hs:=List.pairwise_mergeSort (le:=fun x y=>!(ltOf fun x y:Int=>Lib.compareInt x y) y x) (fun a b c h1 h2=>by rw [Ux] at *;simp at *;omega) (fun a b=>by rw [Ux,Ux];simp;omega) l
 have hn:(l.mergeSort fun x y=>!(ltOf fun x y:Int=>Lib.compareInt x y) y x).Nodup:=hp.symm.nodup_iff.1 h
 refine Am ?_ (BE h) fun x=>?_
 ·refine List.Pairwise.imp₂ (fun a b h1 h2=>?_) hs hn
  rw [Ux] at h1
  simp at h1
  omega
 ·rw [hp.mem_iff,(wP l).mem_iff]
theorem WY {H:Heap} {v:Value} {l:List Int} {O:Own} (h:OSl aD 2 v (l.map rF) O) (hn:l.Nodup) (hlen:l.length≤4000000) :
  Triple PP 157 [v,.func (.func 158) #[] #[]] H O fun r H' O'=>r=.tuple #[]∧OSl aD 2 v ((qk l).map rF) O':=by
 rcases h with ⟨⟨a,rfl⟩,hrows,rfl⟩ | ⟨r,cs,cap,rfl,rfl,hcl,hlc,hcap,hl,ho,ht⟩
 ·have hnil:l=[]:=by simpa using hrows
  subst hnil
  intro w F hm
  have hcon:=AnyF.slices_SortFunc_none Tryz.sortT a 0 (.func (.func 158) #[] #[]) w
  change Calls PP 157 _ _ _ at hcon
  refine hcon.mono ?_
  rintro _ _ ⟨rfl,rfl⟩
  exact ⟨_,H,[],rfl,⟨rfl,.inl ⟨⟨a,rfl⟩,rfl,rfl⟩⟩,Heap.le_refl H,hm⟩
 ·intro w F hm
  rw [List.length_map] at hlc ht
  have hfit:l.length * 2≤cs.length:=by rw [hcl];exact Nat.mul_le_mul_right 2 hlc
  have hm':Models w H ((r,.cells cs.toArray aD (0,0))::F):=by simpa using hm
  obtain ⟨hH,hblk⟩:=Go.Sx.sort_holds hm' ht.symm hfit
  have eg:∀ args w,(callFunc 158 args).run PP w=.ok (.enter 158 args) w:=enters_of Tryz.func158 (by kernel_rfl) rfl
  have hcon:=AnyQ.slices_SortFunc_total Tryz.sortT 2 Tryz.isAgg41 Tryz.sizeOf41 rF (fun _=>rfl) (fun x v hv=>by simp [rF] at hv;rcases hv with rfl | rfl <;> rfl) (fun x y=>Lib.compareInt x y) Xp 158 #[] r 0 cap l.toArray w eg
   (fun _ _ _ _ x y=>WW x y _) hH hblk (by simp;omega) (fun x y h1 h2=>by rw [Ux] at h1 h2;simp at h1 h2;omega)
  change Calls PP 157 _ _ _ at hcon
  rw [Ls hn] at hcon
  rw [List.length_map]
  refine hcon.mono ?_
  rintro _ _ ⟨rfl,n,os,rfl⟩
  have hsl:(qk l).length=l.length:=yW l
  have hmm:=Go.Sx.sort_models hm' (d:=qk l) (by rw [hsl];exact hfit) n os
  refine ⟨_,H,[(r,.cells (((qk l).map rF).flatten++cs.drop ((qk l).length * 2)).toArray aD (0,0))],rfl,⟨rfl,.inr ⟨r,((qk l).map rF).flatten++cs.drop ((qk l).length * 2),cap,?_,rfl,?_,?_,hcap,?_,?_,?_⟩⟩,Heap.le_refl H,by simpa using hmm⟩
  ·rw [List.length_map,hsl]
  ·rw [List.length_append,List.length_drop,wV,hsl,hcl];omega
  ·rw [List.length_map,hsl];exact hlc
  ·intro x hx
   obtain ⟨y,_,rfl⟩:=List.mem_map.1 hx
   rfl
  ·intro x hx
   obtain ⟨y,_,rfl⟩:=List.mem_map.1 hx
   exact ⟨rfl,rfl,trivial⟩
  ·rw [List.length_map,← wV,List.take_left]
end
end Go.Proofs.YtdhobpmnkfmcfaaGreatDoor
namespace Go.Proofs.YtdhobpmnkfmcfaaGreatDoor
open Go Go.Sx
set_option maxRecDepth 100000
set_option maxHeartbeats 1000000
def uS (cs:List Cd) (b:Bd) (p:Int):List Int:=kD (EZ cs) b p
def zD (cs:List Cd) (b:Bd) (p:Int):List Int:=qk (uS cs b p++uS cs b (1 - p))
def Ib (cs:List Cd) (b:Bd):List Int:=(b.stack.reverse.filter (oD cs)).map (fun x:It=>x.id)
def Iz (cs:List Cd) (b:Bd) (p k:Int):List Tg :=
 if k=1 then tgs (zD cs b p) else if k=3 then tgs (uS cs b (1 - p)) else if k=2 then tgs (uS cs b p) else if k=4 then plT p else if k=5 then plT p++tgs (zD cs b p) else if k=6 then tgs (Ib cs b) else []
theorem mh {ks:List Int} {b:Bd} (h:ay b=true) (p:Int):(kD ks b p).length≤1000000:=by
 have:=yP h
 rw [kD]
 split
 ·rw [List.length_map];exact Nat.le_trans (List.length_filter_le _ _) this
 ·simp
theorem BZ {ks:List Int} {b:Bd} (h:ay b=true) (p:Int):(kD ks b p).Nodup:=by
 rw [kD]
 split
 ·obtain ⟨p1,_,_⟩:=ir (aY h).1
  exact ((mA p1).sublist ((List.filter_sublist (l:=b.objs)).map _)).imp fun h=>by omega
 ·exact List.nodup_nil
theorem LI {ks:List Int} {b:Bd} (h:ay b=true) {p q:Int} (hpq:p ≠ q) {x:Int} (h1:x ∈ kD ks b p) (h2:x ∈ kD ks b q):False:=by
 rw [kD] at h1 h2
 split at h1
 ·split at h2
  ·obtain ⟨o1,m1,e1⟩:=List.mem_map.1 h1
   obtain ⟨o2,m2,e2⟩:=List.mem_map.1 h2
   obtain ⟨m1,c1⟩:=List.mem_filter.1 m1
   obtain ⟨m2,c2⟩:=List.mem_filter.1 m2
   obtain ⟨k1,g1⟩:=List.mem_iff_getElem?.1 m1
   obtain ⟨k2,g2⟩:=List.mem_iff_getElem?.1 m2
   obtain ⟨_,_,v1,_⟩:=eC (aY h).1 g1
   obtain ⟨_,_,v2,_⟩:=eC (aY h).1 g2
   rw [e1] at v1
   rw [e2,v1] at v2
   have:k1=k2:=by omega
   subst this
   rw [g1] at g2
   obtain rfl:=Option.some.inj g2
   simp only [AN,Bool.and_eq_true,beq_iff_eq] at c1 c2
   exact hpq (c1.1.symm.trans c2.1)
  ·simp at h2
 ·simp at h1
theorem Pm {cs:List Cd} {b:Bd} (h:ay b=true) (p:Int):(uS cs b p++uS cs b (1 - p)).Nodup:=by
 rw [List.nodup_append]
 refine ⟨BZ h p,BZ h _,fun x hx y hy e=>?_⟩
 subst e
 exact LI h (by omega) hx hy
theorem PQ {H:Heap} {cv:Value} {cs:List Cd} (hk:CardsS H cv cs) {v:cP} {b:Bd} (h:BdS H v b) (hv:ay b=true) (p:Int) :
  Triple PP eh [cv,.agg (ap v b).toArray,iV p,iV 2] H [] fun r _ O'=>OSl aD 2 r (cO (tgs (uS cs b p))) O':=by
 refine eB (vs:=cv::(ap v b++[iV p,iV 2])) (by kernel_rfl) ⟨hk.one,az (ao (h.r [])) ⟨rfl,rfl,trivial⟩⟩ ?_
 simp only [ed]
 refine af fun r0=>?_
 refine ab _ (aA 2 1) (aj (fun hb=>absurd hb (by decide)) (fun _=>?_))
 refine ab _ (aA 2 3) (aj (fun hb=>absurd hb (by decide)) (fun _=>?_))
 refine ab _ (aA 2 2) (aj (fun _=>?_) (fun hb=>absurd hb (by decide)))
 refine aa ?_
 refine ax (LS hk.kinds h p) ?_
 rintro x H1 _ ⟨hx,rfl⟩ l1
 refine ⟨[x],rfl,⟨hx.one,trivial⟩,?_⟩
 have hlen:(uS cs b p).length≤1000000:=mh hv p
 have hx:Sl H1 1 x (aI (uS cs b p)):=hx
 generalize uS cs b p=l at hx hlen
 have xlen:ak .len [x]=some (iV l.length):=by have:=hx.len;rwa [aI,List.length_map] at this
 refine ab _ xlen ?_
 refine dF l.length (fun i y H' O'=>Heap.le H1 H'∧OSl aD 2 y (cO (tgs (l.take i))) O') ⟨Heap.le_refl _,OSl.nil _ _⟩ ?_
 rintro i y H' O' hi - ⟨hle,hy⟩
 refine ab _ (aJ _ _) (aj (fun hb=>?_) (fun hb=>?_))
 ·have hlt:i < l.length:=by simpa using hb
  obtain ⟨a,h1,h2,h3,h4⟩:=(hx.le hle).idx (k:=.i64) (i:=i) (r:=[iV l[i]]) (by simp [aI,hlt])
  refine ab _ h1 (cT h2 h3 h4 (af fun r1=>?_))
  refine aH (rows:=cO (tgs (l.take i))) (news:=[rF l[i]]) (O1:=O') (O2:=[]) (e:=aD) (size:=2) (bytes:=16) (by kernel_rfl) (by simp) hy (fun Hf _ hf=>Sl.block1 (hf _ List.mem_cons_self) rfl ⟨rfl,rfl,trivial⟩) (by rw [bF,jg,List.length_take,List.length_singleton];omega) (by rw [bF,jg,List.length_take,List.length_singleton];omega) ?_
  intro v' A' H6 l6 hA'
  refine ab _ (aE (by omega)) (aV (by simp [Eqs]) hlt ⟨Heap.le_trans hle l6,?_⟩)
  have e:cO (tgs (l.take (i + 1)))=cO (tgs (l.take i))++[rF l[i]]:=by
   rw [ik,ik,List.take_add_one,List.getElem?_eq_getElem hlt,List.map_append];rfl
  rw [List.append_nil,e];exact hA'
 ·have hge:l.length≤i:=by simpa using hb
  rw [List.take_of_length_le hge] at hy
  exact ah hy
theorem Md {H:Heap} {cv:Value} {cs:List Cd} (hk:CardsS H cv cs) {v:cP} {b:Bd} (h:BdS H v b) (hv:ay b=true) {p:Int} (hp:p=0∨p=1) :
  Triple PP eh [cv,.agg (ap v b).toArray,iV p,iV 3] H [] fun r _ O'=>OSl aD 2 r (cO (tgs (uS cs b (1 - p)))) O':=by
 refine eB (vs:=cv::(ap v b++[iV p,iV 3])) (by kernel_rfl) ⟨hk.one,az (ao (h.r [])) ⟨rfl,rfl,trivial⟩⟩ ?_
 simp only [ed]
 refine af fun r0=>?_
 refine ab _ (aA 3 1) (aj (fun hb=>absurd hb (by decide)) (fun _=>?_))
 refine ab _ (aA 3 3) (aj (fun _=>?_) (fun hb=>absurd hb (by decide)))
 refine aa ?_
 refine ab (iV (1 - p)) (I5 (by omega) (by omega)) ?_
 refine ax (PQ hk h hv (1 - p)) fun x H1 O1 hx l1=>⟨[x],rfl,⟨hx.one,trivial⟩,?_⟩
 exact ah (by rw [List.append_nil];exact hx)
theorem Jg {H:Heap} {cv:Value} {cs:List Cd} (hk:CardsS H cv cs) {v:cP} {b:Bd} (h:BdS H v b) {p:Int} (hp:p=0∨p=1) :
  Triple PP eh [cv,.agg (ap v b).toArray,iV p,iV 4] H [] fun r _ O'=>OSl aD 2 r (cO (plT p)) O':=by
 refine eB (vs:=cv::(ap v b++[iV p,iV 4])) (by kernel_rfl) ⟨hk.one,az (ao (h.r [])) ⟨rfl,rfl,trivial⟩⟩ ?_
 simp only [ed]
 refine af fun r0=>?_
 refine ab _ (aA 4 1) (aj (fun hb=>absurd hb (by decide)) (fun _=>?_))
 refine ab _ (aA 4 3) (aj (fun hb=>absurd hb (by decide)) (fun _=>?_))
 refine ab _ (aA 4 2) (aj (fun hb=>absurd hb (by decide)) (fun _=>?_))
 refine ab _ (aA 4 4) (aj (fun _=>?_) (fun hb=>absurd hb (by decide)))
 refine ab (iV (1 - p)) (I5 (by omega) (by omega)) (af fun r2=>?_)
 exact fun _=>⟨H,_,Ghost.refl _ _,.inr ⟨r2,[iV 0,iV (1 - p),iV 0,iV p],2,rfl,rfl,rfl,by simp [cO,plT],by omega,by simp [cO,plT,Tg.row],by simp [cO,plT,Tg.row,Ones,Value.oneCell'],rfl⟩⟩
theorem D3 {H:Heap} {cv:Value} {cs:List Cd} (hk:CardsS H cv cs) {v:cP} {b:Bd} (h:BdS H v b) (hv:ay b=true) {p:Int} (hp:p=0∨p=1) :
  Triple PP eh [cv,.agg (ap v b).toArray,iV p,iV 1] H [] fun r _ O'=>OSl aD 2 r (cO (tgs (zD cs b p))) O':=by
 refine eB (vs:=cv::(ap v b++[iV p,iV 1])) (by kernel_rfl) ⟨hk.one,az (ao (h.r [])) ⟨rfl,rfl,trivial⟩⟩ ?_
 simp only [ed]
 have b1:(uS cs b p).length≤1000000:=mh hv p
 have b2:(uS cs b (1 - p)).length≤1000000:=mh hv (1 - p)
 refine af fun r0=>?_
 refine ab _ (aA 1 1) (aj (fun _=>?_) (fun hb=>absurd hb (by decide)))
 refine aa (aa ?_)
 refine ax (PQ hk h hv p) fun x H1 O1 hx l1=>⟨[x],rfl,⟨hx.one,trivial⟩,?_⟩
 refine ax (Triple.frozenS (Md (hk.le l1) (h.le l1) hv hp)) ?_
 rintro y H2 _ ⟨hy,rfl⟩ l2
 refine ⟨[y],rfl,⟨hy.one,trivial⟩,?_⟩
 refine aH (rows:=cO (tgs (uS cs b p))) (news:=cO (tgs (uS cs b (1 - p)))) (O1:=O1) (O2:=[]) (e:=aD) (size:=2) (bytes:=16) (by kernel_rfl) (by simp) hx (fun Hf lf _=>hy.le lf) (by rw [bF,jg,bF,jg];omega) (by rw [bF,jg,bF,jg];omega) ?_
 intro z A' H3 l3 hz
 have e:cO (tgs (uS cs b p))++cO (tgs (uS cs b (1 - p)))=(uS cs b p++uS cs b (1 - p)).map rF:=by rw [ik,ik,List.map_append]
 rw [e] at hz
 refine zu (O1:=A') (O2:=[]) (by simp) (WY hz (Pm hv p) (by rw [List.length_append];omega)) ?_
 rintro _ H4 O4 ⟨rfl,hs⟩ l4
 refine ⟨[],rfl,trivial,?_⟩
 exact ah (by rw [List.append_nil,ik];exact hs)
theorem PR {H:Heap} {cv:Value} {cs:List Cd} (hk:CardsS H cv cs) {v:cP} {b:Bd} (h:BdS H v b) (hv:ay b=true) {p:Int} (hp:p=0∨p=1) :
  Triple PP eh [cv,.agg (ap v b).toArray,iV p,iV 5] H [] fun r _ O'=>OSl aD 2 r (cO (plT p++tgs (zD cs b p))) O':=by
 refine eB (vs:=cv::(ap v b++[iV p,iV 5])) (by kernel_rfl) ⟨hk.one,az (ao (h.r [])) ⟨rfl,rfl,trivial⟩⟩ ?_
 simp only [ed]
 have b1:(zD cs b p).length≤2000000:=by
  have b1:(uS cs b p).length≤1000000:=mh hv p
  have b2:(uS cs b (1 - p)).length≤1000000:=mh hv (1 - p)
  rw [zD,yW,List.length_append];omega
 refine af fun r0=>?_
 refine ab _ (aA 5 1) (aj (fun hb=>absurd hb (by decide)) (fun _=>?_))
 refine ab _ (aA 5 3) (aj (fun hb=>absurd hb (by decide)) (fun _=>?_))
 refine ab _ (aA 5 2) (aj (fun hb=>absurd hb (by decide)) (fun _=>?_))
 refine ab _ (aA 5 4) (aj (fun hb=>absurd hb (by decide)) (fun _=>?_))
 refine ab _ (aA 5 5) (aj (fun _=>?_) (fun hb=>absurd hb (by decide)))
 refine aa (aa ?_)
 refine ax (Jg hk h hp) fun x H1 O1 hx l1=>⟨[x],rfl,⟨hx.one,trivial⟩,?_⟩
 refine ax (Triple.frozenS (D3 (hk.le l1) (h.le l1) hv hp)) ?_
 rintro y H2 _ ⟨hy,rfl⟩ l2
 refine ⟨[y],rfl,⟨hy.one,trivial⟩,?_⟩
 refine aH (rows:=cO (plT p)) (news:=cO (tgs (zD cs b p))) (O1:=O1) (O2:=[]) (e:=aD) (size:=2) (bytes:=16) (by kernel_rfl) (by simp) hx (fun Hf lf _=>hy.le lf) (by rw [bF,bF,jg];simp only [plT,List.length_cons,List.length_nil];omega) (by rw [bF,bF,jg];simp only [plT,List.length_cons,List.length_nil];omega) ?_
 intro z A' H3 l3 hz
 exact ah (by rw [List.append_nil,Ji];exact hz)
end Go.Proofs.YtdhobpmnkfmcfaaGreatDoor
namespace Go.Proofs.YtdhobpmnkfmcfaaGreatDoor
open Go Go.Sx
set_option maxRecDepth 100000
set_option maxHeartbeats 1000000
theorem DJ {H H':Heap} {O:Own} {p:Value} {m:Nat} {vs:List Value} (h:Reads H O p m vs) (hl:Heap.le H H'):Reads H' O p m vs:=h.imp (fun h=>hl.read h) id
theorem SL {H:Heap} {cv:Value} {cs:List Cd} (hk:CardsS H cv cs) (hli:eD cs=true) {v:cP} {b:Bd} (h:BdS H v b) (hst:b.stack.length≤1000000) (p:Int) :
  Triple PP eh [cv,.agg (ap v b).toArray,iV p,iV 6] H [] fun r _ O'=>OSl aD 2 r (cO (tgs (Ib cs b))) O':=by
 refine eB (vs:=cv::(ap v b++[iV p,iV 6])) (by kernel_rfl) ⟨hk.one,az (ao (h.r [])) ⟨rfl,rfl,trivial⟩⟩ ?_
 simp only [ed]
 refine af fun r0=>?_
 refine ab _ (aA 6 1) (aj (fun hb=>absurd hb (by decide)) (fun _=>?_))
 refine ab _ (aA 6 3) (aj (fun hb=>absurd hb (by decide)) (fun _=>?_))
 refine ab _ (aA 6 2) (aj (fun hb=>absurd hb (by decide)) (fun _=>?_))
 refine ab _ (aA 6 4) (aj (fun hb=>absurd hb (by decide)) (fun _=>?_))
 refine ab _ (aA 6 5) (aj (fun hb=>absurd hb (by decide)) (fun _=>?_))
 refine ab _ (aA 6 6) (aj (fun _=>?_) (fun hb=>absurd hb (by decide)))
 have slen:ak .len [v.s]=some (iV b.stack.length):=ItsR.len (h.stack.r [])
 have hsb:b.stack.length≤1000000:=hst
 obtain ⟨rows,hrs,hrl,hit⟩:=h.stack
 refine aa ?_
 refine ab _ slen ?_
 refine ab (iV ((b.stack.length:Int) - 1)) (I5 (by omega) (by omega)) ?_
 refine NG b.stack.length (fun i y H' O'=>Heap.le H H'∧OSl aD 2 y (cO (tgs (((b.stack.reverse.take i).filter (oD cs)).map (fun x:It=>x.id)))) O') ⟨Heap.le_refl _,OSl.nil _ _⟩ ?_
 rintro i y H' O' hi - ⟨hle,hy⟩
 refine ab _ (di _ _) (aj (fun hb=>?_) (fun hb=>?_))
 ·have hlt:i < b.stack.length:=by have:=of_decide_eq_true hb;omega
  obtain ⟨j,hjl,hj,hrv⟩:∃ (j:Nat) (hjl:j < b.stack.length),(j:Int)=(b.stack.length:Int) - 1 - i∧b.stack.reverse[i]'(by simpa using hlt)=b.stack[j]:=⟨b.stack.length - 1 - i,by omega,by omega,Qi hlt⟩
  have hft:=fO (p:=oD cs) (l:=b.stack.reverse) (i:=i) (by simpa using hlt)
  rw [hrv] at hft
  obtain ⟨a,k1,k2,k3,k4,k5⟩:=((hrs.le hle).rsl O').idx .i64 j (rows[j]'(by omega)) (by simp [hrl,hjl])
  obtain ⟨s,hrow,hs⟩:=hit j (rows[j]'(by omega)) b.stack[j] (by simp [hrl,hjl]) (by simp [hjl])
  have hR:ItR H' [] [iV b.stack[j].player,iV b.stack[j].id,iV b.stack[j].card,iV b.stack[j].trig,s] b.stack[j]:=⟨s,rfl,(hs.le hle).rsl []⟩
  rw [hrow] at k2 k3 k4 k5
  rw [hj] at k1
  have k6:=k3 1 1 (by omega)
  refine aa ?_
  refine ab _ k1 (ar k2 k4 k5 ?_)
  refine Kw (VU (hk.le hle) hli hR) rfl ⟨rfl,trivial⟩ fun H2 l2=>aj (fun hc=>?_) (fun hc=>?_)
  ·have hc:oD cs b.stack[j]=true:=hc
   have hlen:((b.stack.reverse.take i).filter (oD cs)).length≤1000000:=Nat.le_trans (List.length_filter_le _ _) (by rw [List.length_take,List.length_reverse];omega)
   refine aa ?_
   refine ab _ k1 ?_
   refine aC rfl ?_
   refine ar (DJ k6 l2) rfl ⟨rfl,trivial⟩ (af fun r3=>?_)
   refine aH (rows:=cO (tgs (((b.stack.reverse.take i).filter (oD cs)).map (fun x:It=>x.id)))) (news:=[rF b.stack[j].id]) (O1:=O') (O2:=[]) (e:=aD) (size:=2) (bytes:=16) (by kernel_rfl) (by simp) hy (fun Hf _ hf=>Sl.block1 (hf _ List.mem_cons_self) rfl ⟨rfl,rfl,trivial⟩) (by rw [bF,jg,List.length_map,List.length_singleton];omega) (by rw [bF,jg,List.length_map,List.length_singleton];omega) ?_
   intro v' A' H6 l6 hA'
   refine ab _ (I5 (by omega) (by omega)) (zo (by simp [Eqs]) hlt ⟨Heap.le_trans hle (Heap.le_trans l2 l6),?_⟩)
   have e:cO (tgs (((b.stack.reverse.take (i + 1)).filter (oD cs)).map (fun x:It=>x.id)))=cO (tgs (((b.stack.reverse.take i).filter (oD cs)).map (fun x:It=>x.id)))++[rF b.stack[j].id]:=by
    rw [ik,ik,hft,if_pos hc,List.map_append,List.map_append];rfl
   rw [List.append_nil,e];exact hA'
  ·have hc:oD cs b.stack[j]=false:=hc
   refine ab _ (I5 (by omega) (by omega)) (zo (by simp [Eqs]) hlt ⟨Heap.le_trans hle l2,?_⟩)
   rw [hft,if_neg (by rw [hc];simp),List.append_nil];exact hy
 ·have hge:b.stack.length≤i:=by have:=of_decide_eq_false hb;omega
  rw [List.take_of_length_le (by rw [List.length_reverse];exact hge)] at hy
  exact ah hy
theorem UV {H:Heap} {cv:Value} {cs:List Cd} (hk:CardsS H cv cs) {v:cP} {b:Bd} (h:BdS H v b) (p:Int) {k:Int} (h1:k ≠ 1) (h2:k ≠ 2) (h3:k ≠ 3) (h4:k ≠ 4) (h5:k ≠ 5) (h6:k ≠ 6) :
  Triple PP eh [cv,.agg (ap v b).toArray,iV p,iV k] H [] fun r _ O'=>OSl aD 2 r [] O':=by
 refine eB (vs:=cv::(ap v b++[iV p,iV k])) (by kernel_rfl) ⟨hk.one,az (ao (h.r [])) ⟨rfl,rfl,trivial⟩⟩ ?_
 simp only [ed]
 refine af fun r0=>?_
 refine ab _ (aA k 1) (aj (fun hb=>absurd (by simpa using hb) h1) (fun _=>?_))
 refine ab _ (aA k 3) (aj (fun hb=>absurd (by simpa using hb) h3) (fun _=>?_))
 refine ab _ (aA k 2) (aj (fun hb=>absurd (by simpa using hb) h2) (fun _=>?_))
 refine ab _ (aA k 4) (aj (fun hb=>absurd (by simpa using hb) h4) (fun _=>?_))
 refine ab _ (aA k 5) (aj (fun hb=>absurd (by simpa using hb) h5) (fun _=>?_))
 refine ab _ (aA k 6) (aj (fun hb=>absurd (by simpa using hb) h6) (fun _=>?_))
 exact ah (OSl.nil _ _)
theorem VT {H:Heap} {cv:Value} {cs:List Cd} (hk:CardsS H cv cs) (hli:eD cs=true) {v:cP} {b:Bd} (h:BdS H v b) (hst:b.stack.length≤1000000) (hv:ay b=true) {p:Int} (hp:p=0∨p=1) (k:Int) :
  Triple PP eh [cv,.agg (ap v b).toArray,iV p,iV k] H [] fun r _ O'=>OSl aD 2 r (cO (Iz cs b p k)) O':=by
 rw [Iz]
 by_cases h1:k=1
 ·rw [if_pos h1];subst h1;exact D3 hk h hv hp
 rw [if_neg h1]
 by_cases h3:k=3
 ·rw [if_pos h3];subst h3;exact Md hk h hv hp
 rw [if_neg h3]
 by_cases h2:k=2
 ·rw [if_pos h2];subst h2;exact PQ hk h hv p
 rw [if_neg h2]
 by_cases h4:k=4
 ·rw [if_pos h4];subst h4;exact Jg hk h hp
 rw [if_neg h4]
 by_cases h5:k=5
 ·rw [if_pos h5];subst h5;exact PR hk h hv hp
 rw [if_neg h5]
 by_cases h6:k=6
 ·rw [if_pos h6];subst h6;exact SL hk hli h hst p
 rw [if_neg h6]
 exact UV hk h p h1 h2 h3 h4 h5 h6
def zQ (cs:List Cd) (b:Bd) (p k:Int):List Tg:=if (aw p 0 1 && ay b)=true then Iz cs b p k else []
theorem FY {cs:List Cd} {b:Bd} {p k:Int} (h:(aw p 0 1 && ay b)=false):zQ cs b p k=[]:=by rw [zQ,h];rfl
theorem pU (p:Int):(decide (p < 0) || decide (p > 1))=!aw p 0 1:=by
 rw [aw,Bool.eq_iff_iff];simp
theorem V2 {H:Heap} {cv:Value} {cs:List Cd} (hk:CardsS H cv cs) (hli:eD cs=true) {v:cP} {b:Bd} (h:BdS H v b) (hst:b.stack.length≤1000000) (p k:Int) :
  Triple PP zT [cv,.agg (ap v b).toArray,iV p,iV k] H [] fun r H' O'=>Sl H' 2 r (cO (zQ cs b p k))∧O'=[]:=by
 refine Triple.frozenS (e:=aD) ?_
 refine Eb (vs:=cv::(ap v b++[iV p,iV k])) (by kernel_rfl) ⟨hk.one,az (ao (h.r [])) ⟨rfl,rfl,trivial⟩⟩ ?_
 simp only [tf]
 refine af fun r0=>?_
 refine ab _ (aJ _ _) (ae (ab _ (aJ _ _) (ae (ab _ (aS _ _) ?_))))
 refine aj (fun hb=>?_) (fun hb=>?_)
 ·have hb:(decide (p < 0) || decide (p > 1))=true:=hb
  rw [pU] at hb
  rw [FY (by rw [show aw p 0 1=false from wR hb,Bool.false_and])]
  exact ah (OSl.nil _ _)
 ·have hb:(decide (p < 0) || decide (p > 1))=false:=hb
  rw [pU] at hb
  have hw:aw p 0 1=true:=rx hb
  have hp:p=0∨p=1:=by simp only [aw,decide_eq_true_eq] at hw;omega
  refine aa ?_
  refine ai (dY (h.r [])) rfl ⟨rfl,trivial⟩ fun H2 l2=>ab _ (aN _) (aj (fun hc=>?_) (fun hc=>?_))
  ·rw [FY (by rw [show ay b=false from wR hc,Bool.and_false])]
   exact ah (OSl.nil _ _)
  ·have hv:ay b=true:=rx hc
   have e:zQ cs b p k=Iz cs b p k:=by rw [zQ,if_pos (by rw [hw,hv];rfl)]
   rw [e]
   refine aa ?_
   refine ax (VT (hk.le l2) hli (h.le l2) hst hv hp k) fun x H3 O3 hx l3=>⟨[x],rfl,⟨hx.one,trivial⟩,?_⟩
   exact ah (by rw [List.append_nil];exact hx)
theorem EF {H:Heap} {x:Value} {l:List Int} (hx:Sl H 1 x (aI l)) (hlen:l.length≤4000000):Triple PP lW [x] H [] fun r _ O'=>OSl aD 2 r (cO (tgs l)) O':=by
 refine qZ (vs:=[x]) (by kernel_rfl) ⟨hx.one,trivial⟩ ?_
 simp only [gA]
 have xlen:ak .len [x]=some (iV l.length):=by have:=hx.len;rwa [aI,List.length_map] at this
 refine dF l.length (fun i y H' O'=>Heap.le H H'∧OSl aD 2 y (cO (tgs (l.take i))) O') ⟨Heap.le_refl _,OSl.nil _ _⟩ ?_
 rintro i y H' O' hi - ⟨hle,hy⟩
 refine ab _ xlen ?_
 refine ab _ (aJ _ _) (aj (fun hb=>?_) (fun hb=>?_))
 ·have hlt:i < l.length:=by simpa using hb
  obtain ⟨a,h1,h2,h3,h4⟩:=(hx.le hle).idx (k:=.i64) (i:=i) (r:=[iV l[i]]) (by simp [aI,hlt])
  refine ab _ h1 (cT h2 h3 h4 (af fun r1=>?_))
  refine aH (rows:=cO (tgs (l.take i))) (news:=[rF l[i]]) (O1:=O') (O2:=[]) (e:=aD) (size:=2) (bytes:=16) (by kernel_rfl) (by simp) hy (fun Hf _ hf=>Sl.block1 (hf _ List.mem_cons_self) rfl ⟨rfl,rfl,trivial⟩) (by rw [bF,jg,List.length_take,List.length_singleton];omega) (by rw [bF,jg,List.length_take,List.length_singleton];omega) ?_
  intro v' A' H6 l6 hA'
  refine ab _ (aE (by omega)) (aV (by simp [Eqs]) hlt ⟨Heap.le_trans hle l6,?_⟩)
  have e:cO (tgs (l.take (i + 1)))=cO (tgs (l.take i))++[rF l[i]]:=by
   rw [ik,ik,List.take_add_one,List.getElem?_eq_getElem hlt,List.map_append];rfl
  rw [List.append_nil,e];exact hA'
 ·have hge:l.length≤i:=by simpa using hb
  rw [List.take_of_length_le hge] at hy
  exact ah hy
theorem P0 {cs:List Cd} {b:Bd} (hv:ay b=true):(b.stack.reverse.filter (oC cs)).map (fun x:It=>x.id)=Ib cs b:=by
 rw [Ib]
 congr 1
 refine List.filter_congr fun x hx=>SQ ?_
 have:=(aY hv).2.2.2
 rw [List.all_eq_true] at this
 exact this x (by simpa using hx)
theorem Sl.block2 {H:Heap} {r:Nat} {a b c d:Value} {T:TypeId} (h:H r=some (.cells [a,b,c,d].toArray T (0,0))) (ho:Ones [a,b,c,d]):Sl H 2 (.slice (some ⟨r,0,none⟩) 2 2) [[a,b],[c,d]]:=by
 refine ⟨_,_,rfl,Nat.le_refl _,by simp,fun _=>⟨_,rfl,?_⟩⟩
 have e1:Ones [a,b]:=ho.take 2
 have e2:Ones [c,d]:=ho.drop 2
 intro i x hx
 match i with
 | 0 =>
  obtain rfl:[a,b]=x:=by simpa using hx
  refine ⟨?_,rfl,e1⟩
  rw [cZ,rm h (by simp)];rfl
 | 1 =>
  obtain rfl:[c,d]=x:=by simpa using hx
  refine ⟨?_,rfl,e2⟩
  rw [cZ,rm h (by simp)];rfl
 | i + 2=>simp at hx
theorem Qr {H:Heap} {cv:Value} {cs:List Cd} (hk:CardsS H cv cs) (hli:eD cs=true) {v:cP} {b:Bd} (h:BdS H v b) (hB:bdB b) (hfit:IW b) (hst:b.stack.length≤1000000) (p k:Int) :
  Triple PP kp [cv,.agg (ap v b).toArray,iV p,iV k] H [] fun r H' O'=>Sl H' 2 r (cO (zQ cs b p k))∧O'=[]:=by
 have hfz:Triple PP kp [cv,.agg (ap v b).toArray,iV p,iV k] H [] fun r H' O'=>(OSl aD 2 r (cO (zQ cs b p k)) O')∨(Sl H' 2 r (cO (zQ cs b p k))∧O'=[]):=by
  refine u7 (vs:=cv::(ap v b++[iV p,iV k])) (by kernel_rfl) ⟨hk.one,az (ao (h.r [])) ⟨rfl,rfl,trivial⟩⟩ ?_
  simp only [jY]
  refine af fun r0=>?_
  refine aa ?_
  refine ai (Qp (h.r []) hfit) rfl ⟨rfl,trivial⟩ fun H1 l1=>?_
  replace h:=h.le l1
  replace hk:=hk.le l1
  rw [Mc]
  refine ab _ (aN _) (ae (ab _ (aJ _ _) (ae (ab _ (aS _ _) (ae (ab _ (aJ _ _) (ae (ab _ (aS _ _) ?_))))))))
  refine aj (fun hc=>?_) (fun hc=>?_)
  ·have hc:((!ay b || decide (p < 0)) || decide (p > 1))=true:=hc
   rw [Bool.or_assoc,pU] at hc
   rw [FY (by cases hw:aw p 0 1 <;> cases hv:ay b <;> simp [hw,hv] at hc ⊢)]
   exact ah (.inl (OSl.nil _ _))
  have hc:((!ay b || decide (p < 0)) || decide (p > 1))=false:=hc
  rw [Bool.or_assoc,pU,Bool.or_eq_false_iff] at hc
  have hv:ay b=true:=rx hc.1
  have hw:aw p 0 1=true:=rx hc.2
  have hp:p=0∨p=1:=by simp only [aw,decide_eq_true_eq] at hw;omega
  have hp':1 - p=0∨1 - p=1:=by omega
  have e:zQ cs b p k=Iz cs b p k:=by rw [zQ,if_pos (by rw [hw,hv];rfl)]
  rw [e]
  clear e
  have n1:(uS cs b p).length≤1000000:=mh hv p
  have n2:(uS cs b (1 - p)).length≤1000000:=mh hv (1 - p)
  have n3:(zD cs b p).length≤2000000:=by rw [zD,yW,List.length_append];omega
  refine aa (aa ?_)
  refine ab (iV (1 - p)) (I5 (by omega) (by omega)) ?_
  refine ax (EG hk.kinds h hB p hp fun q hq id hid=>?_) ?_
  ·subst hq
   obtain ⟨k,o,_,_,_,e4⟩:=yp hv hp hid
   omega
  rintro x H2 _ ⟨hx,rfl⟩ l2
  rw [NJ _ hv hp] at hx
  have hx:Sl H2 1 x (aI (uS cs b p)):=hx
  refine ⟨[x],rfl,⟨hx.one,trivial⟩,?_⟩
  refine ax (EG (hk.le l2).kinds (h.le l2) hB (1 - p) hp' fun q hq id hid=>?_) ?_
  ·subst hq
   obtain ⟨k,o,_,_,_,e4⟩:=yp hv hp' hid
   omega
  rintro y H3 _ ⟨hy,rfl⟩ l3
  rw [NJ _ hv hp'] at hy
  have hy:Sl H3 1 y (aI (uS cs b (1 - p))):=hy
  refine ⟨[y],rfl,⟨hy.one,trivial⟩,?_⟩
  refine dZ (e:=aO) (size:=1) (bytes:=8) (by kernel_rfl) (hx.le l3) (by rw [aI,List.length_map];omega) (by rw [aI,List.length_map];omega) fun xa Oa H4 l4 pa=>?_
  refine aH (rows:=aI (uS cs b p)) (news:=aI (uS cs b (1 - p))) (O1:=Oa) (O2:=[]) (e:=aO) (size:=1) (bytes:=8) (by kernel_rfl) (by simp) pa (fun Hf lf _=>hy.le (Heap.le_trans l4 lf)) (by rw [aI,aI,List.length_map,List.length_map];omega) (by rw [aI,aI,List.length_map,List.length_map];omega) ?_
  intro z A' H5 l5 hz
  have ez:aI (uS cs b p)++aI (uS cs b (1 - p))=aI (uS cs b p++uS cs b (1 - p)):=by rw [aI,aI,aI,List.map_append]
  rw [ez] at hz
  rw [List.append_nil]
  refine yx hz (fun Hf hs=>Io hs (by rw [List.length_append];omega)) ?_
  rintro s H6 ⟨hs,-⟩ l6
  have hs:Sl H6 1 s (aI (zD cs b p)):=hs
  refine ⟨[s],rfl,⟨hs.one,trivial⟩,?_⟩
  refine ax (Triple.frozenS (EF hs (by omega))) ?_
  rintro o H7 _ ⟨ho,rfl⟩ l7
  refine ⟨[o],rfl,⟨ho.one,trivial⟩,?_⟩
  refine ab (iV (1 - p)) (I5 (by omega) (by omega)) (af fun r1=>?_)
  have lx:=Heap.le_trans l3 (Heap.le_trans l4 (Heap.le_trans l5 (Heap.le_trans l6 l7)))
  have ly:=Heap.le_trans l4 (Heap.le_trans l5 (Heap.le_trans l6 l7))
  replace h:=h.le (Heap.le_trans l2 lx)
  replace hk:=hk.le (Heap.le_trans l2 lx)
  replace hx:=hx.le lx
  replace hy:=hy.le ly
  have hone:Ones [iV 0,iV (1 - p),iV 0,iV p]:=⟨rfl,rfl,rfl,rfl,trivial⟩
  clear lx ly l1 l2 l3 l4 l5 l6 l7 hs hz pa
  refine ab _ (aA k 1) (aj (fun h1=>?_) (fun h1=>?_))
  ·obtain rfl:k=1:=by simpa using h1
   exact ah (.inr ⟨ho,rfl⟩)
  have h1:k ≠ 1:=by simpa using h1
  refine ab _ (aA k 2) (aj (fun h2=>?_) (fun h2=>?_))
  ·obtain rfl:k=2:=by simpa using h2
   refine ax (EF hx (by omega)) fun o2 H8 O8 ho2 l8=>⟨[o2],rfl,⟨ho2.one,trivial⟩,?_⟩
   exact ah (.inl (show OSl aD 2 o2 (cO (tgs (uS cs b p))) (O8++[]) by rw [List.append_nil];exact ho2))
  have h2:k ≠ 2:=by simpa using h2
  refine ab _ (aA k 3) (aj (fun h3=>?_) (fun h3=>?_))
  ·obtain rfl:k=3:=by simpa using h3
   refine ax (EF hy (by omega)) fun o2 H8 O8 ho2 l8=>⟨[o2],rfl,⟨ho2.one,trivial⟩,?_⟩
   exact ah (.inl (show OSl aD 2 o2 (cO (tgs (uS cs b (1 - p)))) (O8++[]) by rw [List.append_nil];exact ho2))
  have h3:k ≠ 3:=by simpa using h3
  refine ab _ (aA k 4) (aj (fun h4=>?_) (fun h4=>?_))
  ·obtain rfl:k=4:=by simpa using h4
   exact Qj fun H' _ hf=>.inr ⟨Sl.block2 (hf _ List.mem_cons_self) hone,rfl⟩
  have h4:k ≠ 4:=by simpa using h4
  refine ab _ (aA k 5) (aj (fun h5=>?_) (fun h5=>?_))
  ·obtain rfl:k=5:=by simpa using h5
   refine kZ (ad:=⟨r1,0,none⟩) (rows:=cO (plT p)) (news:=cO (tgs (zD cs b p))) (size:=2) (e:=aD) (by kernel_rfl) (fun Hf _ hf=>Sl.block2 (hf _ List.mem_cons_self) hone) ho (by rw [show lh PP aD=16 by kernel_rfl,bF,bF,jg];simp only [plT,List.length_cons,List.length_nil];omega) (by rw [bF,bF,jg];simp only [plT,List.length_cons,List.length_nil];omega) fun u H8 l8 hu=>?_
   refine ah (.inr ⟨?_,rfl⟩)
   rw [← Ji] at hu
   exact hu
  have h5:k ≠ 5:=by simpa using h5
  refine ab _ (aA k 6) (aj (fun h6=>?_) (fun h6=>?_))
  ·obtain rfl:k=6:=by simpa using h6
   have esp:cO (Iz cs b p 6)=cO (tgs ((b.stack.reverse.filter (oC cs)).map (fun x:It=>x.id))):=by rw [P0 hv];rfl
   rw [esp]
   have slen:ak .len [v.s]=some (iV b.stack.length):=ItsR.len (h.stack.r [])
   have hsb:b.stack.length≤1000000:=hst
   obtain ⟨rows,hrs,hrl,hit⟩:=h.stack
   refine aa ?_
   refine ab _ slen ?_
   refine ab (iV ((b.stack.length:Int) - 1)) (I5 (by omega) (by omega)) ?_
   refine NG b.stack.length (fun i y H' O'=>Heap.le H7 H'∧OSl aD 2 y (cO (tgs (((b.stack.reverse.take i).filter (oC cs)).map (fun x:It=>x.id)))) O') ⟨Heap.le_refl _,OSl.nil _ _⟩ ?_
   rintro i y H' O' hi - ⟨hle,hy⟩
   refine ab _ (di _ _) (aj (fun hb=>?_) (fun hb=>?_))
   ·have hlt:i < b.stack.length:=by have:=of_decide_eq_true hb;omega
    obtain ⟨j,hjl,hj,hrv⟩:∃ (j:Nat) (hjl:j < b.stack.length),(j:Int)=(b.stack.length:Int) - 1 - i∧b.stack.reverse[i]'(by simpa using hlt)=b.stack[j]:=⟨b.stack.length - 1 - i,by omega,by omega,Qi hlt⟩
    have hft:=fO (p:=oC cs) (l:=b.stack.reverse) (i:=i) (by simpa using hlt)
    rw [hrv] at hft
    obtain ⟨a,k1,k2,k3,k4,k5⟩:=((hrs.le hle).rsl O').idx .i64 j (rows[j]'(by omega)) (by simp [hrl,hjl])
    obtain ⟨s,hrow,hs⟩:=hit j (rows[j]'(by omega)) b.stack[j] (by simp [hrl,hjl]) (by simp [hjl])
    have hR:ItR H' [] [iV b.stack[j].player,iV b.stack[j].id,iV b.stack[j].card,iV b.stack[j].trig,s] b.stack[j]:=⟨s,rfl,(hs.le hle).rsl []⟩
    rw [hrow] at k2 k3 k4 k5
    rw [hj] at k1
    have k6:=k3 1 1 (by omega)
    refine aa ?_
    refine ab _ k1 (ar k2 k4 k5 ?_)
    refine Kw (Vg (hk.le hle) hli hR) rfl ⟨rfl,trivial⟩ fun H2 l2=>aj (fun hc=>?_) (fun hc=>?_)
    ·have hc:oC cs b.stack[j]=true:=hc
     have hlen:((b.stack.reverse.take i).filter (oC cs)).length≤1000000:=Nat.le_trans (List.length_filter_le _ _) (by rw [List.length_take,List.length_reverse];omega)
     refine aa ?_
     refine ab _ k1 ?_
     refine aC rfl ?_
     refine ar (DJ k6 l2) rfl ⟨rfl,trivial⟩ (af fun r3=>?_)
     refine aH (rows:=cO (tgs (((b.stack.reverse.take i).filter (oC cs)).map (fun x:It=>x.id)))) (news:=[rF b.stack[j].id]) (O1:=O') (O2:=[]) (e:=aD) (size:=2) (bytes:=16) (by kernel_rfl) (by simp) hy (fun Hf _ hf=>Sl.block1 (hf _ List.mem_cons_self) rfl ⟨rfl,rfl,trivial⟩) (by rw [bF,jg,List.length_map,List.length_singleton];omega) (by rw [bF,jg,List.length_map,List.length_singleton];omega) ?_
     intro v' A' H6 l6 hA'
     refine ab _ (I5 (by omega) (by omega)) (zo (by simp [Eqs]) hlt ⟨Heap.le_trans hle (Heap.le_trans l2 l6),?_⟩)
     have e:cO (tgs (((b.stack.reverse.take (i + 1)).filter (oC cs)).map (fun x:It=>x.id)))=cO (tgs (((b.stack.reverse.take i).filter (oC cs)).map (fun x:It=>x.id)))++[rF b.stack[j].id]:=by
      rw [ik,ik,hft,if_pos hc,List.map_append,List.map_append];rfl
     rw [List.append_nil,e];exact hA'
    ·have hc:oC cs b.stack[j]=false:=hc
     refine ab _ (I5 (by omega) (by omega)) (zo (by simp [Eqs]) hlt ⟨Heap.le_trans hle l2,?_⟩)
     rw [hft,if_neg (by rw [hc];simp),List.append_nil];exact hy
   ·have hge:b.stack.length≤i:=by have:=of_decide_eq_false hb;omega
    rw [List.take_of_length_le (by rw [List.length_reverse];exact hge)] at hy
    exact ah (.inl hy)
  have h6:k ≠ 6:=by simpa using h6
  have en:Iz cs b p k=[]:=by rw [Iz,if_neg h1,if_neg h3,if_neg h2,if_neg h4,if_neg h5,if_neg h6]
  rw [en]
  exact ah (.inl (OSl.nil _ _))
 refine hfz.ghost ?_
 rintro r H' O' _ hc (ho | ⟨ho,rfl⟩)
 ·obtain ⟨H2,g,hs,_⟩:=ho.freeze (X:=[]) (by simpa using hc)
  exact ⟨H2,[],by simpa using g,hs,rfl⟩
 ·exact ⟨H',[],Ghost.refl _ _,ho,rfl⟩
end Go.Proofs.YtdhobpmnkfmcfaaGreatDoor
