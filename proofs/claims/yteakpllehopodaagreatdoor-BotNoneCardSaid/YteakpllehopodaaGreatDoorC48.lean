/- slices.SortFunc at targets, by their ids: the library's contract, said of own blocks. -/
import Derived.Test.YteakpllehopodaaGreatDoorKN2
import Derived.Test.YteakpllehopodaaGreatDoorM
import Derived.Test.YteakpllehopodaaGreatDoorSH
namespace Go.Proofs.YteakpllehopodaaGreatDoor
open Go Go.Sx
set_option maxRecDepth 100000
set_option maxHeartbeats 1000000
section
open Go.Shelf Go.RowKit Go.Lib Go.Sort
theorem UM (x y:Int) (W:World):Calls Tryz.prog 261 #[.agg #[.int .i64 x,.int .i64 0],.agg #[.int .i64 y,.int .i64 0]] W fun e w'=>e=.returned (.int .i64 (Lib.compareInt x y))∧∃ q os',w'=grow (W.drewN q) os':=by
 have hcon:=fun W'=>AnyG.cmp_Compare_int Tryz.cmpInt x y W'
 change ∀ W',Calls Tryz.prog 108 _ _ _ at hcon
 generalize Lib.compareInt x y=r at hcon ⊢
 go_enter Tryz.func261,Tryz.ntmps261
 go_wp2_with (go_at_call 108;refine (hcon _).mono ?_;rintro e w' ⟨rfl,rfl⟩)
 go_ret
 exact⟨rfl,0,_,by rw[alloc_eq_grow,alloc_eq_grow,grow_grow];rfl⟩
theorem Q1 (x y:Int):ltOf (fun x y:Int=>Lib.compareInt x y) x y=decide (x < y):=by
 unfold ltOf Lib.compareInt
 by_cases h1:x < y
 ·simp[h1]
 ·by_cases h2:y < x <;> simp[h1,h2]
theorem Vl:SWO (ltOf fun x y:Int=>Lib.compareInt x y) where
 irrefl x:=by rw[Q1];simp
 trans x y z h1 h2:=by rw[Q1] at *;simp at *;omega
 ntrans x y z h1 h2:=by rw[Q1] at *;simp at *;omega
theorem HM {l:List Int} (h:l.Nodup):(l.mergeSort fun x y=>!(ltOf fun x y:Int=>Lib.compareInt x y) y x)=xC l:=by
 have hp:=List.mergeSort_perm l (fun x y=>!(ltOf fun x y:Int=>Lib.compareInt x y) y x)
 have hs:=List.pairwise_mergeSort (le:=fun x y=>!(ltOf fun x y:Int=>Lib.compareInt x y) y x) (fun a b c h1 h2=>by rw[Q1] at *;simp at *;omega) (fun a b=>by rw[Q1,Q1];simp;omega) l
 have hn:(l.mergeSort fun x y=>!(ltOf fun x y:Int=>Lib.compareInt x y) y x).Nodup:=hp.symm.nodup_iff.1 h
 refine BL ?_ (Fa h) fun x=>?_
 ·refine List.Pairwise.imp₂ (fun a b h1 h2=>?_) hs hn
  rw[Q1] at h1
  simp at h1
  omega
 ·rw[hp.mem_iff,(BM l).mem_iff]
theorem UO {H:Heap} {v:Value} {l:List Int} {O:Go.Sx.Own} (h:OSl aF 2 v (l.map oP) O) (hn:l.Nodup) (hlen:l.length≤4000000) :
  Triple PP 260 [v,.func (.func 261) #[] #[]] H O fun r H' O'=>r=.tuple #[]∧OSl aF 2 v ((xC l).map oP) O':=by
 rcases h with ⟨⟨a,rfl⟩,hrows,rfl⟩ | ⟨r,cs,cap,rfl,rfl,hcl,hlc,hcap,hl,ho,ht⟩
 ·have hnil:l=[]:=by simpa using hrows
  subst hnil
  intro w F hm
  have hcon:=AnyF.slices_SortFunc_none Tryz.sortT a 0 (.func (.func 261) #[] #[]) w
  change Calls PP 260 _ _ _ at hcon
  refine hcon.mono ?_
  rintro _ _ ⟨rfl,rfl⟩
  exact⟨_,H,[],rfl,⟨rfl,.inl ⟨⟨a,rfl⟩,rfl,rfl⟩⟩,Heap.le_refl H,hm⟩
 ·intro w F hm
  rw[List.length_map] at hlc ht
  have hfit:l.length * 2≤cs.length:=by rw[hcl];exact Nat.mul_le_mul_right 2 hlc
  have hm':Models w H ((r,.cells cs.toArray aF (0,0))::F):=by simpa using hm
  obtain⟨hH,hblk⟩:=Go.Sx.sort_holds hm' ht.symm hfit
  have eg:∀ args w,(callFunc 261 args).run PP w=.ok (.enter 261 args) w:=enters_of Tryz.func261 (by kernel_rfl) rfl
  have hcon:=AnyQ.slices_SortFunc_total Tryz.sortT 2 Tryz.isAgg122 Tryz.sizeOf122 oP (fun _=>rfl) (fun x v hv=>by simp[oP] at hv;rcases hv with rfl | rfl <;> rfl) (fun x y=>Lib.compareInt x y) Vl 261 #[] r 0 cap l.toArray w eg
   (fun _ _ _ _ x y=>UM x y _) hH hblk (by simp;omega) (fun x y h1 h2=>by rw[Q1] at h1 h2;simp at h1 h2;omega)
  change Calls PP 260 _ _ _ at hcon
  rw[HM hn] at hcon
  rw[List.length_map]
  refine hcon.mono ?_
  rintro _ _ ⟨rfl,n,os,rfl⟩
  have hsl:(xC l).length=l.length:=Fe l
  have hmm:=Go.Sx.sort_models hm' (d:=xC l) (by rw[hsl];exact hfit) n os
  refine⟨_,H,[(r,.cells (((xC l).map oP).flatten++cs.drop ((xC l).length * 2)).toArray aF (0,0))],rfl,⟨rfl,.inr ⟨r,((xC l).map oP).flatten++cs.drop ((xC l).length * 2),cap,?_,rfl,?_,?_,hcap,?_,?_,?_⟩⟩,Heap.le_refl H,by simpa using hmm⟩
  ·rw[List.length_map,hsl]
  ·rw[List.length_append,List.length_drop,qO,hsl,hcl];omega
  ·rw[List.length_map,hsl];exact hlc
  ·intro x hx
   obtain⟨y,_,rfl⟩:=List.mem_map.1 hx
   rfl
  ·intro x hx
   obtain⟨y,_,rfl⟩:=List.mem_map.1 hx
   exact⟨rfl,rfl,trivial⟩
  ·rw[List.length_map,← qO,List.take_left]
end
def Bn (cs:List Cd) (b:Bd) (p:Int):List Int:=iC (Eh cs) b p
def IE (cs:List Cd) (b:Bd) (p:Int):List Int:=xC (Bn cs b p++Bn cs b (1 - p))
def LA (cs:List Cd) (b:Bd):List Int:=(b.stack.reverse.filter (od cs)).map (fun x:It=>x.id)
def Kt (cs:List Cd) (b:Bd) (p k:Int):List Tg :=
 if k=1 then tgs (IE cs b p) else if k=3 then tgs (Bn cs b (1 - p)) else if k=2 then tgs (Bn cs b p) else if k=4 then plT p else if k=5 then plT p++tgs (IE cs b p) else if k=6 then tgs (LA cs b) else []
theorem mL {ks:List Int} {b:Bd} (h:aE b=true) (p:Int):(iC ks b p).length≤1000000:=by
 have:=yx h
 rw[iC]
 split
 ·rw[List.length_map];exact Nat.le_trans (List.length_filter_le _ _) this
 ·simp
theorem wm {ks:List Int} {b:Bd} (h:aE b=true) (p:Int):(iC ks b p).Nodup:=by
 rw[iC]
 split
 ·obtain⟨p1,_,_⟩:=iL (eI h).1
  exact ((vY p1).sublist ((List.filter_sublist (l:=b.objs)).map _)).imp fun h=>by omega
 ·exact List.nodup_nil
theorem If {ks:List Int} {b:Bd} (h:aE b=true) {p q:Int} (hpq:p ≠ q) {x:Int} (h1:x ∈ iC ks b p) (h2:x ∈ iC ks b q):False:=by
 rw[iC] at h1 h2
 split at h1
 ·split at h2
  ·obtain⟨o1,m1,e1⟩:=List.mem_map.1 h1
   obtain⟨o2,m2,e2⟩:=List.mem_map.1 h2
   obtain⟨m1,c1⟩:=List.mem_filter.1 m1
   obtain⟨m2,c2⟩:=List.mem_filter.1 m2
   obtain⟨k1,g1⟩:=List.mem_iff_getElem?.1 m1
   obtain⟨k2,g2⟩:=List.mem_iff_getElem?.1 m2
   obtain⟨_,_,v1,_⟩:=mF (eI h).1 g1
   obtain⟨_,_,v2,_⟩:=mF (eI h).1 g2
   rw[e1] at v1
   rw[e2,v1] at v2
   have:k1=k2:=by omega
   subst this
   rw[g1] at g2
   obtain rfl:=Option.some.inj g2
   simp only[xY,Bool.and_eq_true,beq_iff_eq] at c1 c2
   exact hpq (c1.1.symm.trans c2.1)
  ·simp at h2
 ·simp at h1
theorem KZ {cs:List Cd} {b:Bd} (h:aE b=true) (p:Int):(Bn cs b p++Bn cs b (1 - p)).Nodup:=by
 rw[List.nodup_append]
 refine⟨wm h p,wm h _,fun x hx y hy e=>?_⟩
 subst e
 exact If h (by omega) hx hy
theorem Lm {H:Heap} {cv:Value} {cs:List Cd} (hk:CardsS H cv cs) {v:cI} {b:Bd} (h:BdS H v b) (hv:aE b=true) (p:Int) :
  Triple PP dj [cv,.agg (ao v b).toArray,iV p,iV 2] H [] fun r _ O'=>OSl aF 2 r (gj (tgs (Bn cs b p))) O':=by
 refine dD (vs:=cv::(ao v b++[iV p,iV 2])) (by kernel_rfl) ⟨hk.one,aK (ap (h.r [])) ⟨rfl,rfl,trivial⟩⟩ ?_
 simp only[dW]
 refine ah fun r0=>?_
 refine ab _ (aw 2 1) (aj (fun hb=>absurd hb (by decide)) (fun _=>?_))
 refine ab _ (aw 2 3) (aj (fun hb=>absurd hb (by decide)) (fun _=>?_))
 refine ab _ (aw 2 2) (aj (fun _=>?_) (fun hb=>absurd hb (by decide)))
 refine ae ?_
 refine az (IA hk.kinds h p) ?_
 rintro x H1 _ ⟨hx,rfl⟩ l1
 refine⟨[x],rfl,⟨hx.one,trivial⟩,?_⟩
 have hlen:(Bn cs b p).length≤1000000:=mL hv p
 have hx:Sl H1 1 x (aJ (Bn cs b p)):=hx
 generalize Bn cs b p=l at hx hlen
 have xlen:al .len [x]=some (iV l.length):=by have:=hx.len;rwa [aJ,List.length_map] at this
 refine ab _ xlen ?_
 refine eE l.length (fun i y H' O'=>Heap.le H1 H'∧OSl aF 2 y (gj (tgs (l.take i))) O') ⟨Heap.le_refl _,OSl.nil _ _⟩ ?_
 rintro i y H' O' hi - ⟨hle,hy⟩
 refine ab _ (aG _ _) (aj (fun hb=>?_) (fun hb=>?_))
 ·have hlt:i < l.length:=by simpa using hb
  obtain⟨a,h1,h2,h3,h4⟩:=(hx.le hle).idx (k:=.i64) (i:=i) (r:=[iV l[i]]) (by simp[aJ,hlt])
  refine ab _ h1 (nH h2 h3 h4 (ah fun r1=>?_))
  refine aH (rows:=gj (tgs (l.take i))) (news:=[oP l[i]]) (O1:=O') (O2:=[]) (e:=aF) (size:=2) (bytes:=16) (by kernel_rfl) (by simp) hy (fun Hf _ hf=>Sl.block1 (hf _ List.mem_cons_self) rfl ⟨rfl,rfl,trivial⟩) (by rw[eu,lV,List.length_take,List.length_singleton];omega) (by rw[eu,lV,List.length_take,List.length_singleton];omega) ?_
  intro v' A' H6 l6 hA'
  refine ab _ (aD (by omega)) (aV (by simp[Eqs]) hlt ⟨Heap.le_trans hle l6,?_⟩)
  have e:gj (tgs (l.take (i + 1)))=gj (tgs (l.take i))++[oP l[i]]:=by
   rw[ke,ke,List.take_add_one,List.getElem?_eq_getElem hlt,List.map_append];rfl
  rw[List.append_nil,e];exact hA'
 ·have hge:l.length≤i:=by simpa using hb
  rw[List.take_of_length_le hge] at hy
  exact af hy
theorem IS {H:Heap} {cv:Value} {cs:List Cd} (hk:CardsS H cv cs) {v:cI} {b:Bd} (h:BdS H v b) (hv:aE b=true) {p:Int} (hp:p=0∨p=1) :
  Triple PP dj [cv,.agg (ao v b).toArray,iV p,iV 3] H [] fun r _ O'=>OSl aF 2 r (gj (tgs (Bn cs b (1 - p)))) O':=by
 refine dD (vs:=cv::(ao v b++[iV p,iV 3])) (by kernel_rfl) ⟨hk.one,aK (ap (h.r [])) ⟨rfl,rfl,trivial⟩⟩ ?_
 simp only[dW]
 refine ah fun r0=>?_
 refine ab _ (aw 3 1) (aj (fun hb=>absurd hb (by decide)) (fun _=>?_))
 refine ab _ (aw 3 3) (aj (fun _=>?_) (fun hb=>absurd hb (by decide)))
 refine ae ?_
 refine ab (iV (1 - p)) (T9 (by omega) (by omega)) ?_
 refine az (Lm hk h hv (1 - p)) fun x H1 O1 hx l1=>⟨[x],rfl,⟨hx.one,trivial⟩,?_⟩
 exact af (by rw[List.append_nil];exact hx)
theorem E5 {H:Heap} {cv:Value} {cs:List Cd} (hk:CardsS H cv cs) {v:cI} {b:Bd} (h:BdS H v b) {p:Int} (hp:p=0∨p=1) :
  Triple PP dj [cv,.agg (ao v b).toArray,iV p,iV 4] H [] fun r _ O'=>OSl aF 2 r (gj (plT p)) O':=by
 refine dD (vs:=cv::(ao v b++[iV p,iV 4])) (by kernel_rfl) ⟨hk.one,aK (ap (h.r [])) ⟨rfl,rfl,trivial⟩⟩ ?_
 simp only[dW]
 refine ah fun r0=>?_
 refine ab _ (aw 4 1) (aj (fun hb=>absurd hb (by decide)) (fun _=>?_))
 refine ab _ (aw 4 3) (aj (fun hb=>absurd hb (by decide)) (fun _=>?_))
 refine ab _ (aw 4 2) (aj (fun hb=>absurd hb (by decide)) (fun _=>?_))
 refine ab _ (aw 4 4) (aj (fun _=>?_) (fun hb=>absurd hb (by decide)))
 refine ab (iV (1 - p)) (T9 (by omega) (by omega)) (ah fun r2=>?_)
 exact fun _=>⟨H,_,Ghost.refl _ _,.inr ⟨r2,[iV 0,iV (1 - p),iV 0,iV p],2,rfl,rfl,rfl,by simp[gj,plT],by omega,by simp[gj,plT,Tg.row],by simp[gj,plT,Tg.row,Ones,Value.oneCell'],rfl⟩⟩
theorem yz {H:Heap} {cv:Value} {cs:List Cd} (hk:CardsS H cv cs) {v:cI} {b:Bd} (h:BdS H v b) (hv:aE b=true) {p:Int} (hp:p=0∨p=1) :
  Triple PP dj [cv,.agg (ao v b).toArray,iV p,iV 1] H [] fun r _ O'=>OSl aF 2 r (gj (tgs (IE cs b p))) O':=by
 refine dD (vs:=cv::(ao v b++[iV p,iV 1])) (by kernel_rfl) ⟨hk.one,aK (ap (h.r [])) ⟨rfl,rfl,trivial⟩⟩ ?_
 simp only[dW]
 have b1:(Bn cs b p).length≤1000000:=mL hv p
 have b2:(Bn cs b (1 - p)).length≤1000000:=mL hv (1 - p)
 refine ah fun r0=>?_
 refine ab _ (aw 1 1) (aj (fun _=>?_) (fun hb=>absurd hb (by decide)))
 refine ae (ae ?_)
 refine az (Lm hk h hv p) fun x H1 O1 hx l1=>⟨[x],rfl,⟨hx.one,trivial⟩,?_⟩
 refine az (Triple.frozenS (IS (hk.le l1) (h.le l1) hv hp)) ?_
 rintro y H2 _ ⟨hy,rfl⟩ l2
 refine⟨[y],rfl,⟨hy.one,trivial⟩,?_⟩
 refine aH (rows:=gj (tgs (Bn cs b p))) (news:=gj (tgs (Bn cs b (1 - p)))) (O1:=O1) (O2:=[]) (e:=aF) (size:=2) (bytes:=16) (by kernel_rfl) (by simp) hx (fun Hf lf _=>hy.le lf) (by rw[eu,lV,eu,lV];omega) (by rw[eu,lV,eu,lV];omega) ?_
 intro z A' H3 l3 hz
 have e:gj (tgs (Bn cs b p))++gj (tgs (Bn cs b (1 - p)))=(Bn cs b p++Bn cs b (1 - p)).map oP:=by rw[ke,ke,List.map_append]
 rw[e] at hz
 refine ik (O1:=A') (O2:=[]) (by simp) (UO hz (KZ hv p) (by rw[List.length_append];omega)) ?_
 rintro _ H4 O4 ⟨rfl,hs⟩ l4
 refine⟨[],rfl,trivial,?_⟩
 exact af (by rw[List.append_nil,ke];exact hs)
theorem Ln {H:Heap} {cv:Value} {cs:List Cd} (hk:CardsS H cv cs) {v:cI} {b:Bd} (h:BdS H v b) (hv:aE b=true) {p:Int} (hp:p=0∨p=1) :
  Triple PP dj [cv,.agg (ao v b).toArray,iV p,iV 5] H [] fun r _ O'=>OSl aF 2 r (gj (plT p++tgs (IE cs b p))) O':=by
 refine dD (vs:=cv::(ao v b++[iV p,iV 5])) (by kernel_rfl) ⟨hk.one,aK (ap (h.r [])) ⟨rfl,rfl,trivial⟩⟩ ?_
 simp only[dW]
 have b1:(IE cs b p).length≤2000000:=by
  have b1:(Bn cs b p).length≤1000000:=mL hv p
  have b2:(Bn cs b (1 - p)).length≤1000000:=mL hv (1 - p)
  rw[IE,Fe,List.length_append];omega
 refine ah fun r0=>?_
 refine ab _ (aw 5 1) (aj (fun hb=>absurd hb (by decide)) (fun _=>?_))
 refine ab _ (aw 5 3) (aj (fun hb=>absurd hb (by decide)) (fun _=>?_))
 refine ab _ (aw 5 2) (aj (fun hb=>absurd hb (by decide)) (fun _=>?_))
 refine ab _ (aw 5 4) (aj (fun hb=>absurd hb (by decide)) (fun _=>?_))
 refine ab _ (aw 5 5) (aj (fun _=>?_) (fun hb=>absurd hb (by decide)))
 refine ae (ae ?_)
 refine az (E5 hk h hp) fun x H1 O1 hx l1=>⟨[x],rfl,⟨hx.one,trivial⟩,?_⟩
 refine az (Triple.frozenS (yz (hk.le l1) (h.le l1) hv hp)) ?_
 rintro y H2 _ ⟨hy,rfl⟩ l2
 refine⟨[y],rfl,⟨hy.one,trivial⟩,?_⟩
 refine aH (rows:=gj (plT p)) (news:=gj (tgs (IE cs b p))) (O1:=O1) (O2:=[]) (e:=aF) (size:=2) (bytes:=16) (by kernel_rfl) (by simp) hx (fun Hf lf _=>hy.le lf) (by rw[eu,eu,lV];simp only[plT,List.length_cons,List.length_nil];omega) (by rw[eu,eu,lV];simp only[plT,List.length_cons,List.length_nil];omega) ?_
 intro z A' H3 l3 hz
 exact af (by rw[List.append_nil,Lq];exact hz)
theorem OX {H H':Heap} {O:Go.Sx.Own} {p:Value} {m:Nat} {vs:List Value} (h:Reads H O p m vs) (hl:Heap.le H H'):Reads H' O p m vs:=h.imp (fun h=>hl.read h) id
theorem OL {H:Heap} {cv:Value} {cs:List Cd} (hk:CardsS H cv cs) (hli:zq cs=true) {v:cI} {b:Bd} (h:BdS H v b) (hst:b.stack.length≤1000000) (p:Int) :
  Triple PP dj [cv,.agg (ao v b).toArray,iV p,iV 6] H [] fun r _ O'=>OSl aF 2 r (gj (tgs (LA cs b))) O':=by
 refine dD (vs:=cv::(ao v b++[iV p,iV 6])) (by kernel_rfl) ⟨hk.one,aK (ap (h.r [])) ⟨rfl,rfl,trivial⟩⟩ ?_
 simp only[dW]
 refine ah fun r0=>?_
 refine ab _ (aw 6 1) (aj (fun hb=>absurd hb (by decide)) (fun _=>?_))
 refine ab _ (aw 6 3) (aj (fun hb=>absurd hb (by decide)) (fun _=>?_))
 refine ab _ (aw 6 2) (aj (fun hb=>absurd hb (by decide)) (fun _=>?_))
 refine ab _ (aw 6 4) (aj (fun hb=>absurd hb (by decide)) (fun _=>?_))
 refine ab _ (aw 6 5) (aj (fun hb=>absurd hb (by decide)) (fun _=>?_))
 refine ab _ (aw 6 6) (aj (fun _=>?_) (fun hb=>absurd hb (by decide)))
 have slen:al .len [v.s]=some (iV b.stack.length):=ItsR.len (h.stack.r [])
 have hsb:b.stack.length≤1000000:=hst
 obtain⟨rows,hrs,hrl,hit⟩:=h.stack
 refine ae ?_
 refine ab _ slen ?_
 refine ab (iV ((b.stack.length:Int) - 1)) (T9 (by omega) (by omega)) ?_
 refine Qe b.stack.length (fun i y H' O'=>Heap.le H H'∧OSl aF 2 y (gj (tgs (((b.stack.reverse.take i).filter (od cs)).map (fun x:It=>x.id)))) O') ⟨Heap.le_refl _,OSl.nil _ _⟩ ?_
 rintro i y H' O' hi - ⟨hle,hy⟩
 refine ab _ (eC _ _) (aj (fun hb=>?_) (fun hb=>?_))
 ·have hlt:i < b.stack.length:=by have:=of_decide_eq_true hb;omega
  obtain⟨j,hjl,hj,hrv⟩:∃ (j:Nat) (hjl:j < b.stack.length),(j:Int)=(b.stack.length:Int) - 1 - i∧b.stack.reverse[i]'(by simpa using hlt)=b.stack[j]:=⟨b.stack.length - 1 - i,by omega,by omega,RN hlt⟩
  have hft:=sO (p:=od cs) (l:=b.stack.reverse) (i:=i) (by simpa using hlt)
  rw[hrv] at hft
  obtain⟨a,k1,k2,k3,k4,k5⟩:=((hrs.le hle).rsl O').idx .i64 j (rows[j]'(by omega)) (by simp[hrl,hjl])
  obtain⟨s,hrow,hs⟩:=hit j (rows[j]'(by omega)) b.stack[j] (by simp[hrl,hjl]) (by simp[hjl])
  have hR:ItR H' [] [iV b.stack[j].player,iV b.stack[j].id,iV b.stack[j].card,iV b.stack[j].trig,s] b.stack[j]:=⟨s,rfl,(hs.le hle).rsl []⟩
  rw[hrow] at k2 k3 k4 k5
  rw[hj] at k1
  have k6:=k3 1 1 (by omega)
  refine ae ?_
  refine ab _ k1 (aA k2 k4 k5 ?_)
  refine NH (SX (hk.le hle) hli hR) rfl ⟨rfl,trivial⟩ fun H2 l2=>aj (fun hc=>?_) (fun hc=>?_)
  ·have hc:od cs b.stack[j]=true:=hc
   have hlen:((b.stack.reverse.take i).filter (od cs)).length≤1000000:=Nat.le_trans (List.length_filter_le _ _) (by rw[List.length_take,List.length_reverse];omega)
   refine ae ?_
   refine ab _ k1 ?_
   refine ak rfl ?_
   refine aA (OX k6 l2) rfl ⟨rfl,trivial⟩ (ah fun r3=>?_)
   refine aH (rows:=gj (tgs (((b.stack.reverse.take i).filter (od cs)).map (fun x:It=>x.id)))) (news:=[oP b.stack[j].id]) (O1:=O') (O2:=[]) (e:=aF) (size:=2) (bytes:=16) (by kernel_rfl) (by simp) hy (fun Hf _ hf=>Sl.block1 (hf _ List.mem_cons_self) rfl ⟨rfl,rfl,trivial⟩) (by rw[eu,lV,List.length_map,List.length_singleton];omega) (by rw[eu,lV,List.length_map,List.length_singleton];omega) ?_
   intro v' A' H6 l6 hA'
   refine ab _ (T9 (by omega) (by omega)) (Gv (by simp[Eqs]) hlt ⟨Heap.le_trans hle (Heap.le_trans l2 l6),?_⟩)
   have e:gj (tgs (((b.stack.reverse.take (i + 1)).filter (od cs)).map (fun x:It=>x.id)))=gj (tgs (((b.stack.reverse.take i).filter (od cs)).map (fun x:It=>x.id)))++[oP b.stack[j].id]:=by
    rw[ke,ke,hft,if_pos hc,List.map_append,List.map_append];rfl
   rw[List.append_nil,e];exact hA'
  ·have hc:od cs b.stack[j]=false:=hc
   refine ab _ (T9 (by omega) (by omega)) (Gv (by simp[Eqs]) hlt ⟨Heap.le_trans hle l2,?_⟩)
   rw[hft,if_neg (by rw[hc];simp),List.append_nil];exact hy
 ·have hge:b.stack.length≤i:=by have:=of_decide_eq_false hb;omega
  rw[List.take_of_length_le (by rw[List.length_reverse];exact hge)] at hy
  exact af hy
theorem Rw {H:Heap} {cv:Value} {cs:List Cd} (hk:CardsS H cv cs) {v:cI} {b:Bd} (h:BdS H v b) (p:Int) {k:Int} (h1:k ≠ 1) (h2:k ≠ 2) (h3:k ≠ 3) (h4:k ≠ 4) (h5:k ≠ 5) (h6:k ≠ 6) :
  Triple PP dj [cv,.agg (ao v b).toArray,iV p,iV k] H [] fun r _ O'=>OSl aF 2 r [] O':=by
 refine dD (vs:=cv::(ao v b++[iV p,iV k])) (by kernel_rfl) ⟨hk.one,aK (ap (h.r [])) ⟨rfl,rfl,trivial⟩⟩ ?_
 simp only[dW]
 refine ah fun r0=>?_
 refine ab _ (aw k 1) (aj (fun hb=>absurd (by simpa using hb) h1) (fun _=>?_))
 refine ab _ (aw k 3) (aj (fun hb=>absurd (by simpa using hb) h3) (fun _=>?_))
 refine ab _ (aw k 2) (aj (fun hb=>absurd (by simpa using hb) h2) (fun _=>?_))
 refine ab _ (aw k 4) (aj (fun hb=>absurd (by simpa using hb) h4) (fun _=>?_))
 refine ab _ (aw k 5) (aj (fun hb=>absurd (by simpa using hb) h5) (fun _=>?_))
 refine ab _ (aw k 6) (aj (fun hb=>absurd (by simpa using hb) h6) (fun _=>?_))
 exact af (OSl.nil _ _)
theorem SU {H:Heap} {cv:Value} {cs:List Cd} (hk:CardsS H cv cs) (hli:zq cs=true) {v:cI} {b:Bd} (h:BdS H v b) (hst:b.stack.length≤1000000) (hv:aE b=true) {p:Int} (hp:p=0∨p=1) (k:Int) :
  Triple PP dj [cv,.agg (ao v b).toArray,iV p,iV k] H [] fun r _ O'=>OSl aF 2 r (gj (Kt cs b p k)) O':=by
 rw[Kt]
 by_cases h1:k=1
 ·rw[if_pos h1];subst h1;exact yz hk h hv hp
 rw[if_neg h1]
 by_cases h3:k=3
 ·rw[if_pos h3];subst h3;exact IS hk h hv hp
 rw[if_neg h3]
 by_cases h2:k=2
 ·rw[if_pos h2];subst h2;exact Lm hk h hv p
 rw[if_neg h2]
 by_cases h4:k=4
 ·rw[if_pos h4];subst h4;exact E5 hk h hp
 rw[if_neg h4]
 by_cases h5:k=5
 ·rw[if_pos h5];subst h5;exact Ln hk h hv hp
 rw[if_neg h5]
 by_cases h6:k=6
 ·rw[if_pos h6];subst h6;exact OL hk hli h hst p
 rw[if_neg h6]
 exact Rw hk h p h1 h2 h3 h4 h5 h6
theorem IQ (p:Int):(decide (p < 0) || decide (p > 1))=!ay p 0 1:=by
 rw[ay,Bool.eq_iff_iff];simp
end Go.Proofs.YteakpllehopodaaGreatDoor
