/- slices.SortFunc at targets, by their ids: the library's contract, said of own blocks. -/
import Derived.Test.YtdhobpmnkfmcfaaGreatDoorC32
import Derived.Test.YtdhobpmnkfmcfaaGreatDoorM17
import Derived.Test.YtdhobpmnkfmcfaaGreatDoorSH
namespace Go.Proofs.YtdhobpmnkfmcfaaGreatDoor
open Go Go.Sx
set_option maxRecDepth 100000
set_option maxHeartbeats 1000000
section
open Go.Shelf Go.RowKit Go.Lib Go.Sort
theorem V6 (x y:Int) (W:World):Calls Tryz.prog 158 #[.agg #[.int .i64 x,.int .i64 0],.agg #[.int .i64 y,.int .i64 0]] W fun e w'=>e=.returned (.int .i64 (Lib.compareInt x y))∧∃ q os',w'=grow (W.drewN q) os':=by
 have hcon:=fun W'=>AnyG.cmp_Compare_int Tryz.cmpInt x y W'
 change ∀ W',Calls Tryz.prog 159 _ _ _ at hcon
 generalize Lib.compareInt x y=r at hcon ⊢
 go_enter Tryz.func158,Tryz.ntmps158
 go_wp2_with (go_at_call 159;refine (hcon _).mono ?_;rintro e w' ⟨rfl,rfl⟩)
 go_ret
 exact⟨rfl,0,_,by rw[alloc_eq_grow,alloc_eq_grow,grow_grow];rfl⟩
theorem TA (x y:Int):ltOf (fun x y:Int=>Lib.compareInt x y) x y=decide (x < y):=by
 unfold ltOf Lib.compareInt
 by_cases h1:x < y
 ·simp[h1]
 ·by_cases h2:y < x <;> simp[h1,h2]
theorem WC:SWO (ltOf fun x y:Int=>Lib.compareInt x y) where
 irrefl x:=by rw[TA];simp
 trans x y z h1 h2:=by rw[TA] at *;simp at *;omega
 ntrans x y z h1 h2:=by rw[TA] at *;simp at *;omega
theorem JL {l:List Int} (h:l.Nodup):(l.mergeSort fun x y=>!(ltOf fun x y:Int=>Lib.compareInt x y) y x)=pC l:=by
 have hp:=List.mergeSort_perm l (fun x y=>!(ltOf fun x y:Int=>Lib.compareInt x y) y x)
 have hs:=List.pairwise_mergeSort (le:=fun x y=>!(ltOf fun x y:Int=>Lib.compareInt x y) y x) (fun a b c h1 h2=>by rw[TA] at *;simp at *;omega) (fun a b=>by rw[TA,TA];simp;omega) l
 have hn:(l.mergeSort fun x y=>!(ltOf fun x y:Int=>Lib.compareInt x y) y x).Nodup:=hp.symm.nodup_iff.1 h
 refine y7 ?_ (zX h) fun x=>?_
 ·refine List.Pairwise.imp₂ (fun a b h1 h2=>?_) hs hn
  rw[TA] at h1
  simp at h1
  omega
 ·rw[hp.mem_iff,(uY l).mem_iff]
theorem V8 {H:Heap} {v:Value} {l:List Int} {O:Own} (h:OSl aA 2 v (l.map qB) O) (hn:l.Nodup) (hlen:l.length≤4000000) :
  Triple PP 157 [v,.func (.func 158) #[] #[]] H O fun r H' O'=>r=.tuple #[]∧OSl aA 2 v ((pC l).map qB) O':=by
 rcases h with ⟨⟨a,rfl⟩,hrows,rfl⟩ | ⟨r,cs,cap,rfl,rfl,hcl,hlc,hcap,hl,ho,ht⟩
 ·have hnil:l=[]:=by simpa using hrows
  subst hnil
  intro w F hm
  have hcon:=AnyF.slices_SortFunc_none Tryz.sortT a 0 (.func (.func 158) #[] #[]) w
  change Calls PP 157 _ _ _ at hcon
  refine hcon.mono ?_
  rintro _ _ ⟨rfl,rfl⟩
  exact⟨_,H,[],rfl,⟨rfl,.inl ⟨⟨a,rfl⟩,rfl,rfl⟩⟩,Heap.le_refl H,hm⟩
 ·intro w F hm
  rw[List.length_map] at hlc ht
  have hfit:l.length * 2≤cs.length:=by rw[hcl];exact Nat.mul_le_mul_right 2 hlc
  have hm':Models w H ((r,.cells cs.toArray aA (0,0))::F):=by simpa using hm
  obtain⟨hH,hblk⟩:=Go.Sx.sort_holds hm' ht.symm hfit
  have eg:∀ args w,(callFunc 158 args).run PP w=.ok (.enter 158 args) w:=enters_of Tryz.func158 (by kernel_rfl) rfl
  have hcon:=AnyQ.slices_SortFunc_total Tryz.sortT 2 Tryz.isAgg41 Tryz.sizeOf41 qB (fun _=>rfl) (fun x v hv=>by simp[qB] at hv;rcases hv with rfl | rfl <;> rfl) (fun x y=>Lib.compareInt x y) WC 158 #[] r 0 cap l.toArray w eg
   (fun _ _ _ _ x y=>V6 x y _) hH hblk (by simp;omega) (fun x y h1 h2=>by rw[TA] at h1 h2;simp at h1 h2;omega)
  change Calls PP 157 _ _ _ at hcon
  rw[JL hn] at hcon
  rw[List.length_map]
  refine hcon.mono ?_
  rintro _ _ ⟨rfl,n,os,rfl⟩
  have hsl:(pC l).length=l.length:=xn l
  have hmm:=Go.Sx.sort_models hm' (d:=pC l) (by rw[hsl];exact hfit) n os
  refine⟨_,H,[(r,.cells (((pC l).map qB).flatten++cs.drop ((pC l).length * 2)).toArray aA (0,0))],rfl,⟨rfl,.inr ⟨r,((pC l).map qB).flatten++cs.drop ((pC l).length * 2),cap,?_,rfl,?_,?_,hcap,?_,?_,?_⟩⟩,Heap.le_refl H,by simpa using hmm⟩
  ·rw[List.length_map,hsl]
  ·rw[List.length_append,List.length_drop,vi,hsl,hcl];omega
  ·rw[List.length_map,hsl];exact hlc
  ·intro x hx
   obtain⟨y,_,rfl⟩:=List.mem_map.1 hx
   rfl
  ·intro x hx
   obtain⟨y,_,rfl⟩:=List.mem_map.1 hx
   exact⟨rfl,rfl,trivial⟩
  ·rw[List.length_map,← vi,List.take_left]
end
def sV (cs:List Cd) (b:Bd) (p:Int):List Int:=jl (Dq cs) b p
def yu (cs:List Cd) (b:Bd) (p:Int):List Int:=pC (sV cs b p++sV cs b (1 - p))
def Gh (cs:List Cd) (b:Bd):List Int:=(b.stack.reverse.filter (nF cs)).map (fun x:It=>x.id)
def GF (cs:List Cd) (b:Bd) (p k:Int):List Tg :=
 if k=1 then tgs (yu cs b p) else if k=3 then tgs (sV cs b (1 - p)) else if k=2 then tgs (sV cs b p) else if k=4 then plT p else if k=5 then plT p++tgs (yu cs b p) else if k=6 then tgs (Gh cs b) else []
theorem kX {ks:List Int} {b:Bd} (h:an b=true) (p:Int):(jl ks b p).length≤1000000:=by
 have:=xf h
 rw[jl]
 split
 ·rw[List.length_map];exact Nat.le_trans (List.length_filter_le _ _) this
 ·simp
theorem Av {ks:List Int} {b:Bd} (h:an b=true) (p:Int):(jl ks b p).Nodup:=by
 rw[jl]
 split
 ·obtain⟨p1,_,_⟩:=fc (aM h).1
  exact ((jh p1).sublist ((List.filter_sublist (l:=b.objs)).map _)).imp fun h=>by omega
 ·exact List.nodup_nil
theorem J2 {ks:List Int} {b:Bd} (h:an b=true) {p q:Int} (hpq:p ≠ q) {x:Int} (h1:x ∈ jl ks b p) (h2:x ∈ jl ks b q):False:=by
 rw[jl] at h1 h2
 split at h1
 ·split at h2
  ·obtain⟨o1,m1,e1⟩:=List.mem_map.1 h1
   obtain⟨o2,m2,e2⟩:=List.mem_map.1 h2
   obtain⟨m1,c1⟩:=List.mem_filter.1 m1
   obtain⟨m2,c2⟩:=List.mem_filter.1 m2
   obtain⟨k1,g1⟩:=List.mem_iff_getElem?.1 m1
   obtain⟨k2,g2⟩:=List.mem_iff_getElem?.1 m2
   obtain⟨_,_,v1,_⟩:=cV (aM h).1 g1
   obtain⟨_,_,v2,_⟩:=cV (aM h).1 g2
   rw[e1] at v1
   rw[e2,v1] at v2
   have:k1=k2:=by omega
   subst this
   rw[g1] at g2
   obtain rfl:=Option.some.inj g2
   simp only[zw,Bool.and_eq_true,beq_iff_eq] at c1 c2
   exact hpq (c1.1.symm.trans c2.1)
  ·simp at h2
 ·simp at h1
theorem NJ {cs:List Cd} {b:Bd} (h:an b=true) (p:Int):(sV cs b p++sV cs b (1 - p)).Nodup:=by
 rw[List.nodup_append]
 refine⟨Av h p,Av h _,fun x hx y hy e=>?_⟩
 subst e
 exact J2 h (by omega) hx hy
theorem N6 {H:Heap} {cv:Value} {cs:List Cd} (hk:CardsS H cv cs) {v:cn} {b:Bd} (h:BdS H v b) (hv:an b=true) (p:Int) :
  Triple PP dY [cv,.agg (al v b).toArray,iV p,iV 2] H [] fun r _ O'=>OSl aA 2 r (bO (tgs (sV cs b p))) O':=by
 refine eC (vs:=cv::(al v b++[iV p,iV 2])) (by kernel_rfl) ⟨hk.one,ax (am (h.r [])) ⟨rfl,rfl,trivial⟩⟩ ?_
 simp only[eW]
 refine af fun r0=>?_
 refine ab _ (ay 2 1) (ai (fun hb=>absurd hb (by decide)) (fun _=>?_))
 refine ab _ (ay 2 3) (ai (fun hb=>absurd hb (by decide)) (fun _=>?_))
 refine ab _ (ay 2 2) (ai (fun _=>?_) (fun hb=>absurd hb (by decide)))
 refine aa ?_
 refine ar (Kp hk.kinds h p) ?_
 rintro x H1 _ ⟨hx,rfl⟩ l1
 refine⟨[x],rfl,⟨hx.one,trivial⟩,?_⟩
 have hlen:(sV cs b p).length≤1000000:=kX hv p
 have hx:Sl H1 1 x (aE (sV cs b p)):=hx
 generalize sV cs b p=l at hx hlen
 have xlen:ak .len [x]=some (iV l.length):=by have:=hx.len;rwa [aE,List.length_map] at this
 refine ab _ xlen ?_
 refine de l.length (fun i y H' O'=>Heap.le H1 H'∧OSl aA 2 y (bO (tgs (l.take i))) O') ⟨Heap.le_refl _,OSl.nil _ _⟩ ?_
 rintro i y H' O' hi - ⟨hle,hy⟩
 refine ab _ (aB _ _) (ai (fun hb=>?_) (fun hb=>?_))
 ·have hlt:i < l.length:=by simpa using hb
  obtain⟨a,h1,h2,h3,h4⟩:=(hx.le hle).idx (k:=.i64) (i:=i) (r:=[iV l[i]]) (by simp[aE,hlt])
  refine ab _ h1 (cG h2 h3 h4 (af fun r1=>?_))
  refine aC (rows:=bO (tgs (l.take i))) (news:=[qB l[i]]) (O1:=O') (O2:=[]) (e:=aA) (size:=2) (bytes:=16) (by kernel_rfl) (by simp) hy (fun Hf _ hf=>Sl.block1 (hf _ List.mem_cons_self) rfl ⟨rfl,rfl,trivial⟩) (by rw[bf,ix,List.length_take,List.length_singleton];omega) (by rw[bf,ix,List.length_take,List.length_singleton];omega) ?_
  intro v' A' H6 l6 hA'
  refine ab _ (az (by omega)) (aS (by simp[Eqs]) hlt ⟨Heap.le_trans hle l6,?_⟩)
  have e:bO (tgs (l.take (i + 1)))=bO (tgs (l.take i))++[qB l[i]]:=by
   rw[gK,gK,List.take_add_one,List.getElem?_eq_getElem hlt,List.map_append];rfl
  rw[List.append_nil,e];exact hA'
 ·have hge:l.length≤i:=by simpa using hb
  rw[List.take_of_length_le hge] at hy
  exact ah hy
theorem KC {H:Heap} {cv:Value} {cs:List Cd} (hk:CardsS H cv cs) {v:cn} {b:Bd} (h:BdS H v b) (hv:an b=true) {p:Int} (hp:p=0∨p=1) :
  Triple PP dY [cv,.agg (al v b).toArray,iV p,iV 3] H [] fun r _ O'=>OSl aA 2 r (bO (tgs (sV cs b (1 - p)))) O':=by
 refine eC (vs:=cv::(al v b++[iV p,iV 3])) (by kernel_rfl) ⟨hk.one,ax (am (h.r [])) ⟨rfl,rfl,trivial⟩⟩ ?_
 simp only[eW]
 refine af fun r0=>?_
 refine ab _ (ay 3 1) (ai (fun hb=>absurd hb (by decide)) (fun _=>?_))
 refine ab _ (ay 3 3) (ai (fun _=>?_) (fun hb=>absurd hb (by decide)))
 refine aa ?_
 refine ab (iV (1 - p)) (Eu (by omega) (by omega)) ?_
 refine ar (N6 hk h hv (1 - p)) fun x H1 O1 hx l1=>⟨[x],rfl,⟨hx.one,trivial⟩,?_⟩
 exact ah (by rw[List.append_nil];exact hx)
theorem Hy {H:Heap} {cv:Value} {cs:List Cd} (hk:CardsS H cv cs) {v:cn} {b:Bd} (h:BdS H v b) {p:Int} (hp:p=0∨p=1) :
  Triple PP dY [cv,.agg (al v b).toArray,iV p,iV 4] H [] fun r _ O'=>OSl aA 2 r (bO (plT p)) O':=by
 refine eC (vs:=cv::(al v b++[iV p,iV 4])) (by kernel_rfl) ⟨hk.one,ax (am (h.r [])) ⟨rfl,rfl,trivial⟩⟩ ?_
 simp only[eW]
 refine af fun r0=>?_
 refine ab _ (ay 4 1) (ai (fun hb=>absurd hb (by decide)) (fun _=>?_))
 refine ab _ (ay 4 3) (ai (fun hb=>absurd hb (by decide)) (fun _=>?_))
 refine ab _ (ay 4 2) (ai (fun hb=>absurd hb (by decide)) (fun _=>?_))
 refine ab _ (ay 4 4) (ai (fun _=>?_) (fun hb=>absurd hb (by decide)))
 refine ab (iV (1 - p)) (Eu (by omega) (by omega)) (af fun r2=>?_)
 exact fun _=>⟨H,_,Ghost.refl _ _,.inr ⟨r2,[iV 0,iV (1 - p),iV 0,iV p],2,rfl,rfl,rfl,by simp[bO,plT],by omega,by simp[bO,plT,Tg.row],by simp[bO,plT,Tg.row,Ones,Value.oneCell'],rfl⟩⟩
theorem BQ {H:Heap} {cv:Value} {cs:List Cd} (hk:CardsS H cv cs) {v:cn} {b:Bd} (h:BdS H v b) (hv:an b=true) {p:Int} (hp:p=0∨p=1) :
  Triple PP dY [cv,.agg (al v b).toArray,iV p,iV 1] H [] fun r _ O'=>OSl aA 2 r (bO (tgs (yu cs b p))) O':=by
 refine eC (vs:=cv::(al v b++[iV p,iV 1])) (by kernel_rfl) ⟨hk.one,ax (am (h.r [])) ⟨rfl,rfl,trivial⟩⟩ ?_
 simp only[eW]
 have b1:(sV cs b p).length≤1000000:=kX hv p
 have b2:(sV cs b (1 - p)).length≤1000000:=kX hv (1 - p)
 refine af fun r0=>?_
 refine ab _ (ay 1 1) (ai (fun _=>?_) (fun hb=>absurd hb (by decide)))
 refine aa (aa ?_)
 refine ar (N6 hk h hv p) fun x H1 O1 hx l1=>⟨[x],rfl,⟨hx.one,trivial⟩,?_⟩
 refine ar (Triple.frozenS (KC (hk.le l1) (h.le l1) hv hp)) ?_
 rintro y H2 _ ⟨hy,rfl⟩ l2
 refine⟨[y],rfl,⟨hy.one,trivial⟩,?_⟩
 refine aC (rows:=bO (tgs (sV cs b p))) (news:=bO (tgs (sV cs b (1 - p)))) (O1:=O1) (O2:=[]) (e:=aA) (size:=2) (bytes:=16) (by kernel_rfl) (by simp) hx (fun Hf lf _=>hy.le lf) (by rw[bf,ix,bf,ix];omega) (by rw[bf,ix,bf,ix];omega) ?_
 intro z A' H3 l3 hz
 have e:bO (tgs (sV cs b p))++bO (tgs (sV cs b (1 - p)))=(sV cs b p++sV cs b (1 - p)).map qB:=by rw[gK,gK,List.map_append]
 rw[e] at hz
 refine qE (O1:=A') (O2:=[]) (by simp) (V8 hz (NJ hv p) (by rw[List.length_append];omega)) ?_
 rintro _ H4 O4 ⟨rfl,hs⟩ l4
 refine⟨[],rfl,trivial,?_⟩
 exact ah (by rw[List.append_nil,gK];exact hs)
theorem N7 {H:Heap} {cv:Value} {cs:List Cd} (hk:CardsS H cv cs) {v:cn} {b:Bd} (h:BdS H v b) (hv:an b=true) {p:Int} (hp:p=0∨p=1) :
  Triple PP dY [cv,.agg (al v b).toArray,iV p,iV 5] H [] fun r _ O'=>OSl aA 2 r (bO (plT p++tgs (yu cs b p))) O':=by
 refine eC (vs:=cv::(al v b++[iV p,iV 5])) (by kernel_rfl) ⟨hk.one,ax (am (h.r [])) ⟨rfl,rfl,trivial⟩⟩ ?_
 simp only[eW]
 have b1:(yu cs b p).length≤2000000:=by
  have b1:(sV cs b p).length≤1000000:=kX hv p
  have b2:(sV cs b (1 - p)).length≤1000000:=kX hv (1 - p)
  rw[yu,xn,List.length_append];omega
 refine af fun r0=>?_
 refine ab _ (ay 5 1) (ai (fun hb=>absurd hb (by decide)) (fun _=>?_))
 refine ab _ (ay 5 3) (ai (fun hb=>absurd hb (by decide)) (fun _=>?_))
 refine ab _ (ay 5 2) (ai (fun hb=>absurd hb (by decide)) (fun _=>?_))
 refine ab _ (ay 5 4) (ai (fun hb=>absurd hb (by decide)) (fun _=>?_))
 refine ab _ (ay 5 5) (ai (fun _=>?_) (fun hb=>absurd hb (by decide)))
 refine aa (aa ?_)
 refine ar (Hy hk h hp) fun x H1 O1 hx l1=>⟨[x],rfl,⟨hx.one,trivial⟩,?_⟩
 refine ar (Triple.frozenS (BQ (hk.le l1) (h.le l1) hv hp)) ?_
 rintro y H2 _ ⟨hy,rfl⟩ l2
 refine⟨[y],rfl,⟨hy.one,trivial⟩,?_⟩
 refine aC (rows:=bO (plT p)) (news:=bO (tgs (yu cs b p))) (O1:=O1) (O2:=[]) (e:=aA) (size:=2) (bytes:=16) (by kernel_rfl) (by simp) hx (fun Hf lf _=>hy.le lf) (by rw[bf,bf,ix];simp only[plT,List.length_cons,List.length_nil];omega) (by rw[bf,bf,ix];simp only[plT,List.length_cons,List.length_nil];omega) ?_
 intro z A' H3 l3 hz
 exact ah (by rw[List.append_nil,HB];exact hz)
theorem iN {H H':Heap} {O:Own} {p:Value} {m:Nat} {vs:List Value} (h:Reads H O p m vs) (hl:Heap.le H H'):Reads H' O p m vs:=h.imp (fun h=>hl.read h) id
theorem Rb {H:Heap} {cv:Value} {cs:List Cd} (hk:CardsS H cv cs) (hli:dh cs=true) {v:cn} {b:Bd} (h:BdS H v b) (hst:b.stack.length≤1000000) (p:Int) :
  Triple PP dY [cv,.agg (al v b).toArray,iV p,iV 6] H [] fun r _ O'=>OSl aA 2 r (bO (tgs (Gh cs b))) O':=by
 refine eC (vs:=cv::(al v b++[iV p,iV 6])) (by kernel_rfl) ⟨hk.one,ax (am (h.r [])) ⟨rfl,rfl,trivial⟩⟩ ?_
 simp only[eW]
 refine af fun r0=>?_
 refine ab _ (ay 6 1) (ai (fun hb=>absurd hb (by decide)) (fun _=>?_))
 refine ab _ (ay 6 3) (ai (fun hb=>absurd hb (by decide)) (fun _=>?_))
 refine ab _ (ay 6 2) (ai (fun hb=>absurd hb (by decide)) (fun _=>?_))
 refine ab _ (ay 6 4) (ai (fun hb=>absurd hb (by decide)) (fun _=>?_))
 refine ab _ (ay 6 5) (ai (fun hb=>absurd hb (by decide)) (fun _=>?_))
 refine ab _ (ay 6 6) (ai (fun _=>?_) (fun hb=>absurd hb (by decide)))
 have slen:ak .len [v.s]=some (iV b.stack.length):=ItsR.len (h.stack.r [])
 have hsb:b.stack.length≤1000000:=hst
 obtain⟨rows,hrs,hrl,hit⟩:=h.stack
 refine aa ?_
 refine ab _ slen ?_
 refine ab (iV ((b.stack.length:Int) - 1)) (Eu (by omega) (by omega)) ?_
 refine LK b.stack.length (fun i y H' O'=>Heap.le H H'∧OSl aA 2 y (bO (tgs (((b.stack.reverse.take i).filter (nF cs)).map (fun x:It=>x.id)))) O') ⟨Heap.le_refl _,OSl.nil _ _⟩ ?_
 rintro i y H' O' hi - ⟨hle,hy⟩
 refine ab _ (cI _ _) (ai (fun hb=>?_) (fun hb=>?_))
 ·have hlt:i < b.stack.length:=by have:=of_decide_eq_true hb;omega
  obtain⟨j,hjl,hj,hrv⟩:∃ (j:Nat) (hjl:j < b.stack.length),(j:Int)=(b.stack.length:Int) - 1 - i∧b.stack.reverse[i]'(by simpa using hlt)=b.stack[j]:=⟨b.stack.length - 1 - i,by omega,by omega,OF hlt⟩
  have hft:=fK (p:=nF cs) (l:=b.stack.reverse) (i:=i) (by simpa using hlt)
  rw[hrv] at hft
  obtain⟨a,k1,k2,k3,k4,k5⟩:=((hrs.le hle).rsl O').idx .i64 j (rows[j]'(by omega)) (by simp[hrl,hjl])
  obtain⟨s,hrow,hs⟩:=hit j (rows[j]'(by omega)) b.stack[j] (by simp[hrl,hjl]) (by simp[hjl])
  have hR:ItR H' [] [iV b.stack[j].player,iV b.stack[j].id,iV b.stack[j].card,iV b.stack[j].trig,s] b.stack[j]:=⟨s,rfl,(hs.le hle).rsl []⟩
  rw[hrow] at k2 k3 k4 k5
  rw[hj] at k1
  have k6:=k3 1 1 (by omega)
  refine aa ?_
  refine ab _ k1 (ap k2 k4 k5 ?_)
  refine I6 (U3 (hk.le hle) hli hR) rfl ⟨rfl,trivial⟩ fun H2 l2=>ai (fun hc=>?_) (fun hc=>?_)
  ·have hc:nF cs b.stack[j]=true:=hc
   have hlen:((b.stack.reverse.take i).filter (nF cs)).length≤1000000:=Nat.le_trans (List.length_filter_le _ _) (by rw[List.length_take,List.length_reverse];omega)
   refine aa ?_
   refine ab _ k1 ?_
   refine aw rfl ?_
   refine ap (iN k6 l2) rfl ⟨rfl,trivial⟩ (af fun r3=>?_)
   refine aC (rows:=bO (tgs (((b.stack.reverse.take i).filter (nF cs)).map (fun x:It=>x.id)))) (news:=[qB b.stack[j].id]) (O1:=O') (O2:=[]) (e:=aA) (size:=2) (bytes:=16) (by kernel_rfl) (by simp) hy (fun Hf _ hf=>Sl.block1 (hf _ List.mem_cons_self) rfl ⟨rfl,rfl,trivial⟩) (by rw[bf,ix,List.length_map,List.length_singleton];omega) (by rw[bf,ix,List.length_map,List.length_singleton];omega) ?_
   intro v' A' H6 l6 hA'
   refine ab _ (Eu (by omega) (by omega)) (yf (by simp[Eqs]) hlt ⟨Heap.le_trans hle (Heap.le_trans l2 l6),?_⟩)
   have e:bO (tgs (((b.stack.reverse.take (i + 1)).filter (nF cs)).map (fun x:It=>x.id)))=bO (tgs (((b.stack.reverse.take i).filter (nF cs)).map (fun x:It=>x.id)))++[qB b.stack[j].id]:=by
    rw[gK,gK,hft,if_pos hc,List.map_append,List.map_append];rfl
   rw[List.append_nil,e];exact hA'
  ·have hc:nF cs b.stack[j]=false:=hc
   refine ab _ (Eu (by omega) (by omega)) (yf (by simp[Eqs]) hlt ⟨Heap.le_trans hle l2,?_⟩)
   rw[hft,if_neg (by rw[hc];simp),List.append_nil];exact hy
 ·have hge:b.stack.length≤i:=by have:=of_decide_eq_false hb;omega
  rw[List.take_of_length_le (by rw[List.length_reverse];exact hge)] at hy
  exact ah hy
theorem TY {H:Heap} {cv:Value} {cs:List Cd} (hk:CardsS H cv cs) {v:cn} {b:Bd} (h:BdS H v b) (p:Int) {k:Int} (h1:k ≠ 1) (h2:k ≠ 2) (h3:k ≠ 3) (h4:k ≠ 4) (h5:k ≠ 5) (h6:k ≠ 6) :
  Triple PP dY [cv,.agg (al v b).toArray,iV p,iV k] H [] fun r _ O'=>OSl aA 2 r [] O':=by
 refine eC (vs:=cv::(al v b++[iV p,iV k])) (by kernel_rfl) ⟨hk.one,ax (am (h.r [])) ⟨rfl,rfl,trivial⟩⟩ ?_
 simp only[eW]
 refine af fun r0=>?_
 refine ab _ (ay k 1) (ai (fun hb=>absurd (by simpa using hb) h1) (fun _=>?_))
 refine ab _ (ay k 3) (ai (fun hb=>absurd (by simpa using hb) h3) (fun _=>?_))
 refine ab _ (ay k 2) (ai (fun hb=>absurd (by simpa using hb) h2) (fun _=>?_))
 refine ab _ (ay k 4) (ai (fun hb=>absurd (by simpa using hb) h4) (fun _=>?_))
 refine ab _ (ay k 5) (ai (fun hb=>absurd (by simpa using hb) h5) (fun _=>?_))
 refine ab _ (ay k 6) (ai (fun hb=>absurd (by simpa using hb) h6) (fun _=>?_))
 exact ah (OSl.nil _ _)
theorem U2 {H:Heap} {cv:Value} {cs:List Cd} (hk:CardsS H cv cs) (hli:dh cs=true) {v:cn} {b:Bd} (h:BdS H v b) (hst:b.stack.length≤1000000) (hv:an b=true) {p:Int} (hp:p=0∨p=1) (k:Int) :
  Triple PP dY [cv,.agg (al v b).toArray,iV p,iV k] H [] fun r _ O'=>OSl aA 2 r (bO (GF cs b p k)) O':=by
 rw[GF]
 by_cases h1:k=1
 ·rw[if_pos h1];subst h1;exact BQ hk h hv hp
 rw[if_neg h1]
 by_cases h3:k=3
 ·rw[if_pos h3];subst h3;exact KC hk h hv hp
 rw[if_neg h3]
 by_cases h2:k=2
 ·rw[if_pos h2];subst h2;exact N6 hk h hv p
 rw[if_neg h2]
 by_cases h4:k=4
 ·rw[if_pos h4];subst h4;exact Hy hk h hp
 rw[if_neg h4]
 by_cases h5:k=5
 ·rw[if_pos h5];subst h5;exact N7 hk h hv hp
 rw[if_neg h5]
 by_cases h6:k=6
 ·rw[if_pos h6];subst h6;exact Rb hk hli h hst p
 rw[if_neg h6]
 exact TY hk h p h1 h2 h3 h4 h5 h6
def zQ (cs:List Cd) (b:Bd) (p k:Int):List Tg:=if (au p 0 1 && an b)=true then GF cs b p k else []
theorem Ei {cs:List Cd} {b:Bd} {p k:Int} (h:(au p 0 1 && an b)=false):zQ cs b p k=[]:=by rw[zQ,h];rfl
theorem uW (p:Int):(decide (p < 0) || decide (p > 1))=!au p 0 1:=by
 rw[au,Bool.eq_iff_iff];simp
theorem Ve {H:Heap} {cv:Value} {cs:List Cd} (hk:CardsS H cv cs) (hli:dh cs=true) {v:cn} {b:Bd} (h:BdS H v b) (hst:b.stack.length≤1000000) (p k:Int) :
  Triple PP yO [cv,.agg (al v b).toArray,iV p,iV k] H [] fun r H' O'=>Sl H' 2 r (bO (zQ cs b p k))∧O'=[]:=by
 refine Triple.frozenS (e:=aA) ?_
 refine BY (vs:=cv::(al v b++[iV p,iV k])) (by kernel_rfl) ⟨hk.one,ax (am (h.r [])) ⟨rfl,rfl,trivial⟩⟩ ?_
 simp only[yy]
 refine af fun r0=>?_
 refine ab _ (aB _ _) (ae (ab _ (aB _ _) (ae (ab _ (aR _ _) ?_))))
 refine ai (fun hb=>?_) (fun hb=>?_)
 ·have hb:(decide (p < 0) || decide (p > 1))=true:=hb
  rw[uW] at hb
  rw[Ei (by rw[show au p 0 1=false from u6 hb,Bool.false_and])]
  exact ah (OSl.nil _ _)
 ·have hb:(decide (p < 0) || decide (p > 1))=false:=hb
  rw[uW] at hb
  have hw:au p 0 1=true:=sR hb
  have hp:p=0∨p=1:=by simp only[au,decide_eq_true_eq] at hw;omega
  refine aa ?_
  refine aj (dq (h.r [])) rfl ⟨rfl,trivial⟩ fun H2 l2=>ab _ (aJ _) (ai (fun hc=>?_) (fun hc=>?_))
  ·rw[Ei (by rw[show an b=false from u6 hc,Bool.and_false])]
   exact ah (OSl.nil _ _)
  ·have hv:an b=true:=sR hc
   have e:zQ cs b p k=GF cs b p k:=by rw[zQ,if_pos (by rw[hw,hv];rfl)]
   rw[e]
   refine aa ?_
   refine ar (U2 (hk.le l2) hli (h.le l2) hst hv hp k) fun x H3 O3 hx l3=>⟨[x],rfl,⟨hx.one,trivial⟩,?_⟩
   exact ah (by rw[List.append_nil];exact hx)
theorem CN {H:Heap} {x:Value} {l:List Int} (hx:Sl H 1 x (aE l)) (hlen:l.length≤4000000):Triple PP kG [x] H [] fun r _ O'=>OSl aA 2 r (bO (tgs l)) O':=by
 refine qf (vs:=[x]) (by kernel_rfl) ⟨hx.one,trivial⟩ ?_
 simp only[km]
 have xlen:ak .len [x]=some (iV l.length):=by have:=hx.len;rwa [aE,List.length_map] at this
 refine de l.length (fun i y H' O'=>Heap.le H H'∧OSl aA 2 y (bO (tgs (l.take i))) O') ⟨Heap.le_refl _,OSl.nil _ _⟩ ?_
 rintro i y H' O' hi - ⟨hle,hy⟩
 refine ab _ xlen ?_
 refine ab _ (aB _ _) (ai (fun hb=>?_) (fun hb=>?_))
 ·have hlt:i < l.length:=by simpa using hb
  obtain⟨a,h1,h2,h3,h4⟩:=(hx.le hle).idx (k:=.i64) (i:=i) (r:=[iV l[i]]) (by simp[aE,hlt])
  refine ab _ h1 (cG h2 h3 h4 (af fun r1=>?_))
  refine aC (rows:=bO (tgs (l.take i))) (news:=[qB l[i]]) (O1:=O') (O2:=[]) (e:=aA) (size:=2) (bytes:=16) (by kernel_rfl) (by simp) hy (fun Hf _ hf=>Sl.block1 (hf _ List.mem_cons_self) rfl ⟨rfl,rfl,trivial⟩) (by rw[bf,ix,List.length_take,List.length_singleton];omega) (by rw[bf,ix,List.length_take,List.length_singleton];omega) ?_
  intro v' A' H6 l6 hA'
  refine ab _ (az (by omega)) (aS (by simp[Eqs]) hlt ⟨Heap.le_trans hle l6,?_⟩)
  have e:bO (tgs (l.take (i + 1)))=bO (tgs (l.take i))++[qB l[i]]:=by
   rw[gK,gK,List.take_add_one,List.getElem?_eq_getElem hlt,List.map_append];rfl
  rw[List.append_nil,e];exact hA'
 ·have hge:l.length≤i:=by simpa using hb
  rw[List.take_of_length_le hge] at hy
  exact ah hy
theorem Ov {cs:List Cd} {b:Bd} (hv:an b=true):(b.stack.reverse.filter (nE cs)).map (fun x:It=>x.id)=Gh cs b:=by
 rw[Gh]
 congr 1
 refine List.filter_congr fun x hx=>Rk ?_
 have:=(aM hv).2.2.2
 rw[List.all_eq_true] at this
 exact this x (by simpa using hx)
theorem Sl.block2 {H:Heap} {r:Nat} {a b c d:Value} {T:TypeId} (h:H r=some (.cells [a,b,c,d].toArray T (0,0))) (ho:Ones [a,b,c,d]):Sl H 2 (.slice (some ⟨r,0,none⟩) 2 2) [[a,b],[c,d]]:=by
 refine⟨_,_,rfl,Nat.le_refl _,by simp,fun _=>⟨_,rfl,?_⟩⟩
 have e1:Ones [a,b]:=ho.take 2
 have e2:Ones [c,d]:=ho.drop 2
 intro i x hx
 match i with
 | 0 =>
  obtain rfl:[a,b]=x:=by simpa using hx
  refine⟨?_,rfl,e1⟩
  rw[cL,qp h (by simp)];rfl
 | 1 =>
  obtain rfl:[c,d]=x:=by simpa using hx
  refine⟨?_,rfl,e2⟩
  rw[cL,qp h (by simp)];rfl
 | i + 2=>simp at hx
theorem Um {H:Heap} {cv:Value} {cs:List Cd} (hk:CardsS H cv cs) (hli:dh cs=true) {v:cn} {b:Bd} (h:BdS H v b) (hB:bdB b) (hfit:Jh b) (hst:b.stack.length≤1000000) (p k:Int) :
  Triple PP jb [cv,.agg (al v b).toArray,iV p,iV k] H [] fun r H' O'=>Sl H' 2 r (bO (zQ cs b p k))∧O'=[]:=by
 have hfz:Triple PP jb [cv,.agg (al v b).toArray,iV p,iV k] H [] fun r H' O'=>(OSl aA 2 r (bO (zQ cs b p k)) O')∨(Sl H' 2 r (bO (zQ cs b p k))∧O'=[]):=by
  refine to (vs:=cv::(al v b++[iV p,iV k])) (by kernel_rfl) ⟨hk.one,ax (am (h.r [])) ⟨rfl,rfl,trivial⟩⟩ ?_
  simp only[oc]
  refine af fun r0=>?_
  refine aa ?_
  refine aj (OL (h.r []) hfit) rfl ⟨rfl,trivial⟩ fun H1 l1=>?_
  replace h:=h.le l1
  replace hk:=hk.le l1
  rw[KA]
  refine ab _ (aJ _) (ae (ab _ (aB _ _) (ae (ab _ (aR _ _) (ae (ab _ (aB _ _) (ae (ab _ (aR _ _) ?_))))))))
  refine ai (fun hc=>?_) (fun hc=>?_)
  ·have hc:((!an b || decide (p < 0)) || decide (p > 1))=true:=hc
   rw[Bool.or_assoc,uW] at hc
   rw[Ei (by cases hw:au p 0 1 <;> cases hv:an b <;> simp[hw,hv] at hc ⊢)]
   exact ah (.inl (OSl.nil _ _))
  have hc:((!an b || decide (p < 0)) || decide (p > 1))=false:=hc
  rw[Bool.or_assoc,uW,Bool.or_eq_false_iff] at hc
  have hv:an b=true:=sR hc.1
  have hw:au p 0 1=true:=sR hc.2
  have hp:p=0∨p=1:=by simp only[au,decide_eq_true_eq] at hw;omega
  have hp':1 - p=0∨1 - p=1:=by omega
  have e:zQ cs b p k=GF cs b p k:=by rw[zQ,if_pos (by rw[hw,hv];rfl)]
  rw[e]
  clear e
  have n1:(sV cs b p).length≤1000000:=kX hv p
  have n2:(sV cs b (1 - p)).length≤1000000:=kX hv (1 - p)
  have n3:(yu cs b p).length≤2000000:=by rw[yu,xn,List.length_append];omega
  refine aa (aa ?_)
  refine ab (iV (1 - p)) (Eu (by omega) (by omega)) ?_
  refine ar (CO hk.kinds h hB p hp fun q hq id hid=>?_) ?_
  ·subst hq
   obtain⟨k,o,_,_,_,e4⟩:=wP hv hp hid
   omega
  rintro x H2 _ ⟨hx,rfl⟩ l2
  rw[LM _ hv hp] at hx
  have hx:Sl H2 1 x (aE (sV cs b p)):=hx
  refine⟨[x],rfl,⟨hx.one,trivial⟩,?_⟩
  refine ar (CO (hk.le l2).kinds (h.le l2) hB (1 - p) hp' fun q hq id hid=>?_) ?_
  ·subst hq
   obtain⟨k,o,_,_,_,e4⟩:=wP hv hp' hid
   omega
  rintro y H3 _ ⟨hy,rfl⟩ l3
  rw[LM _ hv hp'] at hy
  have hy:Sl H3 1 y (aE (sV cs b (1 - p))):=hy
  refine⟨[y],rfl,⟨hy.one,trivial⟩,?_⟩
  refine dV (e:=aK) (size:=1) (bytes:=8) (by kernel_rfl) (hx.le l3) (by rw[aE,List.length_map];omega) (by rw[aE,List.length_map];omega) fun xa Oa H4 l4 pa=>?_
  refine aC (rows:=aE (sV cs b p)) (news:=aE (sV cs b (1 - p))) (O1:=Oa) (O2:=[]) (e:=aK) (size:=1) (bytes:=8) (by kernel_rfl) (by simp) pa (fun Hf lf _=>hy.le (Heap.le_trans l4 lf)) (by rw[aE,aE,List.length_map,List.length_map];omega) (by rw[aE,aE,List.length_map,List.length_map];omega) ?_
  intro z A' H5 l5 hz
  have ez:aE (sV cs b p)++aE (sV cs b (1 - p))=aE (sV cs b p++sV cs b (1 - p)):=by rw[aE,aE,aE,List.map_append]
  rw[ez] at hz
  rw[List.append_nil]
  refine wV hz (fun Hf hs=>Gu hs (by rw[List.length_append];omega)) ?_
  rintro s H6 ⟨hs,-⟩ l6
  have hs:Sl H6 1 s (aE (yu cs b p)):=hs
  refine⟨[s],rfl,⟨hs.one,trivial⟩,?_⟩
  refine ar (Triple.frozenS (CN hs (by omega))) ?_
  rintro o H7 _ ⟨ho,rfl⟩ l7
  refine⟨[o],rfl,⟨ho.one,trivial⟩,?_⟩
  refine ab (iV (1 - p)) (Eu (by omega) (by omega)) (af fun r1=>?_)
  have lx:=Heap.le_trans l3 (Heap.le_trans l4 (Heap.le_trans l5 (Heap.le_trans l6 l7)))
  have ly:=Heap.le_trans l4 (Heap.le_trans l5 (Heap.le_trans l6 l7))
  replace h:=h.le (Heap.le_trans l2 lx)
  replace hk:=hk.le (Heap.le_trans l2 lx)
  replace hx:=hx.le lx
  replace hy:=hy.le ly
  have hone:Ones [iV 0,iV (1 - p),iV 0,iV p]:=⟨rfl,rfl,rfl,rfl,trivial⟩
  clear lx ly l1 l2 l3 l4 l5 l6 l7 hs hz pa
  refine ab _ (ay k 1) (ai (fun h1=>?_) (fun h1=>?_))
  ·obtain rfl:k=1:=by simpa using h1
   exact ah (.inr ⟨ho,rfl⟩)
  have h1:k ≠ 1:=by simpa using h1
  refine ab _ (ay k 2) (ai (fun h2=>?_) (fun h2=>?_))
  ·obtain rfl:k=2:=by simpa using h2
   refine ar (CN hx (by omega)) fun o2 H8 O8 ho2 l8=>⟨[o2],rfl,⟨ho2.one,trivial⟩,?_⟩
   exact ah (.inl (show OSl aA 2 o2 (bO (tgs (sV cs b p))) (O8++[]) by rw[List.append_nil];exact ho2))
  have h2:k ≠ 2:=by simpa using h2
  refine ab _ (ay k 3) (ai (fun h3=>?_) (fun h3=>?_))
  ·obtain rfl:k=3:=by simpa using h3
   refine ar (CN hy (by omega)) fun o2 H8 O8 ho2 l8=>⟨[o2],rfl,⟨ho2.one,trivial⟩,?_⟩
   exact ah (.inl (show OSl aA 2 o2 (bO (tgs (sV cs b (1 - p)))) (O8++[]) by rw[List.append_nil];exact ho2))
  have h3:k ≠ 3:=by simpa using h3
  refine ab _ (ay k 4) (ai (fun h4=>?_) (fun h4=>?_))
  ·obtain rfl:k=4:=by simpa using h4
   exact OG fun H' _ hf=>.inr ⟨Sl.block2 (hf _ List.mem_cons_self) hone,rfl⟩
  have h4:k ≠ 4:=by simpa using h4
  refine ab _ (ay k 5) (ai (fun h5=>?_) (fun h5=>?_))
  ·obtain rfl:k=5:=by simpa using h5
   refine jH (ad:=⟨r1,0,none⟩) (rows:=bO (plT p)) (news:=bO (tgs (yu cs b p))) (size:=2) (e:=aA) (by kernel_rfl) (fun Hf _ hf=>Sl.block2 (hf _ List.mem_cons_self) hone) ho (by rw[show jI PP aA=16 by kernel_rfl,bf,bf,ix];simp only[plT,List.length_cons,List.length_nil];omega) (by rw[bf,bf,ix];simp only[plT,List.length_cons,List.length_nil];omega) fun u H8 l8 hu=>?_
   refine ah (.inr ⟨?_,rfl⟩)
   rw[← HB] at hu
   exact hu
  have h5:k ≠ 5:=by simpa using h5
  refine ab _ (ay k 6) (ai (fun h6=>?_) (fun h6=>?_))
  ·obtain rfl:k=6:=by simpa using h6
   have esp:bO (GF cs b p 6)=bO (tgs ((b.stack.reverse.filter (nE cs)).map (fun x:It=>x.id))):=by rw[Ov hv];rfl
   rw[esp]
   have slen:ak .len [v.s]=some (iV b.stack.length):=ItsR.len (h.stack.r [])
   have hsb:b.stack.length≤1000000:=hst
   obtain⟨rows,hrs,hrl,hit⟩:=h.stack
   refine aa ?_
   refine ab _ slen ?_
   refine ab (iV ((b.stack.length:Int) - 1)) (Eu (by omega) (by omega)) ?_
   refine LK b.stack.length (fun i y H' O'=>Heap.le H7 H'∧OSl aA 2 y (bO (tgs (((b.stack.reverse.take i).filter (nE cs)).map (fun x:It=>x.id)))) O') ⟨Heap.le_refl _,OSl.nil _ _⟩ ?_
   rintro i y H' O' hi - ⟨hle,hy⟩
   refine ab _ (cI _ _) (ai (fun hb=>?_) (fun hb=>?_))
   ·have hlt:i < b.stack.length:=by have:=of_decide_eq_true hb;omega
    obtain⟨j,hjl,hj,hrv⟩:∃ (j:Nat) (hjl:j < b.stack.length),(j:Int)=(b.stack.length:Int) - 1 - i∧b.stack.reverse[i]'(by simpa using hlt)=b.stack[j]:=⟨b.stack.length - 1 - i,by omega,by omega,OF hlt⟩
    have hft:=fK (p:=nE cs) (l:=b.stack.reverse) (i:=i) (by simpa using hlt)
    rw[hrv] at hft
    obtain⟨a,k1,k2,k3,k4,k5⟩:=((hrs.le hle).rsl O').idx .i64 j (rows[j]'(by omega)) (by simp[hrl,hjl])
    obtain⟨s,hrow,hs⟩:=hit j (rows[j]'(by omega)) b.stack[j] (by simp[hrl,hjl]) (by simp[hjl])
    have hR:ItR H' [] [iV b.stack[j].player,iV b.stack[j].id,iV b.stack[j].card,iV b.stack[j].trig,s] b.stack[j]:=⟨s,rfl,(hs.le hle).rsl []⟩
    rw[hrow] at k2 k3 k4 k5
    rw[hj] at k1
    have k6:=k3 1 1 (by omega)
    refine aa ?_
    refine ab _ k1 (ap k2 k4 k5 ?_)
    refine I6 (Un (hk.le hle) hli hR) rfl ⟨rfl,trivial⟩ fun H2 l2=>ai (fun hc=>?_) (fun hc=>?_)
    ·have hc:nE cs b.stack[j]=true:=hc
     have hlen:((b.stack.reverse.take i).filter (nE cs)).length≤1000000:=Nat.le_trans (List.length_filter_le _ _) (by rw[List.length_take,List.length_reverse];omega)
     refine aa ?_
     refine ab _ k1 ?_
     refine aw rfl ?_
     refine ap (iN k6 l2) rfl ⟨rfl,trivial⟩ (af fun r3=>?_)
     refine aC (rows:=bO (tgs (((b.stack.reverse.take i).filter (nE cs)).map (fun x:It=>x.id)))) (news:=[qB b.stack[j].id]) (O1:=O') (O2:=[]) (e:=aA) (size:=2) (bytes:=16) (by kernel_rfl) (by simp) hy (fun Hf _ hf=>Sl.block1 (hf _ List.mem_cons_self) rfl ⟨rfl,rfl,trivial⟩) (by rw[bf,ix,List.length_map,List.length_singleton];omega) (by rw[bf,ix,List.length_map,List.length_singleton];omega) ?_
     intro v' A' H6 l6 hA'
     refine ab _ (Eu (by omega) (by omega)) (yf (by simp[Eqs]) hlt ⟨Heap.le_trans hle (Heap.le_trans l2 l6),?_⟩)
     have e:bO (tgs (((b.stack.reverse.take (i + 1)).filter (nE cs)).map (fun x:It=>x.id)))=bO (tgs (((b.stack.reverse.take i).filter (nE cs)).map (fun x:It=>x.id)))++[qB b.stack[j].id]:=by
      rw[gK,gK,hft,if_pos hc,List.map_append,List.map_append];rfl
     rw[List.append_nil,e];exact hA'
    ·have hc:nE cs b.stack[j]=false:=hc
     refine ab _ (Eu (by omega) (by omega)) (yf (by simp[Eqs]) hlt ⟨Heap.le_trans hle l2,?_⟩)
     rw[hft,if_neg (by rw[hc];simp),List.append_nil];exact hy
   ·have hge:b.stack.length≤i:=by have:=of_decide_eq_false hb;omega
    rw[List.take_of_length_le (by rw[List.length_reverse];exact hge)] at hy
    exact ah (.inl hy)
  have h6:k ≠ 6:=by simpa using h6
  have en:GF cs b p k=[]:=by rw[GF,if_neg h1,if_neg h3,if_neg h2,if_neg h4,if_neg h5,if_neg h6]
  rw[en]
  exact ah (.inl (OSl.nil _ _))
 refine hfz.ghost ?_
 rintro r H' O' _ hc (ho | ⟨ho,rfl⟩)
 ·obtain⟨H2,g,hs,_⟩:=ho.freeze (X:=[]) (by simpa using hc)
  exact⟨H2,[],by simpa using g,hs,rfl⟩
 ·exact⟨H',[],Ghost.refl _ _,ho,rfl⟩
end Go.Proofs.YtdhobpmnkfmcfaaGreatDoor
