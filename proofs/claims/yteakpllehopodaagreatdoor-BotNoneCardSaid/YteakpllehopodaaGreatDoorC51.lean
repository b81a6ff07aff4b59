/- Legal targets; light cards; lists that are equal. -/
import Derived.Test.YteakpllehopodaaGreatDoorC48
import Derived.Test.YteakpllehopodaaGreatDoorKT
import Derived.Test.YteakpllehopodaaGreatDoorSHA
import Derived.Test.YteakpllehopodaaGreatDoorM
import Derived.Laws.IdiomCopy
import Derived.Test.YteakpllehopodaaGreatDoorKN2
namespace Go.Proofs.YteakpllehopodaaGreatDoor
open Go Go.Sx
set_option maxRecDepth 100000
set_option maxHeartbeats 1000000
theorem NG {P:Program} {f:FuncId} {args:List Value} {H:Heap} {O:Go.Sx.Own} {frz:List BV} {r:Value} {shp:Shp} {vs:List Value} {K:List Value→List (List Value)→Heap→Go.Sx.Own→Prop}
  (h:∀ Hf,Heap.le H Hf→(∀ b ∈ frz,Hf b.r=some b.obj.2)→RetO P f args Hf [] r) (ho:shp.open r=some vs) (h1:Ones vs) (hk:∀ H',Heap.le H H'→K vs [] H' O) :
  dc (fun H1 O1 R=>Triple P f args H1 O1 R) false frz [] shp K H O:=by
 intro hc
 have hf:=fg hc
 refine⟨H.insAll frz,[],O,_,Ghost.refl _ _,h _ (Heap.le_insAll frz H) hf,?_⟩
 rintro v H' O' ⟨rfl,rfl⟩ hle
 exact⟨vs,[],[],ho,h1,trivial,rfl,hk _ (Heap.le_trans (Heap.le_insAll frz H) hle)⟩
theorem Tz {H:Heap} {v:Value} {tg:List Int} (h:EffsS H v tg) (hb:tg.length≤1000000):Triple PP rP [v] H [] fun r _ O'=>OSl iR 1 r (aJ (fF tg)) O':=by
 refine xF (vs:=[v]) (by kernel_rfl) ⟨h.one,trivial⟩ ?_
 simp only[rq]
 refine ab _ h.len ?_
 refine eE tg.length (fun i x H' O'=>Heap.le H H'∧OSl iR 1 x (aJ (fF (tg.take i))) O') ⟨Heap.le_refl _,OSl.nil _ _⟩ ?_
 rintro i x H' O' hi - ⟨hle,hx⟩
 refine ab _ (aG _ _) (aj (fun hb=>?_) (fun hb=>?_))
 ·have hlt:i < tg.length:=by simpa using hb
  obtain⟨a,r,k1,k2,k3,k4,k5,_⟩:=NA (O:=O') (h.le hle) hlt
  have hft:=sO (p:=fun t:Int=>t != 0) hlt
  refine ab _ k1 (aA (gX k2) k3 k4 (ah fun r0=>?_))
  refine ae (ae ?_)
  rw[k5]
  refine ab _ (fx _ _) ?_
  refine aj (fun hc=>?_) (fun hc=>?_)
  ·have hc:(tg[i] != 0)=true:=hc
   have hlen:(fF (tg.take i)).length≤1000000:=by rw[fF];exact Nat.le_trans (List.length_filter_le _ _) (by rw[List.length_take];omega)
   refine ae ?_
   refine ah fun r2=>?_
   refine aH (rows:=aJ (fF (tg.take i))) (news:=[[iV tg[i]]]) (O1:=O') (O2:=[]) (e:=iR) (size:=1) (bytes:=8) (by kernel_rfl) (by simp) hx (fun Hf _ hf=>Sl.block1 (hf _ List.mem_cons_self) rfl ⟨rfl,trivial⟩) (by rw[aJ,List.length_map,List.length_singleton];omega) (by rw[aJ,List.length_map,List.length_singleton];omega) ?_
   intro v' A' H6 l6 hA'
   refine ab _ (aD (by omega)) (aV (by simp[Eqs]) hlt ⟨Heap.le_trans hle l6,?_⟩)
   rw[List.append_nil,fF,hft,if_pos hc,aJ,List.map_append];exact hA'
  ·have hc:(tg[i] != 0)=false:=hc
   refine ab _ (aD (by omega)) (aV (by simp[Eqs]) hlt ⟨hle,?_⟩)
   rw[fF,hft,if_neg (by rw[hc];simp),List.append_nil];exact hx
 ·have hge:tg.length≤i:=by simpa using hb
  rw[List.take_of_length_le hge] at hx
  exact af hx
theorem EH {H:Heap} {O:Go.Sx.Own} {v fv:Value} {l:List Int} {p:Int→Bool} (h:Sl H 1 v (aJ l)) {f:FuncId} {caps:Array Value} (hf:fv=.func (.func f) #[] caps) (hok:mc PP f)
  (hp:∀ H',Heap.le H H'→∀ k,RetO PP f ([iV k]++caps.toList) H' O (.bool (p k))):RetO PP bz [v,fv] H O (iV (mJ p l 0)):=by
 subst hf
 have hlen:al .len [v]=some (iV l.length):=by have:=h.len;rwa [aJ,List.length_map] at this
 have hlB:=h.lenB
 rw[aJ,List.length_map] at hlB
 refine dJ (vs:=[v,.func (.func f) #[] caps]) (by kernel_rfl) ⟨h.one,rfl,trivial⟩ ?_
 simp only[bw]
 refine ab _ hlen ?_
 refine aY l.length (fun i H' O'=>O'=O∧Heap.le H H'∧mJ p l 0=mJ p (l.drop i) i) ⟨rfl,Heap.le_refl H,by simp⟩ ?_
 rintro i H' O' hi - ⟨rfl,hle,hor⟩
 refine ab _ (aG _ _) (aj (fun hb=>?_) (fun hb=>?_))
 ·have hlt:i < l.length:=by simpa using hb
  obtain⟨a,h1,h2,h3,h4⟩:=(h.le hle).idx (k:=.i64) (i:=i) (r:=[iV l[i]]) (by simp[aJ,hlt])
  refine ab _ h1 (nH h2 h3 h4 ?_)
  refine dU rfl hok (hp H' hle l[i]) rfl ⟨rfl,trivial⟩ fun H2 hle2=>aj (fun hb=>?_) (fun hb=>?_)
  ·refine af ⟨?_,rfl⟩
   rw[hor,List.drop_eq_getElem_cons hlt,mJ,if_pos hb];rfl
  ·refine ab _ (aD (by omega)) (aN (by simp[Eqs,E]) hlt ⟨rfl,Heap.le_trans hle hle2,?_⟩)
   rw[hor,List.drop_eq_getElem_cons hlt,mJ,if_neg (by rw[hb];simp)];rfl
 ·have hge:l.length≤i:=by simpa using hb
  refine af ⟨?_,rfl⟩
  rw[hor,List.drop_of_length_le hge];rfl
theorem yd {H:Heap} {O:Go.Sx.Own} {v fv:Value} {l:List Int} {p:Int→Bool} (h:Sl H 1 v (aJ l)) {f:FuncId} {caps:Array Value} (hf:fv=.func (.func f) #[] caps) (hok:mc PP f)
  (hp:∀ H',Heap.le H H'→∀ k,RetO PP f ([iV k]++caps.toList) H' O (.bool (p k))):RetO PP bg [v,fv] H O (.bool (l.any p)):=by
 have hone:fv.oneCell'=true:=by subst hf;rfl
 refine de (vs:=[v,fv]) (by kernel_rfl) ⟨h.one,hone,trivial⟩ ?_
 simp only[be]
 refine am (EH h hf hok hp) rfl ⟨rfl,trivial⟩ fun H1 _=>ab _ (eC _ _) (af ⟨?_,rfl⟩)
 rw[← vw p l 0 (by omega)]
theorem TG {H:Heap} {cv:Value} {cs:List Cd} (hk:CardsS H cv cs) (hli:zq cs=true) {v:cI} {b:Bd} (h:BdS H v b) (hst:b.stack.length≤1000000) (hv:aE b=true) {p:Int} (hp:p=0∨p=1) (k:Int)
  {r0 r1 r2:Nat} {T0 T1 T2:TypeId} {O:Go.Sx.Own} (b0:(r0,Obj.cells [cv].toArray T0 (0,0)) ∈ O) (b1:(r1,Obj.cells (ao v b).toArray T1 (0,0)) ∈ O) (b2:(r2,Obj.cells [iV p].toArray T2 (0,0)) ∈ O) :
  RetO PP rQ [iV k,.pointer (some ⟨r0,0,none⟩),.pointer (some ⟨r1,0,none⟩),.pointer (some ⟨r2,0,none⟩)] H O (.bool (((Kt cs b p k).length:Int) == 0)):=by
 refine xG (vs:=[iV k,.pointer (some ⟨r0,0,none⟩),.pointer (some ⟨r1,0,none⟩),.pointer (some ⟨r2,0,none⟩)]) (by kernel_rfl) ⟨rfl,rfl,rfl,rfl,trivial⟩ ?_
 simp only[ru]
 have q0:Reads H O (.pointer (some ⟨r0,0,none⟩)) 1 [cv]:=.inr ⟨⟨r0,0,none⟩,_,_,rfl,rfl,b0,rfl,rfl⟩
 have q1:Reads H O (.pointer (some ⟨r1,0,none⟩)) 38 (ao v b):=.inr ⟨⟨r1,0,none⟩,_,_,rfl,rfl,b1,rfl,rfl⟩
 have q2:Reads H O (.pointer (some ⟨r2,0,none⟩)) 1 [iV p]:=.inr ⟨⟨r2,0,none⟩,_,_,rfl,rfl,b2,rfl,rfl⟩
 refine aA q0 rfl ⟨hk.one,trivial⟩ ?_
 refine aA q1 rfl (ap (h.r [])) ?_
 refine aA q2 rfl ⟨rfl,trivial⟩ ?_
 refine az (SU hk hli h hst hv hp k) fun x H1 O1 hx l1=>⟨[x],rfl,⟨hx.one,trivial⟩,?_⟩
 have xlen:al .len [x]=some (iV (Kt cs b p k).length):=by have:=hx.len;rwa [eu] at this
 refine ab _ xlen ?_
 exact ab _ (aw _ _) (oh (X:=O1) (Ox:=O) (List.Perm.refl _) ⟨rfl,rfl⟩)
def TX (cs:List Cd) (b:Bd) (p:Int) (tg:List Int):Bool:=(ay p 0 1 && aE b) && !((fF tg).any fun k=>((Kt cs b p k).length:Int) == 0)
theorem VP {H:Heap} {cv:Value} {cs:List Cd} (hk:CardsS H cv cs) (hli:zq cs=true) {v:cI} {b:Bd} (h:BdS H v b) (hst:b.stack.length≤1000000) (p:Int) {ev:Value} {tg:List Int} (he:EffsS H ev tg) (heb:tg.length≤1000000) :
  RetO PP xf [cv,.agg (ao v b).toArray,iV p,ev] H [] (.bool (TX cs b p tg)):=by
 refine AS (vs:=cv::(ao v b++[iV p,ev])) (by kernel_rfl) ⟨hk.one,aK (ap (h.r [])) ⟨rfl,he.one,trivial⟩⟩ ?_
 simp only[wG]
 refine ah fun r0=>ah fun r1=>ah fun r2=>?_
 refine ae (ab _ (aG _ _) (ae (ai (ab _ (aG _ _) (ai (ab _ (aO _ _) ?_))))))
 refine aj (fun hb=>?_) (fun hb=>?_)
 ·have hb:(decide (p < 0) || decide (p > 1))=true:=hb
  rw[IQ] at hb
  exact af ⟨by rw[TX,show ay p 0 1=false from Br hb];rfl,rfl⟩
 have hb:(decide (p < 0) || decide (p > 1))=false:=hb
 rw[IQ] at hb
 have hw:ay p 0 1=true:=yk hb
 have hp:p=0∨p=1:=by simp only[ay,decide_eq_true_eq] at hw;omega
 refine ae ?_
 refine am (bE (h.r [])) rfl ⟨rfl,trivial⟩ fun H2 l2=>ab _ (aC _) (aj (fun hc=>?_) (fun hc=>?_))
 ·exact af ⟨by rw[TX,show aE b=false from Br hc,Bool.and_false];rfl,rfl⟩
 have hv:aE b=true:=yk hc
 replace h:=h.le l2
 replace hk:=hk.le l2
 refine az (Triple.frozenS (Tz (he.le l2) heb)) ?_
 rintro x H3 _ ⟨hx,rfl⟩ l3
 refine⟨[x],rfl,⟨hx.one,trivial⟩,?_⟩
 replace h:=h.le l3
 replace hk:=hk.le l3
 refine gv (O1:=[]) (O2:=[]) (own:=[⟨r0,24,[cv]⟩,⟨r1,43,ao v b⟩,⟨r2,3,[iV p]⟩]) (R:=fun v _ O3=>v=.bool ((fF tg).any fun k=>((Kt cs b p k).length:Int) == 0)∧O3=[]) (List.Perm.refl _) ?_ ⟨rfl,⟨hk.one,trivial⟩,rfl,ap (h.r []),rfl,⟨rfl,trivial⟩,trivial⟩ ?_
 ·refine Triple.mono (yd hx rfl (dE fc (by kernel_rfl)) fun H' l' k=>TG (hk.le l') hli (h.le l') hst hv hp k (T0:=24) (T1:=43) (T2:=3) List.mem_cons_self (List.mem_cons_of_mem _ List.mem_cons_self) (List.mem_cons_of_mem _ (List.mem_cons_of_mem _ List.mem_cons_self))) ?_
  rintro v H' O' _ ⟨rfl,rfl⟩
  exact⟨[],rfl,rfl,rfl⟩
 rintro _ H4 _ ⟨rfl,rfl⟩ l4
 refine⟨_,rfl,⟨rfl,trivial⟩,?_⟩
 exact ab _ (aC _) (af ⟨by rw[TX,hw,hv];rfl,rfl⟩)
def smT (l:List (Int × List Eff)):Prop:=l.length≤2∧∀ t ∈ l,t.2.length≤2
theorem Iq {H:Heap} {v:Value} {l:List (Int × List Eff)} (h:TrsF H v l):Triple PP qy [v] H [] fun x _ O'=>(∃ b,x=.bool b∧(b=true→smT l))∧O'=[]:=by
 obtain⟨hl,h1,hB⟩:=h.len
 obtain⟨rows,hs,hlen,hr⟩:=h
 refine vd (vs:=[v]) (by kernel_rfl) ⟨h1,trivial⟩ ?_
 simp only[qg]
 refine ab _ hl ?_
 refine aY l.length (fun i H' O'=>O'=[]∧Heap.le H H'∧∀ t ∈ l.take i,t.2.length≤2) ⟨rfl,Heap.le_refl _,by simp⟩ ?_
 rintro i H1 O1 hi - ⟨rfl,l1,hT⟩
 refine ab _ (aG _ _) (aj (fun hb=>?_) (fun hb=>?_))
 ·have hlt:i < l.length:=by simpa using hb
  obtain⟨a,k1,k2,_,k3,k4⟩:=((hs.le l1).rsl []).idx .i64 i rows[i] (by simp[hlen,hlt])
  obtain⟨s,e,hse⟩:=hr i rows[i] l[i] (by simp[hlen,hlt]) (by simp[hlt])
  rw[e] at k2 k3 k4
  refine ab _ k1 (aA k2 k3 k4 (ah fun r0=>?_))
  refine ae (ae ?_)
  refine am (ky l[i].1 1 3 _ _) rfl ⟨rfl,trivial⟩ fun H2 l2=>?_
  refine ab _ (aC _) (aj (fun hd=>?_) (fun hd=>?_))
  ·exact af ⟨⟨false,rfl,fun e=>by cases e⟩,rfl⟩
  have hs2:=hse.le (Heap.le_trans l1 l2)
  obtain⟨e1,e2⟩:=tY hs2
  refine ae ?_
  refine ab _ e1 ?_
  refine am (ky l[i].2.length 1 2 _ _) rfl ⟨rfl,trivial⟩ fun H3 l3=>?_
  refine ab _ (aC _) (aj (fun hd=>?_) (fun hd=>?_))
  ·exact af ⟨⟨false,rfl,fun e=>by cases e⟩,rfl⟩
  have h2:l[i].2.length≤2:=by
   have:=yk hd
   simp only[wi,Bool.and_eq_true,decide_eq_true_eq] at this
   omega
  refine ae ?_
  refine am (U2 (hs2.le l3)) rfl ⟨rfl,trivial⟩ fun H4 l4=>?_
  refine ab _ (aC _) (aj (fun hd=>?_) (fun hd=>?_))
  ·exact af ⟨⟨false,rfl,fun e=>by cases e⟩,rfl⟩
  refine ae ?_
  refine zY (S4 (hs2.le (Heap.le_trans l3 l4))) (by rintro _ ⟨n,rfl⟩;rfl) ?_
  rintro _ H5 ⟨b,rfl⟩ l5
  refine ab _ (aC _) (aj (fun hd=>?_) (fun hd=>?_))
  ·exact af ⟨⟨false,rfl,fun e=>by cases e⟩,rfl⟩
  have l15:=Heap.le_trans l1 (Heap.le_trans l2 (Heap.le_trans l3 (Heap.le_trans l4 l5)))
  obtain⟨u,hu,hus⟩:=(hs.le l15).upto (i:=i) (by omega)
  refine ab _ hu ?_
  refine gv (own:=[⟨r0,_,[iV l[i].1,s]⟩]) (O1:=[]) (O2:=[]) (by simp) (R:=fun x _ O3=>(∃ b,x=.bool b)∧O3=[]) (Triple.mono (U0 hus (l:=l) (by rw[List.length_take];omega) (fun j r t a b=>?_) ⟨r0,_,[iV l[i].1,s]⟩ rfl) ?_) ?_ ?_
  ·have hj:j < i:=by have:=(List.getElem?_eq_some_iff.1 a).1;rw[List.length_take] at this;omega
   rw[List.getElem?_take_of_lt hj] at a
   obtain⟨s,e,q⟩:=hr j r t a b
   exact⟨s,e,q.le l15⟩
  ·rintro x _ _ _ ⟨hx,rfl⟩
   exact⟨[],by simp,hx,rfl⟩
  ·exact⟨rfl,⟨rfl,hse.one,trivial⟩,trivial⟩
  ·rintro _ H6 _ ⟨⟨b,rfl⟩,rfl⟩ l6
   refine⟨[.bool b],rfl,⟨rfl,trivial⟩,aj (fun hd=>?_) (fun hd=>?_)⟩
   ·exact af ⟨⟨false,rfl,fun e=>by cases e⟩,by simp⟩
   ·refine ab _ (aD (by omega)) (aN (by simp[Eqs,E]) hlt ⟨by simp,Heap.le_trans l15 l6,fun t ht=>?_⟩)
    rw[List.take_add_one,List.getElem?_eq_getElem hlt] at ht
    rcases List.mem_append.1 ht with ht | ht
    ·exact hT t ht
    ·obtain rfl:t=l[i]:=by simpa using ht
     exact h2
 ·refine ab _ hl ?_
  refine ab _ (rh _ _) (af ⟨⟨_,rfl,fun e=>?_⟩,rfl⟩)
  have:=of_decide_eq_true e
  refine⟨by omega,fun t ht=>hT t ?_⟩
  rwa [List.take_of_length_le (by have:=of_decide_eq_false hb;omega)]
def smC (c:CdF):Prop:=c.effs.length≤4∧smT c.trs
theorem smC.lit {c:CdF} (h:smC c):TU c:=⟨by have:=h.1;omega,by have:=h.2.1;omega,fun t ht=>by have:=h.2.2 t ht;omega⟩
theorem Dq {c:CdF} (h:Lx c=true):smT c.trs:=by
 simp only[Lx,Bool.and_eq_true,beq_iff_eq] at h
 have h0:c.trs=[]:=List.eq_nil_of_length_eq_zero (by omega)
 rw[h0];exact⟨by simp,by simp⟩
def V8 (c:CdF) (x:Value) (_:Heap) (O':Go.Sx.Own):Prop:=(∃ b,x=.bool b∧(b=true→smC c))∧O'=[]
theorem s6 {c:CdF} {H:Heap}:V8 c (.bool false) H []:=⟨⟨false,rfl,fun e=>by cases e⟩,rfl⟩
theorem Jz {H:Heap} {r:List Value} {c:CdF} (h:CdRF H r c):Triple PP qz [.agg r.toArray] H [] (V8 c):=by
 obtain⟨es,ts,rfl,he,ht⟩:=h
 refine Ba (vs:=zV c es ts) (by kernel_rfl) (ED he.one ht.len.2.1) ?_
 simp only[wV]
 refine ah fun r0=>?_
 refine ae ?_
 refine am (S8 c.nm _ _) rfl ⟨rfl,trivial⟩ fun H1 l1=>?_
 refine ab _ (aC _) (aj (fun _=>af s6) (fun _=>?_))
 refine ae ?_
 refine am (ky c.rar 1 4 _ _) rfl ⟨rfl,trivial⟩ fun H2 l2=>?_
 refine ab _ (aC _) (aj (fun _=>af s6) (fun _=>?_))
 refine ae ?_
 refine am (sW c.c0 c.c1 c.c2 c.c3 c.any _ _) rfl ⟨rfl,trivial⟩ fun H3 l3=>?_
 refine ab _ (aC _) (aj (fun _=>af s6) (fun _=>?_))
 have he3:=he.le (Heap.le_trans l1 (Heap.le_trans l2 l3))
 refine ae ?_
 refine am (U2 he3) rfl ⟨rfl,trivial⟩ fun H4 l4=>?_
 refine ab _ (aC _) (aj (fun _=>af s6) (fun hd=>?_))
 have h4:c.effs.length≤4:=by
  have hd:U6 c.effs=true:=yk hd
  rw[U6,Bool.and_eq_true,decide_eq_true_eq] at hd
  exact hd.1
 have he4:=he3.le l4
 have ht4:=ht.le (Heap.le_trans l1 (Heap.le_trans l2 (Heap.le_trans l3 l4)))
 obtain⟨e1,e2⟩:=tY he4
 obtain⟨sv,hsv,_⟩:=Tq c.c0 c.c1 c.c2 c.c3 c.any
 refine ae ?_
 refine ab _ (aw _ _) (aj (fun h1=>?_) (fun h1=>?_))
 ·refine ae ?_
  refine am (ky c.makes 0 3 _ _) rfl ⟨rfl,trivial⟩ fun H5 l5=>aj (fun hd=>?_) (fun _=>af s6)
  refine ae ?_
  refine am (hsv _ _) rfl ⟨rfl,trivial⟩ fun H6 l6=>?_
  refine ab _ (aw _ _) ?_
  refine ae (ai (ai ?_))
  refine ab _ e1 ?_
  refine ai ?_
  refine ab _ (aw _ _) ?_
  refine ai ?_
  refine ab _ (bu _ _) (aj (fun _=>?_) (fun _=>af s6))
  refine ae ?_
  refine am (Ir he4.one (ht4.le (Heap.le_trans l5 l6)) _) rfl ⟨rfl,trivial⟩ fun H7 l7=>?_
  exact af ⟨⟨_,rfl,fun e=>⟨h4,Dq e⟩⟩,rfl⟩
 refine ab _ (aw _ _) (aj (fun h1=>?_) (fun h1=>?_))
 ·refine ae ?_
  refine ab _ (aw _ _) (aj (fun _=>?_) (fun _=>af s6))
  refine ae ?_
  refine am (ky c.pw 0 20 _ _) rfl ⟨rfl,trivial⟩ fun H5 l5=>aj (fun _=>?_) (fun _=>af s6)
  refine ae ?_
  refine am (ky c.tn 1 20 _ _) rfl ⟨rfl,trivial⟩ fun H6 l6=>?_
  refine ae (ai (ai ?_))
  refine ab _ (show al (.bin .andNot .int) [iV c.ks,iV 15]=some (iV _) from rfl) ?_
  refine ai ?_
  refine ab _ (aw _ _) ?_
  refine ai ?_
  refine ab _ (bu _ _) (aj (fun _=>?_) (fun _=>af s6))
  refine ae ?_
  refine zY (Iq (ht4.le (Heap.le_trans l5 l6))) (by rintro _ ⟨n,rfl,_⟩;rfl) ?_
  rintro _ H7 ⟨b,rfl,hb⟩ l7
  exact af ⟨⟨_,rfl,fun e=>⟨h4,hb e⟩⟩,rfl⟩
 refine ab _ (aw _ _) (aj (fun h1=>?_) (fun h1=>?_))
 ·refine aj (fun _=>?_) (fun hd=>by rw[h1] at hd;cases hd)
  refine ae ?_
  refine ab _ (aw _ _) ?_
  refine ae (ai (ai ?_))
  refine ab _ e1 ?_
  refine ai ?_
  refine ab _ (bG _ _) ?_
  refine ai ?_
  refine ab _ (bu _ _) (aj (fun _=>?_) (fun _=>af s6))
  refine ae ?_
  refine am (ju he4 rfl (dE fc (by decide)) fun H' _ x _=>Jw x H') rfl ⟨rfl,trivial⟩ fun H5 l5=>?_
  refine ab _ (aC _) (aj (fun _=>?_) (fun _=>af s6))
  refine ae ?_
  refine am (Ir he4.one (ht4.le l5) _) rfl ⟨rfl,trivial⟩ fun H7 l7=>?_
  exact af ⟨⟨_,rfl,fun e=>⟨h4,Dq e⟩⟩,rfl⟩
 refine ab _ (aw _ _) (aj (fun h1=>?_) (fun h1=>af s6))
 refine ae ?_
 refine ab _ (aw _ _) ?_
 refine ae (ai (ai ?_))
 refine ab _ e1 ?_
 refine ai ?_
 refine ab _ (bG _ _) ?_
 refine ai ?_
 refine ab _ (bu _ _) (aj (fun _=>?_) (fun _=>af s6))
 refine ae ?_
 refine am (ju he4 rfl (dE fc (by decide)) fun H' _ x _=>Jw x H') rfl ⟨rfl,trivial⟩ fun H5 l5=>?_
 refine ab _ (aC _) (aj (fun _=>?_) (fun _=>af s6))
 refine ae ?_
 refine am (Ir he4.one (ht4.le l5) _) rfl ⟨rfl,trivial⟩ fun H7 l7=>?_
 exact af ⟨⟨_,rfl,fun e=>⟨h4,Dq e⟩⟩,rfl⟩
theorem JJ {H:Heap} {cs:List CdF}:Ot H cs fun i b=>∀ hi:i < cs.length,b=true→smC cs[i]:=fun i hi H' r hl hr hc=>(Jz hc).mono fun x _ _ _ ⟨⟨b,e,hb⟩,ho⟩=>⟨⟨b,e,fun _=>hb⟩,ho⟩
theorem QD {H:Heap} {cv:Value} {cs:List CdF} (h:CardsF H cv cs) (hbad:¬ ∀ c ∈ cs,smC c):Triple PP nk [cv] H [] fun r _ O'=>(∃ e,r=.tuple #[.pointer none,iV e]∧e ≠ 0)∧O'=[]:=by
 refine vU (vs:=[cv]) (by kernel_rfl) ⟨h.one,trivial⟩ ?_
 simp only[vQ]
 have clen:=h.len
 refine ab _ clen ?_
 refine ab _ (bG _ _) (aj (fun hc=>?_) (fun hc=>?_))
 ·exact af ⟨⟨5,rfl,by omega⟩,rfl⟩
 have h400:cs.length≤400:=by have:=of_decide_eq_false hc;omega
 refine ab _ clen ?_
 refine aY cs.length (fun i H' O'=>O'=[]∧Heap.le H H'∧∀ (j:Nat) (hj:j < cs.length),j < i→smC cs[j]) ⟨rfl,Heap.le_refl _,fun j _ hj=>by omega⟩ ?_
 rintro i H1 O1 hi - ⟨rfl,l1,hV⟩
 refine ab _ (aG _ _) (aj (fun hlt=>?_) (fun hfin=>?_))
 ·have hlt:i < cs.length:=by have:=of_decide_eq_true hlt;omega
  obtain⟨a,row,k1,k2,_,k4,k5,k6⟩:=zX [] (h.le l1) hlt
  refine ab _ k1 (aA k2 k4 k5 (ah fun r0=>?_))
  refine ae (ae ?_)
  rw[show (ag (G14 row 0):Value)=.agg row.toArray from IK k4]
  refine az (JJ i hlt H1 row l1 k4 k6) ?_
  rintro _ H2 _ ⟨⟨b,rfl,hb⟩,rfl⟩ l2
  refine⟨[.bool b],rfl,⟨rfl,trivial⟩,?_⟩
  refine ab _ (aC _) (aj (fun hd=>?_) (fun hd=>?_))
  ·exact af ⟨⟨2,rfl,by omega⟩,rfl⟩
  ·refine ab _ (aD (by omega)) (aN (by simp[Eqs,E]) hlt ⟨rfl,Heap.le_trans l1 l2,fun j hj hji=>?_⟩)
   rcases Nat.lt_succ_iff_lt_or_eq.1 hji with hji | rfl
   ·exact hV j hj hji
   ·exact hb hj (yk hd)
 ·have hfin:=of_decide_eq_false hfin
  refine absurd (fun c hc=>?_) hbad
  obtain⟨j,hj,rfl⟩:=List.mem_iff_getElem.1 hc
  exact hV j hj (by omega)
def Wv (cs:List CdF) (r:Value) (H':Heap) (O':Go.Sx.Own):Prop:=((∃ p,r=.tuple #[p,iV 0]∧PoolF H' p cs∧∀ c ∈ cs,smC c)∨∃ e,r=.tuple #[.pointer none,iV e]∧e ≠ 0)∧O'=[]
theorem UT {H:Heap} {cv:Value} {cs:List CdF} (h:CardsF H cv cs):Triple PP nk [cv] H [] (Wv cs):=by
 by_cases hg:∀ c ∈ cs,smC c
 ·refine (UV h (fun c hc=>(hg c hc).lit) (V:=fun _ _=>True) fun i hi H' r hl hr hc=>(Jz hc).mono fun x _ _ _ ⟨⟨b,e,_⟩,ho⟩=>⟨⟨b,e,trivial⟩,ho⟩).mono ?_
  rintro r H' O' - ⟨⟨p,e,hp,_⟩ | ⟨e,h1,h2,_⟩,ho⟩
  ·exact⟨.inl ⟨p,e,hp,hg⟩,ho⟩
  ·exact⟨.inr ⟨e,h1,h2⟩,ho⟩
 ·exact (QD h hg).mono fun r H' O' _ ⟨e,ho⟩=>⟨.inr e,ho⟩
theorem VO {H:Heap} {O:Go.Sx.Own} {p:Value} {cs:List CdF} (h:PoolF H p cs):RetO PP qq [p] H O (iV cs.length):=by
 refine uX (vs:=[p]) (by kernel_rfl) ⟨h.one,trivial⟩ ?_
 simp only[qb]
 refine am (SQ h) rfl ⟨rfl,trivial⟩ fun H1 l1=>aj (fun hd=>by cases hd) (fun _=>?_)
 obtain⟨r,cv,mv,T,rfl,h1,h2,_⟩:=h.le l1
 refine ak rfl (ak rfl ?_)
 refine aA (vn _ h1).1 rfl ⟨h2.one,trivial⟩ ?_
 exact ab _ h2.len (af ⟨rfl,rfl⟩)
theorem QI {H:Heap} {p:Value} {cs:List CdF} (h:PoolF H p cs) (h400:cs.length≤400):Triple PP iW [p] H [] fun v H' O'=>∃ rows,OSl ef 14 v rows O'∧RowsF H' rows cs:=by
 refine sy (vs:=[p]) (by kernel_rfl) ⟨h.one,trivial⟩ ?_
 simp only[mV]
 refine am (VO h) rfl ⟨rfl,trivial⟩ fun H1 l1=>?_
 replace h:=h.le l1
 obtain⟨r,cv,mv,T,rfl,h1,h2,_,_,hlit⟩:=h
 have hB:=h2.lenB
 refine dG (fun vs H' O'=>∃ (i:Nat) (x:Value) (rows:List (List Value)),vs=[x,iV i]∧i≤cs.length∧Heap.le H1 H'∧OSl ef 14 x rows O'∧RowsF H' rows (cs.take i)) (fun vs _ _=>match g vs 1 with | .int _ k=>cs.length + 1 - k.toNat | _=>0)
  ⟨0,.slice none 0 0,[],rfl,Nat.zero_le _,Heap.le_refl _,OSl.nil _ _,rfl,fun i r c a=>by simp at a⟩ ?_
 rintro _ H2 O2 _ _ _ ⟨i,x,rows,rfl,hi,hle,hx,hrows⟩
 refine ab _ (aG _ _) (aj (fun hlt=>?_) (fun hge=>?_))
 ·have hlt:i < cs.length:=by have:=of_decide_eq_true hlt;omega
  refine ak rfl (ak rfl ?_)
  refine aA (vn _ (hle.1 _ _ h1)).1 rfl ⟨h2.one,trivial⟩ ?_
  obtain⟨a,row,k1,k2,_,k4,k5,k6⟩:=zX O2 (h2.le hle) hlt
  refine ab _ k1 (aA k2 k4 k5 ?_)
  rw[show (ag (G14 row 0):Value)=.agg row.toArray from IK k4]
  refine az (EJ k6 (hlit _ (List.getElem_mem hlt))) ?_
  rintro _ H3 _ ⟨⟨cells,rfl,c1,c2⟩,rfl⟩ l3
  rw[List.nil_append]
  refine⟨cells,by simp[Shp.open,c1],c2.ones,ah fun r3=>?_⟩
  have hrl:rows.length=i:=by have:=hrows.1;rw[List.length_take] at this;omega
  rw[g14 c1]
  refine aH (rows:=rows) (news:=[cells]) (O1:=O2) (O2:=[]) (e:=ef) (size:=14) (bytes:=152) (by kernel_rfl) (by simp) hx (fun Hf _ hf=>Sl.block1 (hf _ List.mem_cons_self) c1 c2.ones) (by rw[hrl,List.length_singleton];omega) (by rw[hrl,List.length_singleton];omega) ?_
  intro v' A' H6 l6 hA'
  refine ab _ (aD (by omega)) (cU (by simp[Eqs,E]) ⟨i + 1,v',rows++[cells],rfl,hlt,Heap.le_trans hle (Heap.le_trans l3 l6),by simpa using hA',Fz hrows (Heap.le_trans l3 l6) hlt (c2.le l6)⟩ ?_)
  show cs.length + 1 - ((i + 1:Nat):Int).toNat < cs.length + 1 - (i:Int).toNat
  omega
 ·have hge:cs.length≤i:=by have:=of_decide_eq_false hge;omega
  rw[List.take_of_length_le hge] at hrows
  exact af ⟨rows,hx,hrows⟩
theorem QC {H:Heap} {p:Value} {cs:List CdF} (h:PoolF H p cs) (h400:cs.length≤400):Triple PP iW [p] H [] fun v H' O'=>CardsF H' v cs∧O'=[]:=by
 refine Triple.ghost (QI h h400) ?_
 rintro v H' O' _ hc ⟨rows,hx,hr⟩
 obtain⟨H1,g1,k1,l1⟩:=hx.freeze (X:=[]) (by simpa using hc)
 exact⟨H1,[],by simpa using g1,⟨rows,k1,hr.le l1⟩,rfl⟩
structure Cf where
 (life mull acts objs trig cap:Int)
def cfC (c:Cf):List Value:=[iV c.life,iV c.mull,iV c.acts,iV c.objs,iV c.trig,iV c.cap]
def pwi (n a b:Int):Bool:=decide (n ≥ a) && decide (n≤b)
def cfV (c:Cf):Bool:=pwi c.life 1 9999 && (pwi c.mull 0 7 && (pwi c.acts 1 100 && (pwi c.objs 40 500 && (pwi c.trig 0 100 && pwi c.cap 1 200))))
theorem kw (n a b:Int) (H:Heap) (O:Go.Sx.Own):RetO PP qp [iV n,iV a,iV b] H O (.bool (pwi n a b)):=by
 refine uW (vs:=[iV n,iV a,iV b]) (by kernel_rfl) ⟨rfl,rfl,rfl,trivial⟩ ?_
 simp only[qa]
 refine ab _ (eC _ _) ?_
 refine ai (ai ?_)
 refine ab _ (rh _ _) ?_
 refine ai ?_
 exact ab _ (bu _ _) (af ⟨rfl,rfl⟩)
theorem GV (c:Cf) (H:Heap) (O:Go.Sx.Own):RetO PP rS [.agg (cfC c).toArray] H O (.bool (cfV c)):=by
 refine xJ (vs:=cfC c) (by kernel_rfl) ⟨rfl,rfl,rfl,rfl,rfl,rfl,trivial⟩ ?_
 simp only[rz]
 refine ah fun r0=>?_
 refine ae ?_
 refine am (kw _ _ _ _ _) rfl ⟨rfl,trivial⟩ fun H1 l1=>aj (fun h1=>?_) (fun h1=>af ⟨by have h1:pwi c.life 1 9999=false:=h1;rw[cfV,h1];rfl,rfl⟩)
 have h1:pwi c.life 1 9999=true:=h1
 refine ae ?_
 refine am (kw _ _ _ _ _) rfl ⟨rfl,trivial⟩ fun H2 l2=>aj (fun h2=>?_) (fun h2=>af ⟨by have h2:pwi c.mull 0 7=false:=h2;rw[cfV,h1,h2];rfl,rfl⟩)
 have h2:pwi c.mull 0 7=true:=h2
 refine ae ?_
 refine am (kw _ _ _ _ _) rfl ⟨rfl,trivial⟩ fun H3 l3=>aj (fun h3=>?_) (fun h3=>af ⟨by have h3:pwi c.acts 1 100=false:=h3;rw[cfV,h1,h2,h3];rfl,rfl⟩)
 have h3:pwi c.acts 1 100=true:=h3
 refine ae ?_
 refine am (kw _ _ _ _ _) rfl ⟨rfl,trivial⟩ fun H4 l4=>aj (fun h4=>?_) (fun h4=>af ⟨by have h4:pwi c.objs 40 500=false:=h4;rw[cfV,h1,h2,h3,h4];rfl,rfl⟩)
 have h4:pwi c.objs 40 500=true:=h4
 refine ae ?_
 refine am (kw _ _ _ _ _) rfl ⟨rfl,trivial⟩ fun H5 l5=>aj (fun h5=>?_) (fun h5=>af ⟨by have h5:pwi c.trig 0 100=false:=h5;rw[cfV,h1,h2,h3,h4,h5];rfl,rfl⟩)
 have h5:pwi c.trig 0 100=true:=h5
 refine ae ?_
 refine am (kw _ _ _ _ _) rfl ⟨rfl,trivial⟩ fun H6 l6=>af ⟨by rw[cfV,h1,h2,h3,h4,h5];rfl,rfl⟩
theorem VJ {H:Heap} {x:Value} {rows:List (List Value)} (hs:Sl H 1 x rows) (hlen:rows.length≤65536):Triple PP AG [x] H [] fun r _ O'=>OSl jj 1 r rows O':=by
 refine DF (vs:=[x]) (by kernel_rfl) ⟨hs.one,trivial⟩ ?_
 simp only[As]
 refine ab _ hs.len ?_
 refine PH (n:=rows.length) (elem:=jj) (z:=uV 0) (by kernel_rfl) (by kernel_rfl) (by kernel_rfl) (by kernel_rfl) rfl hlen fun s A hA=>?_
 rw[List.append_nil]
 have hu:PP.underlying 27=some (.slice jj):=by kernel_rfl
 rcases hA with ⟨⟨a,rfl⟩,h0,rfl⟩ | ⟨r,cs,cap,rfl,rfl,hcl,hlc,hcap,hl,ho,ht⟩
 ·have hr0:rows=[]:=by
   have:=congrArg List.length h0
   rw[List.length_replicate] at this
   exact List.eq_nil_of_length_eq_zero this
  subst hr0
  obtain⟨xa,cap,rfl,_⟩:=hs
  refine Pe (v:=iV 0) (vs:=[iV 0]) (fun w=>?_) rfl ⟨rfl,trivial⟩ ?_
  ·have:=run_copy_none (P:=PP) w 27 27 3 jj a xa 0 0 0 cap hu (by kernel_rfl) (by simp)
   simp only[PrimOp.sem,builtin]
   rw[Sem.run_bind]
   show ((Builtin.copy_ #[27,27] 3 #[.slice a 0 0,.slice xa 0 cap]).run PP w).andThen _=_
   rw[this]
   rfl
  ·exact af (.inl ⟨⟨a,rfl⟩,rfl,rfl⟩)
 ·rw[List.length_replicate] at hlc ht ⊢
  obtain⟨i,hi,hsz⟩:∃ i,PP.info? jj=some i∧i.size=1:=by
   obtain⟨_,i,h1,h2⟩:=K1 (P:=PP) (t:=27) (e:=jj) (size:=1) (bytes:=8) (by kernel_rfl)
   exact⟨i,h1,h2⟩
  have hrl:∀ row ∈ rows,row.length=1∧Ones row:=fun row hr=>by
   obtain⟨j,hj,rfl⟩:=List.getElem_of_mem hr
   obtain⟨_,_,_,h3,h4⟩:=hs.idx (k:=.i64) (List.getElem?_eq_getElem hj)
   exact⟨h3,h4⟩
  have hfl:rows.flatten.length=rows.length:=by have:=cV fun r hr=>(hrl r hr).1;omega
  have hone:∀ v ∈ rows.flatten,v.oneCell'=true:=fun v hv=>by
   obtain⟨r,hr,hur⟩:=List.mem_flatten.1 hv
   exact iZ (hrl r hr).2 v hur
  refine NJ (r:=r) (off:=0) (cs:=cs) (e:=jj) (O2:=[]) (m:=rows.length) (k:=rows.length) (src:=rows.flatten) hu hi (List.Perm.refl _) (fun _=>by obtain⟨xa,c,rfl,_⟩:=hs;rfl) (by omega) (fun w F hm=>?_) (by rw[hfl];omega) hone ?_
  ·obtain⟨xa,c,rfl,_,_,h3⟩:=hs
   rw[hsz]
   by_cases hne:rows=[]
   ·subst hne
    cases xa with
    | none=>exact run_firstCells_none _ _ _ _ _
    | some ad=>exact run_firstCells_some w 1 0 ad _ _ _ (by simp) (fun j v hj=>by simp at hj)
   ·obtain⟨a,rfl,hA⟩:=h3 hne
    obtain⟨_,hcells⟩:=yB (H:=H) (by omega) (fun _=>hA) hm
    exact run_firstCells_some w 1 rows.length a _ _ _ (by rw[hfl];omega) hcells
  ·refine af (.inr ⟨r,rows.flatten++cs.drop rows.length,cap,rfl,?_,?_,hlc,hcap,fun row hr=>(hrl row hr).1,fun row hr=>(hrl row hr).2,?_⟩)
   ·simp[hfl]
   ·rw[List.length_append,List.length_drop,hfl];omega
   ·rw[Nat.mul_one,← hfl,List.take_left]
abbrev gp (k:Nat):Value:=.pointer (some ⟨k,0,none⟩)
theorem au {P:Program} {gd:Gd} {g:Nat} {cs:List Value} {T:TypeId} {off m:Nat} {k:List Value→Tree} {H:Heap} {O:Go.Sx.Own} {Q:Value→Heap→Go.Sx.Own→Prop} (h:(g,Obj.cells cs.toArray T (0,0)) ∈ O) (vs:List Value) (hv:(cs.drop off).take m=vs) (hl:vs.length=m) (ho:Ones vs) (hk:(k vs).den P Q H O) :
  (Tree.load gd (.pointer (some ⟨g,off,none⟩)) m k).den P Q H O :=
 ⟨vs,hl,ho,fun _=>.inr ⟨⟨g,off,none⟩,cs.toArray,T,rfl,rfl,h,by simpa using hv,hl⟩,hk⟩
theorem fC {P:Program} {g:Nat} {cs vs cs':List Value} {T:TypeId} {off:Nat} {t:Tree} {H:Heap} {O L:Go.Sx.Own} {Q:Value→Heap→Go.Sx.Own→Prop} (h:O.Perm ((g,Obj.cells cs.toArray T (0,0))::L)) (hle:off + vs.length≤cs.length) (he:bL cs off vs=cs') (hk:t.den P Q H ((g,Obj.cells cs'.toArray T (0,0))::L)) :
  (Tree.store (.pointer (some ⟨g,off,none⟩)) vs t).den P Q H O :=
 ⟨_,⟨⟨g,off,none⟩,cs.toArray,T,L,rfl,rfl,h,by simpa using hle,by simp only[List.toList_toArray];rw[he]⟩,hk⟩
def dC (dl:Value) (u:Nat):List Value:=[.bool true,dl,iV u]
def mj (d:Nat) (dl:Value) (u:Nat):Nat × Obj:=(d,.cells (dC dl u).toArray 148 (0,0))
def DlS (H:Heap) (dl:Value) (l:List Nat):Prop:=Sl H 1 dl (l.map fun n=>[uV n])∧l.length≤65536∧∀ n ∈ l,n < 2 ^ 64
theorem DlS.le {H H':Heap} {dl:Value} {l:List Nat} (h:DlS H dl l) (hl:Heap.le H H'):DlS H' dl l:=⟨h.1.le hl,h.2⟩
theorem DlS.len {H:Heap} {dl:Value} {l:List Nat} (h:DlS H dl l):al .len [dl]=some (iV l.length):=by have:=h.1.len;rwa [List.length_map] at this
theorem Ix {H:Heap} {O:Go.Sx.Own} {d:Nat} {dl:Value} {u:Nat} (h:mj d dl u ∈ O):RetO PP lQ [gp d] H O (.bool false):=by
 refine q9 (vs:=[gp d]) (by kernel_rfl) ⟨rfl,trivial⟩ ?_
 simp only[lD]
 refine ab (.bool false) rfl ?_
 refine ak rfl (ai (ak rfl (ai (ai ?_))))
 refine au h [.bool true] rfl rfl ⟨rfl,trivial⟩ ?_
 refine ai ?_
 refine ab _ (aC _) ?_
 refine ai ?_
 exact ab _ (aO _ _) (af ⟨rfl,rfl⟩)
theorem Ri {H:Heap} {O:Go.Sx.Own} {d:Nat} {dl:Value} {l:List Nat} {u:Nat} (h:mj d dl u ∈ O) (hl:DlS H dl l) (hu:u≤l.length):RetO PP lR [gp d] H O (iV ((l.length:Int) - u)):=by
 refine ra (vs:=[gp d]) (by kernel_rfl) ⟨rfl,trivial⟩ ?_
 simp only[lE]
 refine am (Ix h) rfl ⟨rfl,trivial⟩ fun H1 l1=>aj (fun hd=>by cases hd) (fun _=>?_)
 refine ak rfl (ak rfl ?_)
 refine au h [dl] rfl rfl ⟨hl.1.one,trivial⟩ ?_
 refine ab _ hl.len ?_
 refine ak rfl (ak rfl ?_)
 refine au h [iV u] rfl rfl ⟨rfl,trivial⟩ ?_
 have hb:=hl.2.1
 refine ab _ (show _=some (iV ((l.length:Int) - u)) from ?_) (af ⟨rfl,rfl⟩)
 simp only[g,List.getD_cons_zero,al,bA,bq,if_true]
 rw[dN (by omega) (by omega)]
theorem Tm {H:Heap} {O:Go.Sx.Own} {d:Nat} {dl:Value} {l:List Nat} {u:Nat} (h:mj d dl u ∈ O) (hl:DlS H dl l) (hu:u≤l.length) (n:Int):RetO PP kL [gp d,iV n,iV 0] H O (iV (if n > (l.length:Int) - u then 16 else 0)):=by
 refine o7 (vs:=[gp d,iV n,iV 0]) (by kernel_rfl) ⟨rfl,rfl,rfl,trivial⟩ ?_
 simp only[kD]
 refine am (Ix h) rfl ⟨rfl,trivial⟩ fun H1 l1=>aj (fun hd=>by cases hd) (fun _=>?_)
 refine ab _ (fx _ _) (aj (fun hd=>by cases hd) (fun _=>?_))
 refine am (Ri h (hl.le l1) hu) rfl ⟨rfl,trivial⟩ fun H2 l2=>?_
 refine ab _ (bG _ _) (aj (fun hd=>?_) (fun hd=>?_))
 ·exact af ⟨by rw[if_pos (of_decide_eq_true hd)],rfl⟩
 ·exact af ⟨by rw[if_neg (of_decide_eq_false hd)],rfl⟩
theorem Qy {H:Heap} {d:Nat} {dl:Value} {l:List Nat} {u:Nat} (hl:DlS H dl l) (hu:u < l.length) {b:Int} (h0:0 < b) (hb:b < 2 ^ 31) :
  Triple PP jK [gp d,iV b] H [mj d dl u] fun r _ O'=>(∃ j:Nat,(j:Int) < b∧r=iV j)∧O'=[mj d dl (u + 1)]:=by
 refine oL (vs:=[gp d,iV b]) (by kernel_rfl) ⟨rfl,rfl,trivial⟩ ?_
 simp only[jF]
 refine ak rfl (ak rfl ?_)
 refine au (cs:=dC dl u) List.mem_cons_self [dl] rfl rfl ⟨hl.1.one,trivial⟩ ?_
 refine ak rfl (ak rfl ?_)
 refine au (cs:=dC dl u) List.mem_cons_self [iV u] rfl rfl ⟨rfl,trivial⟩ ?_
 have hb2:=hl.2.1
 obtain⟨a,i1,i2,_,i3,i4⟩:=(hl.1.rsl [mj d dl u]).idx .i64 u [uV l[u]] (by simp[hu])
 refine ab _ i1 (aA i2 i3 i4 ?_)
 refine ak rfl (ak rfl ?_)
 refine au (cs:=dC dl u) List.mem_cons_self [iV u] rfl rfl ⟨rfl,trivial⟩ ?_
 refine ab _ (aD (by omega)) ?_
 refine ak rfl (ak rfl (ak rfl ?_))
 refine fC (g:=d) (cs:=dC dl u) (cs':=dC dl (u + 1)) (L:=[]) (List.Perm.refl _) (by simp[dC]) rfl ?_
 have hn:=hl.2.2 _ (List.getElem_mem hu)
 have w1:IntKind.u64.wrap b=b:=by
  obtain⟨n,rfl⟩:∃ n:Nat,b=n:=⟨b.toNat,by omega⟩
  exact Vh (by omega)
 refine ab (.int .u64 b) (by simp only[g,List.getD_cons_zero,List.getD_cons_succ,al,w1]) ?_
 refine ab (.int .u64 ((l[u]:Int).tmod b)) (by simp only[g,List.getD_cons_zero,al,bA,bq,if_true];rw[if_neg (by omega)]) ?_
 have m1:0≤(l[u]:Int).tmod b:=Int.tmod_nonneg _ (by omega)
 have m2:(l[u]:Int).tmod b < b:=Int.tmod_lt_of_pos _ h0
 refine ab (iV ((l[u]:Int).tmod b)) (by simp only[al];rw[dN (by omega) (by omega)]) ?_
 exact af ⟨⟨((l[u]:Int).tmod b).toNat,by omega,by rw[Int.toNat_of_nonneg m1]⟩,rfl⟩
theorem tI {P:Program} {v:Value} {own:List BV} {H:Heap} {O O' Y:Go.Sx.Own} {Q:Value→Heap→Go.Sx.Own→Prop} (hp:(own.map BV.obj++O).Perm (O'++Y)) (h:Q v H O'):(Tree.ret v own).den P Q H O :=
 fun _=>⟨H,O',(Ghost.perm hp).trans (Ghost.sub (List.sublist_append_left _ _)),h⟩
theorem Lr (l:List Int) {i j:Nat} (hi:i < l.length) (hj:j < l.length):((l.set i l[j]).set j l[i]).Perm l:=List.set_set_perm hi hj
theorem Wj {n:Int} (h0:0≤n) (h:n < 2 ^ 62):al (.bin .sub .int) [iV n,iV 1]=some (iV (n - 1)):=by
 simp only[al,bA,bq,if_true]
 rw[dN (by omega) (by omega)]
def VS (d:Nat) (dl:Value) (l:List Nat) (u:Nat) (zs:List Int) (r:Value) (O':Go.Sx.Own):Prop :=
 (∃ e,r=.tuple #[.slice none 0 0,iV e]∧e ≠ 0∧O'=[mj d dl u])∨∃ v zs' A u',r=.tuple #[v,iV 0]∧zs'.Perm zs∧OSl aQ 1 v (aJ zs') A∧u'≤l.length∧O'.Perm ([mj d dl u']++A)
theorem KU {H:Heap} {d:Nat} {dl:Value} {l:List Nat} {u:Nat} (hl:DlS H dl l) (hu:u≤l.length) {lv:Value} {zs:List Int} (hs:Sl H 1 lv (aJ zs)) (hz:zs.length≤1000) :
  Triple PP fO [gp d,lv] H [mj d dl u] fun r _ O'=>VS d dl l u zs r O':=by
 refine nz (vs:=[gp d,lv]) (by kernel_rfl) ⟨rfl,hs.one,trivial⟩ ?_
 simp only[jl]
 have hlen:al .len [lv]=some (iV zs.length):=by have:=hs.len;rwa [aJ,List.length_map] at this
 refine ab _ hlen ?_
 refine ab _ (bG _ _) (aj (fun hd=>by have:=of_decide_eq_true hd;omega) (fun _=>?_))
 unfold eT
 refine ab _ hlen ?_
 refine ab (iV ((zs.length:Int) - 1)) (by simp only[g,List.getD_cons_zero,al,bA,bq,if_true];rw[dN (by omega) (by omega)]) ?_
 refine am (Tm List.mem_cons_self hl hu _) rfl ⟨rfl,trivial⟩ fun H1 l1=>?_
 refine ab _ (fx _ _) (aj (fun hd=>?_) (fun hd=>?_))
 ·refine af (.inl ⟨_,rfl,?_,rfl⟩)
  simpa using hd
 have hroom:¬ ((zs.length:Int) - 1 > (l.length:Int) - u):=fun h=>by rw[if_pos h] at hd;cases hd
 refine az (ed (hs.le l1) (by rw[aJ,List.length_map];omega)) fun x H2 O2 hx l2=>⟨[x],rfl,⟨hx.one,trivial⟩,?_⟩
 have xlen:=hx.len
 rw[aJ,List.length_map] at xlen
 refine ab _ xlen ?_
 refine ab (iV ((zs.length:Int) - 1)) (by simp only[al,bA,bq,if_true];rw[dN (by omega) (by omega)]) ?_
 have l12:=Heap.le_trans l1 l2
 refine dG (fun vs H' O'=>∃ (i:Int) (zs':List Int) (A:Go.Sx.Own) (u':Nat),vs=[iV i]∧-1≤i∧i < zs.length∧(0 < i→u' + i≤l.length)∧u'≤l.length∧zs'.Perm zs∧OSl aQ 1 x (aJ zs') A∧Heap.le H2 H'∧O'.Perm ([mj d dl u']++A)) (fun vs _ _=>match g vs 0 with | .int _ k=>k.toNat | _=>0)
  ⟨(zs.length:Int) - 1,zs,O2,u,rfl,by omega,by omega,fun _=>by omega,hu,List.Perm.refl _,hx,Heap.le_refl _,List.perm_append_comm⟩ ?_
 rintro _ H3 O3 _ _ _ ⟨i,zs',A,u',rfl,i0,i1,hr,hu',hp,hA,hle,hO⟩
 have hzl:zs'.length=zs.length:=hp.length_eq
 refine ab _ (bG _ _) (aj (fun hb=>?_) (fun hb=>?_))
 ·have hb:i > 0:=of_decide_eq_true hb
  obtain⟨n,rfl⟩:∃ n:Nat,i=n:=⟨i.toNat,by omega⟩
  have hr:=hr (by omega)
  refine ab _ (aD (by omega)) ?_
  refine ik hO (Qy (hl.le (Heap.le_trans l12 hle)) (u:=u') (by omega) (b:=((n + 1:Nat):Int)) (by omega) (by omega)) ?_
  rintro _ H4 _ ⟨⟨j,hj,rfl⟩,rfl⟩ l4
  refine⟨[iV j],rfl,⟨rfl,trivial⟩,?_⟩
  have hjl:j < zs'.length:=by omega
  have hnl:n < zs'.length:=by omega
  have hmem:∀ p ∈ A,p ∈ [mj d dl (u' + 1)]++A:=fun p hp=>List.mem_append_right _ hp
  obtain⟨a,k1,_,k3,_⟩:=hA.idx hmem H4 (k:=.i64) (i:=j) (row:=[iV zs'[j]]) (by simp[aJ,hjl])
  refine ab _ k1 (aA k3 rfl ⟨rfl,trivial⟩ ?_)
  obtain⟨a2,m1,_,m3,_⟩:=hA.idx hmem H4 (k:=.i64) (i:=n) (row:=[iV zs'[n]]) (by simp[aJ,hnl])
  refine ab _ m1 (aA m3 rfl ⟨rfl,trivial⟩ ?_)
  obtain⟨a3,q1,q2⟩:=hA.store (O:=[mj d dl (u' + 1)]++A) (O2:=[mj d dl (u' + 1)]) List.perm_append_comm (k:=.i64) (i:=n) (row:=[iV zs'[n]]) (by simp[aJ,hnl])
  obtain⟨A1,s1,s2⟩:=q2 0 [iV zs'[j]] (by simp) ⟨rfl,trivial⟩
  have s2:OSl aQ 1 x (aJ (zs'.set n zs'[j])) A1:=by
   have e:(aJ zs').set n (bL [iV zs'[n]] 0 [iV zs'[j]])=aJ (zs'.set n zs'[j]):=by simp[aJ,bL]
   rw[e] at s2;exact s2
  refine ab _ q1 ?_
  refine ak rfl ?_
  refine⟨_,s1,?_⟩
  have hjz:j < (zs'.set n zs'[j]).length:=by simpa using hjl
  obtain⟨a4,t1,t2⟩:=s2.store (O:=A1++[mj d dl (u' + 1)]) (O2:=[mj d dl (u' + 1)]) (List.Perm.refl _) (k:=.i64) (i:=j) (row:=[iV (zs'.set n zs'[j])[j]]) (by rw[aJ,List.getElem?_map,List.getElem?_eq_getElem hjz];rfl)
  obtain⟨A2,w1,w2⟩:=t2 0 [iV zs'[n]] (by simp) ⟨rfl,trivial⟩
  have w2:OSl aQ 1 x (aJ ((zs'.set n zs'[j]).set j zs'[n])) A2:=by
   have e:(aJ (zs'.set n zs'[j])).set j (bL [iV (zs'.set n zs'[j])[j]] 0 [iV zs'[n]])=aJ ((zs'.set n zs'[j]).set j zs'[n]):=by rw[aJ,aJ,List.map_set];simp[bL]
   rw[e] at w2;exact w2
  refine ab _ t1 ?_
  refine ak rfl ?_
  refine⟨_,w1,?_⟩
  refine ab _ (Wj (by omega) (by omega)) (cU (by simp[Eqs,E]) ⟨(n:Int) - 1,_,A2,u' + 1,rfl,by omega,by omega,fun _=>by omega,by omega,(Lr zs' hnl hjl).trans hp,w2,Heap.le_trans hle l4,List.perm_append_comm⟩ ?_)
  show ((n:Int) - 1).toNat < ((n:Int)).toNat
  omega
 ·exact af (.inr ⟨x,zs',A,u',rfl,hp,hA,hu',hO⟩)
def VT (d:Nat) (dl:Value) (l:List Nat) (u:Nat) (zs:List Int) (r:Value) (H':Heap) (O':Go.Sx.Own):Prop :=
 (∃ e,r=.tuple #[.slice none 0 0,iV e]∧e ≠ 0∧O'=[mj d dl u])∨∃ v zs' u',r=.tuple #[v,iV 0]∧zs'.Perm zs∧Sl H' 1 v (aJ zs')∧u'≤l.length∧O'=[mj d dl u']
theorem GW {H:Heap} {d:Nat} {dl:Value} {l:List Nat} {u:Nat} (hl:DlS H dl l) (hu:u≤l.length) {lv:Value} {zs:List Int} (hs:Sl H 1 lv (aJ zs)) (hz:zs.length≤1000) :
  Triple PP fO [gp d,lv] H [mj d dl u] (VT d dl l u zs):=by
 refine Triple.ghost (KU hl hu hs hz) ?_
 rintro r H' O' _ hc (⟨e,rfl,he,rfl⟩ | ⟨v,zs',A,u',rfl,hp,hA,hu',hO⟩)
 ·exact⟨H',_,Ghost.refl _ _,.inl ⟨e,rfl,he,rfl⟩⟩
 ·have hO2:O'.Perm (A++[mj d dl u']):=hO.trans List.perm_append_comm
  obtain⟨H1,g1,k1,l1⟩:=hA.freeze (X:=[mj d dl u']) (hc.perm hO2)
  exact⟨H1,_,(Ghost.perm hO2).trans g1,.inr ⟨v,zs',u',rfl,hp,k1,hu',rfl⟩⟩
theorem UK {H:Heap} {lv:Value} {l:List Nat} (h:DlS H lv l):Triple PP AH [lv] H [] fun r H' O'=>∃ d dl,r=.tuple #[gp d,iV 0]∧O'=[mj d dl 0]∧DlS H' dl l:=by
 refine Triple.ghost (Q:=fun r H' O'=>∃ d dl A,r=.tuple #[gp d,iV 0]∧O'.Perm (A++[mj d dl 0])∧OSl jj 1 dl (l.map fun n=>[uV n]) A) ?_ ?_
 ·refine DG (vs:=[lv]) (by kernel_rfl) ⟨h.1.one,trivial⟩ ?_
  simp only[Au]
  refine ab _ h.len ?_
  have hb:=h.2.1
  refine ab _ (bG _ _) (aj (fun hd=>by have:=of_decide_eq_true hd;omega) (fun _=>?_))
  refine az (VJ h.1 (by rw[List.length_map];exact hb)) fun x H1 O1 hx l1=>⟨[x],rfl,⟨hx.one,trivial⟩,fun r0=>?_⟩
  rw[List.append_nil]
  exact tI (O':=O1++[mj r0 x 0]) (Y:=[]) (by rw[List.append_nil];exact List.perm_append_comm (l₁:=[mj r0 x 0])) ⟨r0,x,O1,rfl,List.Perm.refl _,hx⟩
 ·rintro r H' O' _ hc ⟨d,dl,A,rfl,hO,hA⟩
  obtain⟨H1,g1,k1,l1⟩:=hA.freeze (X:=[mj d dl 0]) (hc.perm hO)
  exact⟨H1,_,(Ghost.perm hO).trans g1,d,dl,rfl,rfl,k1,h.2⟩
theorem Tj {H:Heap} {O:Go.Sx.Own} {d:Nat} {dl:Value} {u:Nat} (h:mj d dl u ∈ O) (hd1:dl.oneCell'=true):Triple PP lS [gp d] H O fun r _ O'=>(∃ k,r=gp k)∧O'=O:=by
 refine rb (vs:=[gp d]) (by kernel_rfl) ⟨rfl,trivial⟩ ?_
 simp only[lF]
 refine am (Ix h) rfl ⟨rfl,trivial⟩ fun H1 l1=>aj (fun hd=>by cases hd) (fun _=>?_)
 refine ak rfl ?_
 refine au h (dC dl u) rfl rfl ⟨rfl,hd1,rfl,trivial⟩ (ah fun r0=>?_)
 refine ae ?_
 exact tI (O':=O) (Y:=[mj r0 dl u]) (List.perm_append_comm (l₁:=[mj r0 dl u])) ⟨⟨r0,rfl⟩,rfl⟩
theorem HH:∀ {l m:List Int},l.Nodup→(∀ x ∈ l,x ∈ m)→l.length≤m.length
 | [],_,_,_=>Nat.zero_le _
 | a::l,m,h,hs=>by
  rw[List.nodup_cons] at h
  have ha:=hs a List.mem_cons_self
  have ih:=HH (m:=m.erase a) h.2 fun x hx=>(List.mem_erase_of_ne (fun e=>by rw[e] at hx;exact h.1 hx)).2 (hs x (List.mem_cons_of_mem _ hx))
  rw[List.length_erase_of_mem ha] at ih
  have:=List.length_pos_of_mem ha
  rw[List.length_cons];omega
section
variable {cs:List Cd} {b:Bd} (h:aE b=true) {k:Nat} {o:Ob} (hk:b.objs[k]?=some o) {z:Int} (hz:z=0∨z=1∨z=2∨z=3)
include h hk hz
end
structure Sq (s:St):Prop where
 life:1≤s.life∧s.life≤9999
 pool:s.p0=0∧s.p1=0∧s.p2=0∧s.p3=0
 mull:0≤s.mull∧s.mull≤7
 acts:0≤s.acts∧s.acts≤255
 field:s.field=[]
structure Qt (b:Bd):Prop where
 pl:cq bF b=true
 ac:b.active=0∨b.active=1
 tu:0≤b.turn∧b.turn≤1000
 ph:0≤b.phase∧b.phase≤10
 ho:b.holder=-1
 pa:b.passes=0
 n5:b.objs.length≤500
 q0:Sq b.s0
 q1:Sq b.s1
 st:b.stack=[]
 qu:b.queue=[]
 aa:b.att=[]
 bl:b.blocks=[]
 tok:∀ o ∈ b.objs,0≤o.card
theorem Sq.ok {s:St} (h:Sq s):eJ s=true:=by
 obtain⟨h1,⟨h2,h3,h4,h5⟩,h6,h7,_⟩:=h
 simp[eJ,ay,h2,h3,h4,h5]
 omega
theorem Qt.val {b:Bd} (h:Qt b):aE b=true:=by
 have hf:jc b=true:=by rw[jc,h.aa,h.bl,h.q0.field,h.q1.field];split <;> rfl
 have h1:=h.q0.ok
 have h2:=h.q1.ok
 obtain⟨a1,a2,a3,a4,a5⟩:=And.intro h.ac (And.intro h.tu (And.intro h.ph (And.intro h.ho (And.intro h.pa h.n5))))
 simp only[aE,BZ,Bool.and_eq_true,Bool.not_eq_true',Bool.or_eq_false_iff,decide_eq_false_iff_not,ay,decide_eq_true_eq,h1,h2,h.pl,hf,h.st,h.qu,List.any_nil,List.length_nil,a4,a5.1]
 refine⟨by omega,by omega,by omega,by omega,?_⟩
 simp
 omega
theorem Qt.lens {b:Bd} (h:Qt b):b.s0.lib.length≤500∧b.s0.hand.length≤500∧b.s0.grave.length≤500∧b.s1.lib.length≤500∧b.s1.hand.length≤500∧b.s1.grave.length≤500:=by
 have h1:=(iL h.pl).2.2
 have h2:=h.n5
 simp only[aM,fw,List.length_append,List.length_map] at h1
 omega
theorem Qt.B {b:Bd} (h:Qt b):bdB b:=by
 obtain⟨a1,a2,a3,a4,a5,a6⟩:=h.lens
 have h2:=h.n5
 refine⟨by omega,⟨by omega,by omega,by rw[h.q0.field];simp,by omega⟩,⟨by omega,by omega,by rw[h.q1.field];simp,by omega⟩,by rw[h.st];exact⟨by simp,by simp⟩,by rw[h.qu];exact⟨by simp,by simp⟩,by rw[h.aa];simp,by rw[h.bl];simp⟩
theorem Qt.own {b:Bd} (h:Qt b):∀ o ∈ b.objs,o.owner=0∨o.owner=1:=fun o ho=>by
 obtain⟨k,hk,rfl⟩:=List.getElem_of_mem ho
 exact (mF h.pl (List.getElem?_eq_getElem hk)).2.2.2
theorem NN {H:Heap} {O:Go.Sx.Own} {v:cI} {b:Bd} (h:BdR H O v b) (hq:Qt b) {f:FuncId} {caps:Array Value} (hok:mc PP f)
  (hp:∀ H',Heap.le H H'→∀ o ∈ b.objs,RetO PP f ([.agg o.row.toArray,.bool false]++caps.toList) H' O (.bool false)) :
  RetO PP Dc [.agg (ao v b).toArray,.func (.func f) #[] caps] H O (.slice none 0 0):=by
 refine Fh (vs:=ao v b++[.func (.func f) #[] caps]) (by kernel_rfl) (aK (ap h) ⟨rfl,trivial⟩) ?_
 simp only[CW]
 refine ah fun r0=>?_
 have lo:=h.objs.len
 rw[List.length_map] at lo
 have h5:=hq.n5
 refine ae ?_
 refine ab _ lo ?_
 refine eE b.objs.length (fun i x H' O'=>O'=O∧x=.slice none 0 0∧Heap.le H H') ⟨rfl,rfl,Heap.le_refl _⟩ ?_
 rintro i x H' O' hi - ⟨rfl,rfl,hle⟩
 refine ab _ (aG _ _) (aj (fun hb=>?_) (fun hb=>af ⟨rfl,rfl⟩))
 have hlt:i < b.objs.length:=by simpa using hb
 have hm:=List.getElem_mem hlt
 have hr:=h.le hle
 obtain⟨a,i1,i2,_,i3,i4⟩:=hr.objs.idx .i64 i (Ob.row b.objs[i]) (by simp[hlt])
 refine ab _ i1 (aA i2 i3 i4 (ah fun r1=>?_))
 unfold qn qo
 refine ae (ae (ae ?_))
 have f0:RSl H' O' 1 v.f0 (aJ []):=by have:=hr.s0.field;rwa [hq.q0.field] at this
 have f1:RSl H' O' 1 v.f1 (aJ []):=by have:=hr.s1.field;rwa [hq.q1.field] at this
 refine⟨.i64,b.objs[i].owner,rfl,fun _=>?_,fun hne=>⟨.i64,b.objs[i].owner,rfl,fun _=>?_,fun hne'=>?_⟩⟩
 ·refine ae (ae ?_)
  refine am (aZ f0 b.objs[i].id) rfl ⟨rfl,trivial⟩ fun H3 l3=>?_
  refine dU rfl hok (hp H3 (Heap.le_trans hle l3) _ hm) rfl ⟨rfl,trivial⟩ fun H4 l4=>aj (fun hd=>by cases hd) (fun _=>?_)
  refine ab _ (aD (by omega)) (aV (by simp[Eqs,E]) hlt ⟨rfl,rfl,Heap.le_trans hle (Heap.le_trans l3 l4)⟩)
 ·refine ae (ae ?_)
  refine am (aZ f1 b.objs[i].id) rfl ⟨rfl,trivial⟩ fun H3 l3=>?_
  refine dU rfl hok (hp H3 (Heap.le_trans hle l3) _ hm) rfl ⟨rfl,trivial⟩ fun H4 l4=>aj (fun hd=>by cases hd) (fun _=>?_)
  refine ab _ (aD (by omega)) (aV (by simp[Eqs,E]) hlt ⟨rfl,rfl,Heap.le_trans hle (Heap.le_trans l3 l4)⟩)
 ·have:=hq.own _ hm
  omega
theorem ItsR.ownM {H:Heap} {O O':Go.Sx.Own} {v:Value} {l:List It} (h:ItsR H O v l) (ho:∀ p ∈ O,p ∈ O'):ItsR H O' v l :=
 let ⟨rows,h1,h2,h3⟩:=h;⟨rows,h1.own ho,h2,fun i r x a b=>let ⟨s,e,k⟩:=h3 i r x a b;⟨s,e,k.own ho⟩⟩
theorem BdR.ownM {H:Heap} {O O':Go.Sx.Own} {v:cI} {b:Bd} (h:BdR H O v b) (ho:∀ p ∈ O,p ∈ O'):BdR H O' v b :=
 ⟨h.objs.own ho,⟨h.s0.lib.own ho,h.s0.hand.own ho,h.s0.field.own ho,h.s0.grave.own ho⟩,⟨h.s1.lib.own ho,h.s1.hand.own ho,h.s1.field.own ho,h.s1.grave.own ho⟩,ItsR.ownM h.stack ho,ItsR.ownM h.queue ho,h.att.own ho,h.blocks.own ho⟩
theorem Qw (o:Ob) (r:Nat) (H:Heap) (O:Go.Sx.Own):RetO PP uF ([.agg o.row.toArray,.bool false]++(#[gp r]:Array Value).toList) H O (.bool false):=by
 refine yF (vs:=o.row++[.bool false,gp r]) (by kernel_rfl) (aK (ga o) ⟨rfl,rfl,trivial⟩) ?_
 simp only[um]
 refine ah fun r0=>?_
 exact aj (fun hd=>by cases hd) (fun _=>af ⟨rfl,rfl⟩)
theorem Td (o:Ob) (h:0≤o.card) (H:Heap) (O:Go.Sx.Own):RetO PP xh ([.agg o.row.toArray,.bool false]++(#[]:Array Value).toList) H O (.bool false):=by
 refine AU (vs:=o.row++[.bool false]) (by kernel_rfl) (aK (ga o) ⟨rfl,trivial⟩) ?_
 simp only[wI]
 refine ah fun r0=>?_
 refine ae ?_
 refine ab _ (aG _ _) ?_
 refine ai ?_
 refine ab _ (aC _) ?_
 refine ai ?_
 refine ab _ (bu _ _) (af ⟨?_,rfl⟩)
 rw[decide_eq_false (by omega)];rfl
theorem Ti {H:Heap} {O:Go.Sx.Own} {cv:Value} (hc:cv.oneCell'=true) {v:cI} {b:Bd} (h:BdR H O v b) (hq:Qt b):RetO PP Az [cv,.agg (ao v b).toArray] H O (.slice none 0 0):=by
 refine Dv (vs:=cv::ao v b) (by kernel_rfl) ⟨hc,ap h⟩ ?_
 simp only[Am]
 refine ah fun r0=>ah fun r1=>?_
 refine ae ?_
 refine gv (own:=[⟨r0,24,[cv]⟩]) (O1:=O) (O2:=[]) (by simp) (R:=fun x _ O3=>x=.slice none 0 0∧O3=O) ?_ ⟨rfl,⟨hc,trivial⟩,trivial⟩ ?_
 ·refine Triple.mono (NN (O:=[(r0,_)]++O) (caps:=#[gp r0]) (BdR.ownM h fun p hp=>List.mem_append_right _ hp) hq (dE fc (by decide)) fun H' _ o _=>Qw o r0 H' _) ?_
  rintro x _ _ _ ⟨rfl,rfl⟩
  exact⟨O,rfl,rfl,rfl⟩
 ·rintro _ H1 _ ⟨rfl,rfl⟩ l1
  refine⟨[.slice none 0 0],rfl,⟨rfl,trivial⟩,?_⟩
  exact af ⟨rfl,by simp⟩
theorem Tc {H:Heap} {O:Go.Sx.Own} {v:cI} {b:Bd} (h:BdR H O v b) (hq:Qt b):RetO PP Df [.agg (ao v b).toArray] H O (.slice none 0 0):=by
 refine Fj (vs:=ao v b) (by kernel_rfl) (ap h) ?_
 simp only[CX]
 refine ah fun r0=>?_
 refine ae ?_
 refine am (NN (caps:=#[]) h hq (dE fc (by decide)) fun H' _ o ho=>Td o (hq.tok o ho) H' _) rfl ⟨rfl,trivial⟩ fun H1 l1=>?_
 exact af ⟨rfl,rfl⟩
theorem JA {H:Heap} {O:Go.Sx.Own} {cv:Value} (hc:cv.oneCell'=true) {v:cI} {b:Bd} (h:BdR H O v b) (hq:Qt b):RetO PP xi [cv,.agg (ao v b).toArray] H O (.bool true):=by
 refine AV (vs:=cv::ao v b) (by kernel_rfl) ⟨hc,ap h⟩ ?_
 simp only[wJ]
 refine ah fun r0=>?_
 refine ae ?_
 refine am (bE h) rfl ⟨rfl,trivial⟩ fun H1 l1=>?_
 rw[hq.val]
 refine aj (fun _=>?_) (fun hd=>by cases hd)
 refine ae (ae ?_)
 refine am (Ti hc (h.le l1) hq) rfl ⟨rfl,trivial⟩ fun H2 l2=>?_
 refine ab (iV 0) rfl ?_
 refine am (Tc (h.le (Heap.le_trans l1 l2)) hq) rfl ⟨rfl,trivial⟩ fun H3 l3=>?_
 refine ab (iV 0) rfl (ab (iV 0) rfl (ab (.bool true) rfl (af ⟨rfl,rfl⟩)))
def PL (b:Bd):Bool:=b.s0.empty || (b.s0.life == 0)
def PI (b:Bd):Bool:=b.s1.empty || (b.s1.life == 0)
theorem Rh {H:Heap} {O:Go.Sx.Own} {v:cI} {b:Bd} (h:BdR H O v b):RetO PP Dh [.agg (ao v b).toArray] H O (.agg #[.bool (PL b),.bool (PI b)]):=by
 refine Fo (vs:=ao v b) (by kernel_rfl) (ap h) ?_
 simp only[CY]
 refine ah fun r0=>ah fun r1=>?_
 refine ae ?_
 refine ah fun r2=>?_
 refine ae (ae (ae (ai (ai ?_))))
 refine ab _ (aw _ _) ?_
 refine ai ?_
 refine ab _ (aO _ _) ?_
 refine ae ?_
 refine ah fun r3=>?_
 refine ae (ae (ae (ai (ai ?_))))
 refine ab _ (aw _ _) ?_
 refine ai ?_
 refine ab _ (aO _ _) ?_
 refine ae (ae (ae (ae ?_)))
 exact af ⟨rfl,rfl⟩
theorem MN {b:Bd} (h:Qt b):PL b=b.s0.empty∧PI b=b.s1.empty:=by
 have h0:=h.q0.life.1
 have h1:=h.q1.life.1
 constructor
 ·rw[PL,beq_eq_false_iff_ne.2 (by omega),Bool.or_false]
 ·rw[PI,beq_eq_false_iff_ne.2 (by omega),Bool.or_false]
theorem N5 {H:Heap} {O:Go.Sx.Own} {cv:Value} (hc:cv.oneCell'=true) {v:cI} {b:Bd} (h:BdR H O v b) (hq:Qt b):RetO PP xg [cv,.agg (ao v b).toArray] H O (iV 0):=by
 refine AT (vs:=cv::ao v b) (by kernel_rfl) ⟨hc,ap h⟩ ?_
 simp only[wH]
 refine ah fun r0=>?_
 have ls:al .len [v.s]=some (iV 0):=by
  obtain⟨rows,h1,h2,_⟩:=h.stack
  rw[hq.st] at h2
  have:=h1.len
  rwa [h2] at this
 refine ae ?_
 refine ab _ ls ?_
 exact ab (.bool true) rfl (aj (fun _=>af ⟨rfl,rfl⟩) (fun hd=>by cases hd))
theorem GZ {H:Heap} {cv:Value} {ks:List Int} (hk:KindS H cv ks) {v:cI} {b:Bd} (h:BdS H v b) (hq:Qt b):Triple PP lT [cv,.agg (ao v b).toArray] H [] fun r _ O'=>(∃ u,r=u∧al .len [u]=some (iV 0)∧u.oneCell'=true)∧O'=[]:=by
 refine rc (vs:=cv::ao v b) (by kernel_rfl) ⟨hk.one,ap (h.r [])⟩ ?_
 simp only[lG]
 refine ah fun r0=>ah fun r1=>?_
 have hcr:iC ks b b.active=[]:=by
  have hf:∀ o ∈ b.objs,xY ks b b.active o=false:=fun o _=>by
   simp only[xY]
   rcases hq.ac with e | e <;> simp[e,cg,hq.q0.field,hq.q1.field]
  rw[iC]
  split
  ·rw[List.filter_eq_nil_iff.2 (fun o ho=>by rw[hf o ho];simp)];rfl
  ·rfl
 refine ae (ae (ae ?_))
 refine az (wy hk h b.active) fun x H1 O1 hx l1=>⟨[x],rfl,⟨hx.one,trivial⟩,?_⟩
 rw[hcr] at hx
 rw[List.append_nil]
 refine gv (own:=[⟨r1,43,ao v b⟩,⟨r0,24,[cv]⟩]) (O1:=O1) (O2:=[]) (by simp) (R:=fun y _ O3=>∃ A',OSl aQ 1 y [] A') ?_ ⟨rfl,ap (h.r []),rfl,⟨hk.one,trivial⟩,trivial⟩ ?_
 ·refine Triple.mono (mM (B:=[(r1,Obj.cells (ao v b).toArray 43 (0,0)),(r0,Obj.cells [cv].toArray 24 (0,0))]) (pr:=fun _=>false) hx (f:=re) (caps:=#[gp r1,gp r0]) rfl (dE fc (by decide)) fun H' _ row hr=>by cases hr) ?_
  rintro y _ _ _ ⟨A',rfl,hA⟩
  exact⟨A',rfl,A',by simpa [aJ] using hA⟩
 ·rintro y H2 O2 ⟨A',hA⟩ l2
  refine⟨[y],rfl,⟨hA.one,trivial⟩,?_⟩
  exact qJ ⟨⟨y,rfl,by simpa using hA.len,hA.one⟩,rfl⟩
def Wd (H:Heap):Prop:=∃ ws:Nat→List UInt8,∀ i,i < 11→ws i ≠ []∧H.read (.pointer (some ⟨0,i,none⟩)) 1=some [Str (ws i)]
theorem Wd.le {H H':Heap} (h:Wd H) (hl:Heap.le H H'):Wd H':=let ⟨ws,k⟩:=h;⟨ws,fun i hi=>⟨(k i hi).1,hl.read (k i hi).2⟩⟩
theorem UN {H:Heap} (hw:Wd H) {n:Nat} (hn:n < 11):∃ l,l ≠ []∧∀ O,RetO PP Ax [iV n] H O (Str l):=by
 obtain⟨ws,k⟩:=hw
 refine⟨ws n,(k n hn).1,fun O=>?_⟩
 refine Du (vs:=[iV n]) (by kernel_rfl) ⟨rfl,trivial⟩ ?_
 simp only[Ak]
 refine ab _ (aG _ _) ?_
 refine ai ?_
 refine ab _ (eC _ _) ?_
 refine ai ?_
 refine ab _ (aO _ _) (aj (fun hd=>?_) (fun _=>?_))
 ·rw[Bool.or_eq_true,decide_eq_true_eq,decide_eq_true_eq] at hd
  omega
 refine ab (.pointer (some ⟨0,n,none⟩)) (by simp[al,fA,g,Addr.add];omega) ?_
 exact aA (.inl (k n hn).2) rfl ⟨rfl,trivial⟩ (af ⟨rfl,rfl⟩)
theorem US {H:Heap} (hw:Wd H) (O:Go.Sx.Own) {p:Int} (hp:p=4∨p=9):RetO PP s4 [iV p,.bool false] H O (iV (p + 1)):=by
 obtain⟨n,rfl⟩:∃ n:Nat,p=n:=⟨p.toNat,by omega⟩
 obtain⟨l,h1,h2⟩:=UN hw (n:=n) (by omega)
 refine tq (vs:=[iV n,.bool false]) (by kernel_rfl) ⟨rfl,rfl,trivial⟩ ?_
 simp only[sY]
 unfold jV
 refine ab _ (aw _ _) (aj (fun hd=>by have:=beq_iff_eq.1 hd;omega) (fun _=>?_))
 refine ab _ (aw _ _) (aj (fun hd=>by have:=beq_iff_eq.1 hd;omega) (fun _=>?_))
 refine ab _ (aw _ _) (aj (fun hd=>by have:=beq_iff_eq.1 hd;omega) (fun _=>?_))
 refine am (h2 O) rfl ⟨rfl,trivial⟩ fun H1 l1=>?_
 refine ab _ (RD l []) (aj (fun hd=>absurd (eq_of_beq hd) h1) (fun _=>?_))
 exact ab _ (aD (by omega)) (af ⟨rfl,rfl⟩)
theorem Tv (H:Heap) (O:Go.Sx.Own):RetO PP s4 [iV 5,.bool false] H O (iV 9):=by
 refine tq (vs:=[iV 5,.bool false]) (by kernel_rfl) ⟨rfl,rfl,trivial⟩ ?_
 simp only[sY]
 unfold jV
 refine ab _ (aw _ _) (aj (fun hd=>by cases hd) (fun _=>?_))
 refine ab _ (aw _ _) (aj (fun hd=>by cases hd) (fun _=>?_))
 refine ab _ (aw _ _) (aj (fun _=>?_) (fun hd=>by cases hd))
 exact ab _ (aC _) (aj (fun _=>af ⟨rfl,rfl⟩) (fun hd=>by cases hd))
theorem NS {H:Heap} {O:Go.Sx.Own} {r:Nat} {T:TypeId} {w:cI} {b:Bd} (hm:(r,Obj.cells (ao w b).toArray T (0,0)) ∈ O) (h:BdR H O w b) (h5:b.objs.length≤500) (f0:b.s0.field=[]) (f1:b.s1.field=[]) {p:Int} (hp:p=0∨p=1) {fv:Value} (hf:fv.oneCell'=true) :
  RetO PP lK [gp r,iV p,fv] H O (.tuple #[]):=by
 refine AN (vs:=[gp r,iV p,fv]) (by kernel_rfl) ⟨rfl,rfl,hf,trivial⟩ ?_
 simp only[wB]
 refine ak rfl (ak rfl ?_)
 have hones:=ap h
 refine au hm [w.o] rfl rfl ⟨h.objs.one,trivial⟩ ?_
 have lo:=h.objs.len
 rw[List.length_map] at lo
 refine ab _ lo ?_
 refine aY b.objs.length (fun i H' O'=>O'=O∧Heap.le H H') ⟨rfl,Heap.le_refl _⟩ ?_
 rintro i H' O' hi - ⟨rfl,hle⟩
 refine ab _ (aG _ _) (aj (fun hb=>?_) (fun hb=>af ⟨rfl,rfl⟩))
 have hlt:i < b.objs.length:=by simpa using hb
 have hr:=h.le hle
 obtain⟨a,i1,i2,_,i3,i4⟩:=hr.objs.idx .i64 i (Ob.row b.objs[i]) (by simp[hlt])
 refine ab _ i1 (aA i2 i3 i4 (ah fun r1=>?_))
 have g0:RSl H' O' 1 w.f0 (aJ []):=by have:=hr.s0.field;rwa [f0] at this
 have g1:RSl H' O' 1 w.f1 (aJ []):=by have:=hr.s1.field;rwa [f1] at this
 refine ae (ak rfl (ak rfl ?_))
 rcases hp with rfl | rfl
 ·refine ab (.pointer (some ⟨r,1,none⟩)) rfl ?_
  refine ak rfl ?_
  refine au hm [w.f0] rfl rfl ⟨g0.one,trivial⟩ ?_
  refine ae ?_
  refine am (aZ g0 b.objs[i].id) rfl ⟨rfl,trivial⟩ fun H3 l3=>aj (fun hd=>by cases hd) (fun _=>?_)
  exact ab _ (aD (by omega)) (aN (by simp[Eqs,E]) hlt ⟨rfl,Heap.le_trans hle l3⟩)
 ·refine ab (.pointer (some ⟨r,15,none⟩)) rfl ?_
  refine ak rfl ?_
  refine au hm [w.f1] rfl rfl ⟨g1.one,trivial⟩ ?_
  refine ae ?_
  refine am (aZ g1 b.objs[i].id) rfl ⟨rfl,trivial⟩ fun H3 l3=>aj (fun hd=>by cases hd) (fun _=>?_)
  exact ab _ (aD (by omega)) (aN (by simp[Eqs,E]) hlt ⟨rfl,Heap.le_trans hle l3⟩)
theorem LN {v:Value} {w:cI} {b:Bd} {H:Heap} {O:Go.Sx.Own} {Q:Value→Heap→Go.Sx.Own→Prop} (ho:OwnB tys w b O) (hk:∀ H',Heap.le H H'→BdS H' w b→Q v H' []):(Tree.ret v []).den PP Q H O:=fun hc=>by
 obtain⟨H',g,hs,l⟩:=ho.freeze (X:=[]) (by simpa using hc)
 exact⟨H',[],by simpa using g,hk H' l hs⟩
def VG (s:St):St:={ s with p0:=0,p1:=0,p2:=0,p3:=0,played:=false,acts:=0 }
def fY (b:Bd):Bd:={ b with s0:=VG b.s0,s1:=VG b.s1,att:=[],blocks:=[],turn:=b.turn + 1,active:=if b.turn=0 then 0 else 1 - b.active,phase:=1,holder:=-1,passes:=0 }
def BdT (b:Bd) (r:Value) (H':Heap) (O':Go.Sx.Own):Prop:=(∃ w,r=.tuple #[.agg (ao w b).toArray,iV 0]∧BdS H' w b)∧O'=[]
def BdF (b:Bd) (r:Value) (H':Heap) (O':Go.Sx.Own):Prop:=(∃ w,r=.agg (ao w b).toArray∧BdS H' w b)∧O'=[]
theorem N9 {H:Heap} {v:cI} {b:Bd} (h:BdS H v b) (hq:Qt b) (ht:b.turn < 1000):Triple PP xd [.agg (ao v b).toArray] H [] (BdT (fY b)):=by
 refine AP (vs:=ao v b) (by kernel_rfl) (ap (h.r [])) ?_
 simp only[wE]
 refine ah fun r0=>ah fun r1=>?_
 refine ae ?_
 refine am (bE (h.r [])) rfl ⟨rfl,trivial⟩ fun H1 l1=>?_
 rw[hq.val]
 refine ab _ (aC _) (aj (fun hd=>by cases hd) (fun _=>?_))
 refine ae ?_
 refine ab _ (aw _ _) (aj (fun hd=>by have:=beq_iff_eq.1 hd;omega) (fun _=>?_))
 refine ae ?_
 refine az (GX (h.le l1) hq.B) ?_
 rintro _ H2 O2 ⟨w,rfl,ho⟩ l2
 refine⟨ao w b,rfl,tM H2 ho,?_⟩
 rw[List.append_nil]
 refine ae (ae ?_)
 have hac:=hq.ac
 have htu:=hq.tu
 refine ab (iV (1 - b.active)) (by simp only[g,ao,List.getD_cons_zero,List.getD_cons_succ,al,bA,bq,if_true];rw[dN (by omega) (by omega)]) ?_
 refine ae (ae ?_)
 refine ab _ (aw _ _) ?_
 have hadd:al (.bin .add .int) [iV b.turn,iV 1]=some (iV (b.turn + 1)):=by
  simp only[al,bA,bq,if_true]
  rw[dN (by omega) (by omega)]
 have key:∀ (a:Int),a=0∨a=1→a=(fY b).active→∀ (H3:Heap),Heap.le H2 H3→∀ K:List Value→List (List Value)→Heap→Go.Sx.Own→Prop,
   (∀ H4,Heap.le H3 H4→K [] [ao { w with a:=.slice none 0 0,b:=.slice none 0 0 } (fY b)] H4 O2) →
   dc (fun H1 O1 R=>Triple PP lK [gp r0,iV a,.func (.func BH) #[] #[]] H1 O1 R) false [] [⟨r0,43,ao { w with a:=.slice none 0 0,b:=.slice none 0 0 } (fY b)⟩] (.tup []) K H3 O2:=by
  intro a ha _ H3 l3 K hK
  refine gv (O1:=O2) (O2:=[]) (by simp) (R:=fun x _ O3=>x=.tuple #[]∧O3=O2) ?_ ⟨rfl,?_,trivial⟩ ?_
  ·have hR:=ho.r (O':=([⟨r0,43,ao { w with a:=.slice none 0 0,b:=.slice none 0 0 } (fY b)⟩]:List BV).map BV.obj++O2) (fun p hp=>List.mem_append_right _ hp) H3
   refine Triple.mono (NS (w:={ w with a:=.slice none 0 0,b:=.slice none 0 0 }) (b:=fY b) (T:=43) (r:=r0) (by simp[BV.obj]) ⟨hR.objs,⟨hR.s0.lib,hR.s0.hand,hR.s0.field,hR.s0.grave⟩,⟨hR.s1.lib,hR.s1.hand,hR.s1.field,hR.s1.grave⟩,hR.stack,hR.queue,(Sl.nil _ _).rsl _,(Sl.nil _ _).rsl _⟩ hq.n5 hq.q0.field hq.q1.field ha rfl) ?_
   rintro x _ _ _ ⟨rfl,rfl⟩
   exact⟨O2,rfl,rfl,rfl⟩
  ·have hR:=ho.r (O':=O2) (fun p hp=>hp) H3
   exact ap (H:=H3) (O:=O2) (b:=fY b) ⟨hR.objs,⟨hR.s0.lib,hR.s0.hand,hR.s0.field,hR.s0.grave⟩,⟨hR.s1.lib,hR.s1.hand,hR.s1.field,hR.s1.grave⟩,hR.stack,hR.queue,(Sl.nil _ _).rsl _,(Sl.nil _ _).rsl _⟩
  ·rintro _ H4 _ ⟨rfl,rfl⟩ l4
   exact⟨[],rfl,trivial,by simpa using hK H4 l4⟩
 have fin:∀ H4,(fh r0 r1 [ao { w with a:=.slice none 0 0,b:=.slice none 0 0 } (fY b)]).den PP (BdT (fY b)) H4 O2:=by
  intro H4
  unfold fh
  refine ae (ae (ae ?_))
  exact LN ho fun H5 _ hs=>⟨⟨{ w with a:=.slice none 0 0,b:=.slice none 0 0 },rfl,⟨hs.objs,⟨hs.s0.lib,hs.s0.hand,hs.s0.field,hs.s0.grave⟩,⟨hs.s1.lib,hs.s1.hand,hs.s1.field,hs.s1.grave⟩,hs.stack,hs.queue,Sl.nil _ _,Sl.nil _ _⟩⟩,rfl⟩
 refine aj (fun hd=>?_) (fun hd=>?_)
 ·have h0:b.turn=0:=beq_iff_eq.1 hd
  refine ae (ae ?_)
  refine ab _ hadd ?_
  repeat (first | refine ae ?_ | refine ai ?_ | refine ak rfl ?_)
  have e:(fY b).active=0:=if_pos h0
  have:=key 0 (.inl rfl) e.symm H2 (Heap.le_refl _) (fun _ cs H4 O4=>(fh r0 r1 cs).den PP (BdT (fY b)) H4 O4) (fun H4 _=>fin H4)
  have eb:ao { w with a:=.slice none 0 0,b:=.slice none 0 0 } (fY b)=ao { w with a:=.slice none 0 0,b:=.slice none 0 0 } { fY b with active:=0 }:=by rw[← e]
  rw[eb] at this
  exact this
 ·have h0:¬ b.turn=0:=beq_eq_false_iff_ne.1 hd
  refine ae ?_
  refine ab _ hadd ?_
  repeat (first | refine ae ?_ | refine ai ?_ | refine ak rfl ?_)
  have e:(fY b).active=1 - b.active:=if_neg h0
  have:=key (1 - b.active) (by omega) e.symm H2 (Heap.le_refl _) (fun _ cs H4 O4=>(fh r0 r1 cs).den PP (BdT (fY b)) H4 O4) (fun H4 _=>fin H4)
  have eb:ao { w with a:=.slice none 0 0,b:=.slice none 0 0 } (fY b)=ao { w with a:=.slice none 0 0,b:=.slice none 0 0 } { fY b with active:=1 - b.active }:=by rw[← e]
  rw[eb] at this
  exact this
def Pg (s:St):St:={ s with p0:=0,p1:=0,p2:=0,p3:=0 }
def kr (b:Bd):Bd:={ b with s0:=Pg b.s0,s1:=Pg b.s1 }
theorem TF {H:Heap} {v:cI} {b:Bd} (h:BdS H v b) (hq:Qt b):Triple PP xc [.agg (ao v b).toArray] H [] (BdF (kr b)):=by
 refine AO (vs:=ao v b) (by kernel_rfl) (ap (h.r [])) ?_
 simp only[wC]
 refine ah fun r0=>ah fun r1=>?_
 refine ae ?_
 refine am (bE (h.r [])) rfl ⟨rfl,trivial⟩ fun H1 l1=>?_
 rw[hq.val]
 refine ab _ (aC _) (aj (fun hd=>by cases hd) (fun _=>?_))
 refine ae ?_
 refine az (GX (h.le l1) hq.B) ?_
 rintro _ H2 O2 ⟨w,rfl,ho⟩ l2
 refine⟨ao w b,rfl,tM H2 ho,?_⟩
 rw[List.append_nil]
 refine ae (ae ?_)
 have step:∀ (c:Bd),c.objs=b.objs→c.s0.lib=b.s0.lib→c.s0.hand=b.s0.hand→c.s0.field=b.s0.field→c.s0.grave=b.s0.grave→c.s1.lib=b.s1.lib→c.s1.hand=b.s1.hand→c.s1.field=b.s1.field→c.s1.grave=b.s1.grave→c.stack=b.stack→c.queue=b.queue→c.att=b.att→c.blocks=b.blocks →
   ∀ (a:Int),a=0∨a=1→∀ (H3:Heap) (K:List Value→List (List Value)→Heap→Go.Sx.Own→Prop),(∀ H4,Heap.le H3 H4→K [] [ao w c] H4 O2) →
   dc (fun H1 O1 R=>Triple PP lK [gp r0,iV a,.func (.func nW) #[] #[]] H1 O1 R) false [] [⟨r0,43,ao w c⟩] (.tup []) K H3 O2:=by
  intro c e1 e2 e3 e4 e5 e6 e7 e8 e9 e10 e11 e12 e13 a ha H3 K hK
  have tr:∀ {O':Go.Sx.Own},BdR H3 O' w b→BdR H3 O' w c:=fun hR=>⟨by rw[e1];exact hR.objs,⟨by rw[e2];exact hR.s0.lib,by rw[e3];exact hR.s0.hand,by rw[e4];exact hR.s0.field,by rw[e5];exact hR.s0.grave⟩,⟨by rw[e6];exact hR.s1.lib,by rw[e7];exact hR.s1.hand,by rw[e8];exact hR.s1.field,by rw[e9];exact hR.s1.grave⟩,by rw[e10];exact hR.stack,by rw[e11];exact hR.queue,by rw[e12];exact hR.att,by rw[e13];exact hR.blocks⟩
  refine gv (O1:=O2) (O2:=[]) (by simp) (R:=fun x _ O3=>x=.tuple #[]∧O3=O2) ?_ ⟨rfl,ap (tr (ho.r (O':=O2) (fun p hp=>hp) H3)),trivial⟩ ?_
  ·have hR:=ho.r (O':=([⟨r0,43,ao w c⟩]:List BV).map BV.obj++O2) (fun p hp=>List.mem_append_right _ hp) H3
   refine Triple.mono (NS (w:=w) (b:=c) (T:=43) (r:=r0) (by simp[BV.obj]) (tr hR) (by rw[e1];exact hq.n5) (by rw[e4];exact hq.q0.field) (by rw[e8];exact hq.q1.field) ha rfl) ?_
   rintro x _ _ _ ⟨rfl,rfl⟩
   exact⟨O2,rfl,rfl,rfl⟩
  ·rintro _ H4 _ ⟨rfl,rfl⟩ l4
   exact⟨[],rfl,trivial,by simpa using hK H4 l4⟩
 refine step { b with s0:=Pg b.s0 } rfl rfl rfl rfl rfl rfl rfl rfl rfl rfl rfl rfl rfl 0 (.inl rfl) H2 _ fun H3 l3=>?_
 refine ae ?_
 refine step (kr b) rfl rfl rfl rfl rfl rfl rfl rfl rfl rfl rfl rfl rfl 1 (.inr rfl) H3 _ fun H4 l4=>?_
 refine ae (ae (ae ?_))
 exact LN ho fun H5 _ hs=>⟨⟨w,rfl,⟨hs.objs,⟨hs.s0.lib,hs.s0.hand,hs.s0.field,hs.s0.grave⟩,⟨hs.s1.lib,hs.s1.hand,hs.s1.field,hs.s1.grave⟩,hs.stack,hs.queue,hs.att,hs.blocks⟩⟩,rfl⟩
theorem Qo {H:Heap} {O:Go.Sx.Own} {cv:Value} (hc:cv.oneCell'=true) {v:cI} {b:Bd} (h:BdR H O v b) (hq:Qt b) {p:Int} (hp:p=0∨p=1):RetO PP xe [cv,.agg (ao v b).toArray,.agg #[iV 3,iV 0,iV p]] H O (.slice none 0 0):=by
 refine AQ (vs:=cv::(ao v b++[iV 3,iV 0,iV p])) (by kernel_rfl) ⟨hc,aK (ap h) ⟨rfl,rfl,rfl,trivial⟩⟩ ?_
 simp only[wF]
 refine ah fun r0=>ah fun r1=>?_
 refine ae ?_
 refine am (bE h) rfl ⟨rfl,trivial⟩ fun H1 l1=>?_
 rw[hq.val]
 refine ab _ (aC _) (aj (fun hd=>by cases hd) (fun _=>?_))
 have f0:RSl H1 O 1 v.f0 (aJ []):=by have:=(h.le l1).s0.field;rwa [hq.q0.field] at this
 have f1:RSl H1 O 1 v.f1 (aJ []):=by have:=(h.le l1).s1.field;rwa [hq.q1.field] at this
 have lo:=h.objs.len
 rw[List.length_map] at lo
 have h5:=hq.n5
 refine ae ?_
 refine ab _ (aw _ _) (aj (fun hd=>by cases hd) (fun _=>?_))
 refine ab _ (aw _ _) ?_
 unfold mf
 refine aj (fun hd=>by cases hd) (fun _=>?_)
 refine ab _ (aw _ _) (aj (fun _=>?_) (fun hd=>by cases hd))
 refine ae ?_
 refine ab _ (fx _ _) ?_
 refine ae (ai (ai ?_))
 refine ab _ (fx _ _) ?_
 refine ai ?_
 refine ab _ (bu _ _) (aj (fun hd=>?_) (fun _=>?_))
 ·rcases hp with rfl | rfl <;> cases hd
 refine ae ?_
 unfold me
 refine⟨.i64,p,rfl,fun e=>?_,fun e=>⟨.i64,p,rfl,fun e=>?_,fun e'=>absurd e' (by omega)⟩⟩
 ·refine ae (ae ?_)
  refine ab _ lo ?_
  refine eE b.objs.length (fun i x H' O'=>O'=O∧x=.slice none 0 0∧Heap.le H1 H') ⟨rfl,rfl,Heap.le_refl _⟩ ?_
  rintro i x H' O' hi - ⟨rfl,rfl,hle⟩
  refine ab _ (aG _ _) (aj (fun hb=>?_) (fun hb=>af ⟨rfl,rfl⟩))
  have hlt:i < b.objs.length:=by simpa using hb
  obtain⟨a,i1,i2,_,i3,i4⟩:=((h.le l1).le hle).objs.idx .i64 i (Ob.row b.objs[i]) (by simp[hlt])
  refine ab _ i1 (aA i2 i3 i4 (ah fun r3=>?_))
  refine ae (ae ?_)
  refine am (aZ (f0.le hle) b.objs[i].id) rfl ⟨rfl,trivial⟩ fun H3 l3=>aj (fun hd=>by cases hd) (fun _=>?_)
  exact ab _ (aD (by omega)) (aV (by simp[Eqs,E]) hlt ⟨rfl,rfl,Heap.le_trans hle l3⟩)
 ·refine ae (ae ?_)
  refine ab _ lo ?_
  refine eE b.objs.length (fun i x H' O'=>O'=O∧x=.slice none 0 0∧Heap.le H1 H') ⟨rfl,rfl,Heap.le_refl _⟩ ?_
  rintro i x H' O' hi - ⟨rfl,rfl,hle⟩
  refine ab _ (aG _ _) (aj (fun hb=>?_) (fun hb=>af ⟨rfl,rfl⟩))
  have hlt:i < b.objs.length:=by simpa using hb
  obtain⟨a,i1,i2,_,i3,i4⟩:=((h.le l1).le hle).objs.idx .i64 i (Ob.row b.objs[i]) (by simp[hlt])
  refine ab _ i1 (aA i2 i3 i4 (ah fun r3=>?_))
  refine ae (ae ?_)
  refine am (aZ (f1.le hle) b.objs[i].id) rfl ⟨rfl,trivial⟩ fun H3 l3=>aj (fun hd=>by cases hd) (fun _=>?_)
  exact ab _ (aD (by omega)) (aV (by simp[Eqs,E]) hlt ⟨rfl,rfl,Heap.le_trans hle l3⟩)
theorem J4 {e:TypeId} {size:Nat} {u:Value} {A:Go.Sx.Own} (h:OSl e size u [] A) (H:Heap):Sl H size u []:=by
 rcases h with ⟨⟨a,rfl⟩,_,_⟩ | ⟨r,cs,cap,rfl,_,_,hlc,hcap,_⟩
 ·exact⟨a,0,rfl,Nat.le_refl _,by omega,fun h=>absurd rfl h⟩
 ·exact⟨_,cap,rfl,hlc,hcap,fun h=>absurd rfl h⟩
def Wb (H:Heap) (hs:Value):Prop:=∃ rows:List (List Value),Sl H 3 hs rows∧rows.length≤10∧∀ row ∈ rows,∃ p:Int,(p=0∨p=1)∧row=[iV 3,iV 0,iV p]
theorem N7 {H:Heap} {cv:Value} (hc:cv.oneCell'=true) {v:cI} {b:Bd} (h:BdS H v b) (hq:Qt b) {hs:Value} (hh:Wb H hs) {m:Int} (hm:0≤m∧m≤100) :
  Triple PP nb [cv,.agg (ao v b).toArray,hs,iV m] H [] fun r H' O'=>(∃ w,r=.tuple #[.agg (ao w b).toArray,iV 0,iV 0]∧BdS H' w b)∧O'=[]:=by
 obtain⟨rows,hr,hr10,hrow⟩:=hh
 refine sj (vs:=cv::(ao v b++[hs,iV m])) (by kernel_rfl) ⟨hc,aK (ap (h.r [])) ⟨hr.one,rfl,trivial⟩⟩ ?_
 simp only[mP]
 refine ah fun r0=>ah fun r1=>?_
 refine ab _ (aG _ _) (aj (fun hd=>by have:=of_decide_eq_true hd;omega) (fun _=>?_))
 refine ae ?_
 refine am (bE (h.r [])) rfl ⟨rfl,trivial⟩ fun H1 l1=>?_
 rw[hq.val]
 refine ab _ (aC _) (aj (fun hd=>by cases hd) (fun _=>?_))
 refine ab _ hr.len ?_
 refine eE rows.length (fun i x H' O'=>Heap.le H1 H'∧OSl ee 5 x [] O') ⟨Heap.le_refl _,OSl.nil _ _⟩ ?_
 rintro i x H' O' hi - ⟨hle,hx⟩
 have l1':=Heap.le_trans l1 hle
 refine ab _ (aG _ _) (aj (fun hb=>?_) (fun hb=>?_))
 ·have hlt:i < rows.length:=by simpa using hb
  obtain⟨p,hp,hpr⟩:=hrow _ (List.getElem_mem hlt)
  obtain⟨a,i1,i2,_,i3,i4⟩:=((hr.le l1').rsl O').idx .i64 i rows[i] (by simp[hlt])
  rw[hpr] at i2 i3 i4
  refine ab _ i1 (aA i2 i3 i4 (ah fun r2=>?_))
  refine ae (ae (ae ?_))
  refine am (Qo hc ((h.le l1').r O') hq hp) rfl ⟨rfl,trivial⟩ fun H2 l2=>?_
  refine aH (rows:=[]) (news:=[]) (O1:=O') (O2:=[]) (e:=ee) (size:=5) (bytes:=56) (by kernel_rfl) (by simp) hx (fun Hf _ _=>Sl.nil _ _) (by simp) (by simp) ?_
  intro y A' H3 l3 hA'
  exact ab _ (aD (by omega)) (aV (by simp[Eqs,E]) hlt ⟨Heap.le_trans hle (Heap.le_trans l2 l3),by rw[List.append_nil];exact hA'⟩)
 ·refine ae ?_
  refine az (GX (h.le l1') hq.B) ?_
  rintro _ H2 O2 ⟨w,rfl,ho⟩ l2
  refine⟨ao w b,rfl,tM H2 ho,ah fun r3=>?_⟩
  have xl:=hx.len
  have ql:al .len [w.q]=some (iV 0):=by
   obtain⟨rw',h1,h2,_⟩:=(ho.r (fun p hp=>hp) H2).queue
   rw[hq.qu] at h2
   have:=h1.len
   rwa [h2] at this
  refine ae ?_
  refine ab _ xl ?_
  refine ab (iV m) (by simp only[g,List.getD_cons_succ,List.getD_cons_zero,ao,List.cons_append,List.nil_append,al];rw[if_neg (by omega)]) ?_
  refine ae ?_
  refine ab _ ql ?_
  refine ab (iV m) (by simp only[al,bA,bq,if_true];rw[Int.sub_zero,dN (by omega) (by omega)]) ?_
  refine ab (iV m) (by simp only[al];congr 2;split <;> omega) ?_
  refine ab (iV 0) (by simp only[al,List.length_nil];rw[if_neg (by omega)];rfl) ?_
  refine ae ?_
  obtain⟨u,u1,u2⟩:=hx.upto (i:=0) (by simp)
  refine ab _ u1 ?_
  obtain⟨A,R,hA,hqA,back⟩:=OwnB.pick_queue ho
  rw[hq.qu] at hqA
  have hqA':OSl ee 5 w.q [] A:=by
   obtain⟨rw',A2,Ts,k1,k2,k3,k4,_⟩:=hqA
   have e1:rw'=[]:=List.eq_nil_of_length_eq_zero k3
   have e2:Ts=[]:=List.eq_nil_of_length_eq_zero k4
   subst e1;subst e2
   have k1:A.Perm A2:=by simpa using k1
   rcases k2 with ⟨ha,hb,rfl⟩ | ⟨r,cs,cap,g1,rfl,g2⟩
   ·exact .inl ⟨ha,hb,List.perm_nil.1 k1⟩
   ·exact .inr ⟨r,cs,cap,g1,List.perm_singleton.1 k1,g2⟩
  refine aH (rows:=[]) (news:=[]) (O1:=A) (O2:=R++O') (e:=ee) (size:=5) (bytes:=56) (by kernel_rfl) (by rw[← List.append_assoc];exact hA.append_right O') hqA' (fun Hf _ _=>J4 (by simpa using u2) Hf) (by simp) (by simp) ?_
  intro y A' H4 l4 hA'
  have hback:=back y [] A' ⟨[],A',[],by simp,hA',rfl,rfl,fun i r x T a=>by simp at a⟩
  have eb:({ b with queue:=[] }:Bd)=b:=by rw[← hq.qu]
  rw[eb] at hback
  refine ae (ae ?_)
  refine ab _ xl ?_
  refine ab (iV 0) rfl ?_
  refine ae (ae ?_)
  intro hcs
  rw[← List.append_assoc] at hcs
  obtain⟨H5,g5,k5,_⟩:=hback.freeze (X:=O') (by simpa using hcs)
  exact⟨H5,[],((Ghost.perm (by rw[← List.append_assoc];simp)).trans g5).trans (Ghost.drop _ _),⟨{ w with q:=y },rfl,k5⟩,rfl⟩
def cdF (cs:List CdF) (c:Int):CdF:=if c < 0∨c ≥ (cs.length:Int) then Rt else cs.getD c.toNat Rt
theorem SO {p:CdF→Prop} (hz:p Rt) {cs:List CdF} (h:∀ c ∈ cs,p c) (c:Int):p (cdF cs c):=by
 rw[cdF]
 split
 ·exact hz
 ·rename_i hn
  have hlt:c.toNat < cs.length:=by omega
  rw[List.getD_eq_getElem?_getD,List.getElem?_eq_getElem hlt]
  exact h _ (List.getElem_mem hlt)
theorem Vo:smC Rt:=⟨by decide,by decide,fun t h=>by cases h⟩
theorem Q8 {cs:List CdF} (h:∀ c ∈ cs,smC c) (c:Int):smC (cdF cs c):=SO Vo h c
def II (c:CdF):Cd:=⟨c.kind,c.effs.map (·.target),c.trs.map fun t=>t.2.length⟩
theorem CardsF.base {H:Heap} {v:Value} {cs:List CdF} (h:CardsF H v cs):CardsS H v (cs.map II):=by
 obtain⟨rows,h1,h2,h3⟩:=h
 refine⟨rows,h1,by simp[h2],fun i r c a b=>?_⟩
 have hi:i < cs.length:=by
  have:=(List.getElem?_eq_some_iff.1 a).1
  omega
 rw[List.getElem?_map,List.getElem?_eq_getElem hi] at b
 obtain rfl:=Option.some.inj b
 obtain⟨es,ts,rfl,he,trows,t1,t2,t3⟩:=h3 i r _ a (List.getElem?_eq_getElem hi)
 refine⟨rfl,zM he,trows,t1,by simp[II,t2],fun j q n a b=>?_⟩
 have hj:j < cs[i].trs.length:=by
  have:=(List.getElem?_eq_some_iff.1 a).1
  omega
 simp only[II] at b
 rw[List.getElem?_map,List.getElem?_eq_getElem hj] at b
 obtain rfl:=Option.some.inj b
 obtain⟨s,rfl,hs⟩:=t3 j q _ a (List.getElem?_eq_getElem hj)
 exact⟨_,hs,j8 _⟩
theorem Oi {cs:List CdF} (h:∀ c ∈ cs,smC c):zq (cs.map II)=true:=by
 rw[zq,List.all_eq_true]
 intro c hc
 obtain⟨x,hx,rfl⟩:=List.mem_map.1 hc
 obtain⟨h1,h2,h3⟩:=h x hx
 simp only[vI,II,List.length_map,Bool.and_eq_true,Bool.not_eq_true',Bool.or_eq_false_iff,decide_eq_false_iff_not,List.all_eq_true]
 refine⟨⟨by omega,by omega⟩,fun n hn=>?_⟩
 obtain⟨t,ht,rfl⟩:=List.mem_map.1 hn
 have:=h3 t ht
 simp;omega
theorem We (H:Heap):CdRF H (zV Rt (.slice none 0 0) (.slice none 0 0)) Rt:=⟨_,_,rfl,Sl.nil _ _,[],Sl.nil _ _,rfl,fun i r t a=>by simp at a⟩
theorem CN {H:Heap} {cv:Value} {cs:List CdF} (h:CardsF H cv cs) (hsm:∀ c ∈ cs,smC c) (o:Ob):Triple PP nX [cv,.agg o.row.toArray] H [] (CpQ (cdF cs o.card)):=by
 refine o4 (vs:=cv::o.row) (by kernel_rfl) ⟨h.one,ga o⟩ ?_
 simp only[nR]
 refine ah fun r0=>ah fun r1=>?_
 refine ae ?_
 refine az (R:=fun r H' O'=>(∃ cells:List Value,r=.agg cells.toArray∧cells.length=14∧CdRF H' cells (cdF cs o.card))∧O'=[]) ?_ ?_
 ·refine ki (vs:=cv::o.row) (by kernel_rfl) ⟨h.one,ga o⟩ ?_
  simp only[jU]
  refine ah fun r0=>ah fun r1=>?_
  refine ae ?_
  refine ab _ (aG _ _) ?_
  refine ae (ai (ai ?_))
  refine ab _ h.len ?_
  refine ai (ai ?_)
  refine ab _ (eC _ _) ?_
  refine ai ?_
  refine ab _ (aO _ _) (aj (fun hb=>?_) (fun hb=>?_))
  ·have hb:(decide (o.card < 0) || decide (o.card ≥ (cs.length:Int)))=true:=hb
   refine ae (ae ?_)
   refine af ⟨⟨zV Rt (.slice none 0 0) (.slice none 0 0),rfl,rfl,?_⟩,rfl⟩
   rw[cdF,if_pos (by simpa using hb)];exact We H
  ·have hb:(decide (o.card < 0) || decide (o.card ≥ (cs.length:Int)))=false:=hb
   simp only[Bool.or_eq_false_iff,decide_eq_false_iff_not] at hb
   obtain⟨n,hn⟩:∃ n:Nat,o.card=n:=⟨o.card.toNat,by omega⟩
   have hlt:n < cs.length:=by omega
   obtain⟨a,r,k1,k2,_,k4,k5,k6⟩:=zX [] h hlt
   rw[← hn] at k1
   refine ae ?_
   refine ab _ k1 (aA k2 k4 k5 ?_)
   refine ae (ae ?_)
   refine af ⟨⟨r,by rw[← JU k4];rfl,k4,?_⟩,rfl⟩
   rw[cdF,if_neg (by omega),hn,Int.toNat_natCast,List.getD_eq_getElem?_getD,List.getElem?_eq_getElem hlt]
   exact k6
 ·rintro _ H1 _ ⟨⟨cells,rfl,k1,k2⟩,rfl⟩ l1
  refine⟨cells,by simp[Shp.open,k1],k2.ones,?_⟩
  show Tree.den PP _ (cS 49 [ag (G14 cells 0)] (.agg 14) _) H1 _
  rw[show (ag (G14 cells 0):Value)=.agg cells.toArray from IK k1]
  refine az (EJ k2 (Q8 hsm _).lit) ?_
  rintro _ H2 _ ⟨⟨cells2,rfl,m1,m2⟩,rfl⟩ l2
  refine⟨cells2,by simp[Shp.open,m1],m2.ones,?_⟩
  refine ae (ae ?_)
  exact af ⟨⟨cells2,IK m1,m1,m2⟩,rfl⟩
theorem NK {H:Heap} {O:Go.Sx.Own} {cv:Value} {cs:List CdF} (hk:CardsF H cv cs) (hsm:∀ c ∈ cs,smC c) {v:cI} {b:Bd} (h:BdR H O v b) (hq:Qt b) {p:Int} (hp:p=0∨p=1) :
  RetO PP uI [cv,.agg (ao v b).toArray,iV p] H O (.slice none 0 0):=by
 refine yK (vs:=cv::(ao v b++[iV p])) (by kernel_rfl) ⟨hk.one,aK (ap h) ⟨rfl,trivial⟩⟩ ?_
 simp only[uu]
 refine ah fun r0=>?_
 have lo:=h.objs.len
 rw[List.length_map] at lo
 have h5:=hq.n5
 refine ae ?_
 refine ab _ lo ?_
 refine eE b.objs.length (fun i x H' O'=>O'=O∧x=.slice none 0 0∧Heap.le H H') ⟨rfl,rfl,Heap.le_refl _⟩ ?_
 rintro i x H' O' hi - ⟨rfl,rfl,hle⟩
 refine ab _ (aG _ _) (aj (fun hb=>?_) (fun hb=>af ⟨rfl,rfl⟩))
 have hlt:i < b.objs.length:=by simpa using hb
 have hr:=h.le hle
 obtain⟨a,i1,i2,_,i3,i4⟩:=hr.objs.idx .i64 i (Ob.row b.objs[i]) (by simp[hlt])
 refine ab _ i1 (aA i2 i3 i4 (ah fun r1=>?_))
 refine ae (ae ?_)
 refine az (CN (hk.le hle) hsm b.objs[i]) ?_
 rintro _ H2 _ ⟨⟨cells,rfl,c1,c2⟩,rfl⟩ l2
 refine⟨cells,by simp[Shp.open,c1],c2.ones,ah fun r2=>?_⟩
 obtain⟨es,ts,rfl,_,_⟩:=c2
 unfold kF iq
 refine ae (ae ?_)
 refine ab _ (fx _ _) ?_
 refine ae (ai (ai ?_))
 refine ab _ (aO _ _) ?_
 refine ae (ai (ai ?_))
 refine ab _ (fx _ _) ?_
 refine ai ?_
 refine ab _ (aO _ _) ?_
 refine ae (ai (ai ?_))
 refine ab _ (aG _ _) ?_
 refine ai ?_
 refine ab _ (aO _ _) ?_
 refine ae (ai (ai ?_))
 refine ab _ (eC _ _) ?_
 refine ai ?_
 have f0:RSl H2 O' 1 v.f0 (aJ []):=by have:=(hr.le l2).s0.field;rwa [hq.q0.field] at this
 have f1:RSl H2 O' 1 v.f1 (aJ []):=by have:=(hr.le l2).s1.field;rwa [hq.q1.field] at this
 refine ab _ (aO _ _) (aj (fun _=>?_) (fun _=>?_))
 ·exact ab _ (aD (by omega)) (aV (by simp[Eqs,E]) hlt ⟨rfl,rfl,Heap.le_trans hle l2⟩)
 ·refine⟨.i64,p,rfl,fun _=>?_,fun e=>⟨.i64,p,rfl,fun _=>?_,fun e'=>by omega⟩⟩
  ·refine ae (ae ?_)
   refine am (aZ f0 b.objs[i].id) rfl ⟨rfl,trivial⟩ fun H3 l3=>aj (fun hd=>by cases hd) (fun _=>?_)
   exact ab _ (aD (by omega)) (aV (by simp[Eqs,E]) hlt ⟨rfl,rfl,Heap.le_trans hle (Heap.le_trans l2 l3)⟩)
  ·refine ae (ae ?_)
   refine am (aZ f1 b.objs[i].id) rfl ⟨rfl,trivial⟩ fun H3 l3=>aj (fun hd=>by cases hd) (fun _=>?_)
   exact ab _ (aD (by omega)) (aV (by simp[Eqs,E]) hlt ⟨rfl,rfl,Heap.le_trans hle (Heap.le_trans l2 l3)⟩)
def puC:List Value:=[iV 0,iV 0,iV 0,iV 0,.slice none 0 0,.slice none 0 0]
def puB (r:Nat):BV:=⟨r,312,puC⟩
theorem UC {H:Heap} {O:Go.Sx.Own} {r:Nat} (hm:(puB r).obj ∈ O) {fv:Value} (hf:fv.oneCell'=true):RetO PP qs [gp r,fv] H O (.bool false):=by
 refine uY (vs:=[gp r,fv]) (by kernel_rfl) ⟨rfl,hf,trivial⟩ ?_
 simp only[qc]
 refine ak rfl (ak rfl ?_)
 refine au (cs:=puC) hm [.slice none 0 0] rfl rfl ⟨rfl,trivial⟩ ?_
 refine am (r:=iV (-1)) ?_ rfl ⟨rfl,trivial⟩ fun H1 l1=>?_
 ·refine eV (vs:=[.slice none 0 0,fv]) (by kernel_rfl) ⟨rfl,hf,trivial⟩ ?_
  simp only[cu]
  refine ab (iV 0) rfl ?_
  refine aY 0 (fun _ _ O'=>O'=O) rfl ?_
  rintro i H' O' hi - rfl
  refine ab _ (aG _ _) (aj (fun hd=>by have:=of_decide_eq_true hd;omega) (fun _=>af ⟨rfl,rfl⟩))
 ·exact ab _ (aG _ _) (aj (fun _=>af ⟨rfl,rfl⟩) (fun hd=>by cases hd))
theorem VK {H:Heap} {O:Go.Sx.Own} {r:Nat} (hm:(puB r).obj ∈ O):RetO PP qt [gp r] H O (.bool false):=by
 refine uZ (vs:=[gp r]) (by kernel_rfl) ⟨rfl,trivial⟩ ?_
 simp only[qd]
 have lz:∀ {gd:Gd} {off:Nat} (ho:off < 4) {k:List Value→Tree} {H:Heap} {Q:Value→Heap→Go.Sx.Own→Prop},(k [iV 0]).den PP Q H O→(Tree.load gd (.pointer (some ⟨r,off,none⟩)) 1 k).den PP Q H O:=fun {gd off} ho {k H Q} hk=>by
  refine au (cs:=puC) hm [iV 0] ?_ rfl ⟨rfl,trivial⟩ hk
  match off,ho with
  | 0,_=>rfl
  | 1,_=>rfl
  | 2,_=>rfl
  | 3,_=>rfl
 refine ak rfl (ak rfl ?_)
 refine au (cs:=puC) hm [iV 0,iV 0,iV 0,iV 0] rfl rfl ⟨rfl,rfl,rfl,rfl,trivial⟩ ?_
 refine ak rfl (ak rfl (ak rfl ?_))
 refine lz (off:=0) (by omega) (ab _ (bG _ _) (aj (fun hd=>by cases hd) (fun _=>?_)))
 unfold iT
 refine ak rfl (ak rfl (ak rfl ?_))
 refine lz (off:=0) (by omega) (ab _ (bG _ _) (aj (fun hd=>by cases hd) (fun _=>?_)))
 refine ak rfl (ak rfl (ak rfl ?_))
 refine lz (off:=0) (by omega) (ab _ (bG _ _) (aj (fun hd=>by cases hd) (fun _=>?_)))
 refine ak rfl (ak rfl (ak rfl ?_))
 refine lz (off:=0) (by omega) (ab _ (bG _ _) (aj (fun hd=>by cases hd) (fun _=>?_)))
 refine ak rfl (ak rfl (ak rfl ?_))
 refine lz (off:=0) (by omega) (ab _ (aw _ _) (aj (fun _=>?_) (fun hd=>by cases hd)))
 refine am (UC hm rfl) rfl ⟨rfl,trivial⟩ fun H1 l1=>af ⟨rfl,rfl⟩
theorem Qx {H:Heap} {r:Nat} {c n:Int} (hc:0≤c∧c < 4) (hn:0≤n):RetO PP lP [gp r,iV c,iV n] H [(puB r).obj] (.bool (n == 0)):=by
 refine q7 (vs:=[gp r,iV c,iV n]) (by kernel_rfl) ⟨rfl,rfl,rfl,trivial⟩ ?_
 simp only[lB]
 obtain⟨k,rfl⟩:∃ k:Nat,c=k:=⟨c.toNat,by omega⟩
 have hk:k < 4:=by omega
 have hp:al (.pidx 4 1) [gp r,iV k]=some (.pointer (some ⟨r,k,none⟩)):=by simp[al,fA,Addr.add];omega
 have hz:((puC.drop k).take 1)=[iV 0]:=by
  match k,hk with
  | 0,_=>rfl
  | 1,_=>rfl
  | 2,_=>rfl
  | 3,_=>rfl
 have hsp:bL puC k [iV 0]=puC:=by
  match k,hk with
  | 0,_=>rfl
  | 1,_=>rfl
  | 2,_=>rfl
  | 3,_=>rfl
 refine ah fun r0=>?_
 refine ae (ak rfl (ak rfl ?_))
 refine ab _ hp (au (cs:=puC) List.mem_cons_self [iV 0] hz rfl ⟨rfl,trivial⟩ ?_)
 refine ab (iV 0) (by simp only[g,List.getD_cons_succ,List.getD_cons_zero,al];congr 2;split <;> omega) ?_
 refine ae (ak rfl (ak rfl ?_))
 refine ab _ hp (au (cs:=puC) List.mem_cons_self [iV 0] hz rfl ⟨rfl,trivial⟩ ?_)
 refine ab (iV 0) rfl ?_
 refine ak rfl (ak rfl ?_)
 refine ab _ hp ?_
 refine ak rfl ?_
 refine fC (g:=r) (cs:=puC) (cs':=puC) (L:=[]) (List.Perm.refl _) (by simp[puC];omega) hsp ?_
 refine dG (fun vs _ O'=>vs=[iV 0,iV k]∧O'=[(puB r).obj]) (fun _ _ _=>0) ⟨rfl,rfl⟩ ?_
 rintro _ H1 _ _ _ _ ⟨rfl,rfl⟩
 refine ab _ (aG _ _) (aj (fun hd=>?_) (fun hd=>?_))
 ·have hd:=of_decide_eq_true hd
  refine gv (own:=[⟨r0,85,[iV k]⟩]) (O1:=[(puB r).obj]) (O2:=[]) (by simp) (R:=fun x _ O3=>x=.bool false∧O3=[(puB r).obj]) ?_ ⟨rfl,⟨rfl,trivial⟩,trivial⟩ ?_
  ·refine Triple.mono (UC (O:=[_]++[(puB r).obj]) (r:=r) (by simp) rfl) ?_
   rintro x _ _ _ ⟨rfl,rfl⟩
   exact⟨_,rfl,rfl,rfl⟩
  ·rintro _ H2 _ ⟨rfl,rfl⟩ l2
   refine⟨[.bool false],rfl,⟨rfl,trivial⟩,?_⟩
   refine ab _ (aC _) (aj (fun _=>af ⟨?_,by simp⟩) (fun hd=>by cases hd))
   rw[beq_eq_false_iff_ne.2 (by omega)]
 ·have hd:=of_decide_eq_false hd
  refine af ⟨?_,rfl⟩
  rw[show n=0 by omega];rfl
def eN (l:List Int) (i:Nat):Bool:=(l.take i).all (· == 0)
theorem SG {l:List Int} {i:Nat} (h:i < l.length):eN l (i + 1)=(eN l i && (l[i] == 0)):=by
 rw[eN,List.take_add_one,List.getElem?_eq_getElem h,Option.toList_some,List.all_append,List.all_cons,List.all_nil,Bool.and_true,eN]
theorem JI {n a b:Int} (h:ay n a b=true):a≤n∧n≤b:=of_decide_eq_true h
def Ny (a b c d e:Int):Int:=if Ig a b c d e=true then (if (eN [a,b,c,d] 4 && e == 0)=true then 0 else 12) else 2
theorem Tf {H:Heap} {O:Go.Sx.Own} {v:cI} {b:Bd} (h:BdR H O v b) (hq:Qt b) {p:Int} (hp:p=0∨p=1):RetO PP Di [.agg (ao v b).toArray,iV p] H O (.bool true):=by
 refine Fp (vs:=ao v b++[iV p]) (by kernel_rfl) (aK (ap h) ⟨rfl,trivial⟩) ?_
 simp only[CZ]
 refine ah fun r0=>?_
 refine ab _ (aw _ _) ?_
 refine ai ?_
 refine ab _ (aw _ _) ?_
 refine ai ?_
 refine ab _ (aO _ _) (aj (fun _=>?_) (fun hd=>?_))
 ·refine ae ?_
  refine am (bE h) rfl ⟨rfl,trivial⟩ fun H1 l1=>af ⟨?_,rfl⟩
  rw[hq.val];rfl
 ·rcases hp with rfl | rfl <;> cases hd
theorem UR {H:Heap} {cv:Value} {cs:List CdF} (hk:CardsF H cv cs) (hsm:∀ c ∈ cs,smC c) {v:cI} {b:Bd} (h:BdS H v b) (hq:Qt b) {p:Int} (hp:p=0∨p=1) (c0 c1 c2 c3 c4:Int) :
  Triple PP Dj [cv,.agg (ao v b).toArray,iV p,.agg #[iV c0,iV c1,iV c2,iV c3,iV c4]] H [] fun r _ O'=>r=.tuple #[.slice none 0 0,.agg #[iV 0,iV 0,iV 0,iV 0],iV (Ny c0 c1 c2 c3 c4)]∧O'=[]:=by
 refine Fq (vs:=cv::(ao v b++[iV p,iV c0,iV c1,iV c2,iV c3,iV c4])) (by kernel_rfl) ⟨hk.one,aK (ap (h.r [])) ⟨rfl,rfl,rfl,rfl,rfl,rfl,trivial⟩⟩ ?_
 simp only[Da]
 refine ah fun r0=>ah fun r1=>ah fun r2=>?_
 refine ae ?_
 refine am (sW c0 c1 c2 c3 c4 _ _) rfl ⟨rfl,trivial⟩ fun H1 l1=>?_
 refine ab _ (aC _) (aj (fun hd=>?_) (fun hd=>?_))
 ·refine ae (ae ?_)
  refine af ⟨?_,rfl⟩
  rw[Ny,if_neg (by rw[Br hd];simp)]
 have hcost:Ig c0 c1 c2 c3 c4=true:=yk hd
 have hcb:(∀ n ∈ [c0,c1,c2,c3],0≤n)∧0≤c4∧c4≤20:=by
  have:=hcost
  rw[Ig,Bool.and_eq_true,Bool.and_eq_true,decide_eq_true_eq,decide_eq_true_eq,List.all_eq_true] at this
  exact⟨fun n hn=>(JI (this.1.1 n hn)).1,this.1.2,this.2⟩
 obtain⟨hc0,hc4,hc20⟩:=hcb
 refine ae ?_
 refine am (Tf ((h.le l1).r []) hq hp) rfl ⟨rfl,trivial⟩ fun H2 l2=>?_
 refine ab _ (aC _) (aj (fun hd=>by cases hd) (fun _=>?_))
 have l12:=Heap.le_trans l1 l2
 have hz0:=hq.q0.pool
 have hz1:=hq.q1.pool
 have body:∀ n1 n2 n3 n4:Nat,g (cv::(ao v b++[iV p,iV c0,iV c1,iV c2,iV c3,iV c4])) n1=iV 0→g (cv::(ao v b++[iV p,iV c0,iV c1,iV c2,iV c3,iV c4])) n2=iV 0→g (cv::(ao v b++[iV p,iV c0,iV c1,iV c2,iV c3,iV c4])) n3=iV 0→g (cv::(ao v b++[iV p,iV c0,iV c1,iV c2,iV c3,iV c4])) n4=iV 0 →
   (lH r0 (cv::(ao v b++[iV p,iV c0,iV c1,iV c2,iV c3,iV c4])) r1 n1 n2 n3 n4 r2).den PP (fun r _ O'=>r=.tuple #[.slice none 0 0,.agg #[iV 0,iV 0,iV 0,iV 0],iV (Ny c0 c1 c2 c3 c4)]∧O'=[]) H2 []:=by
  intro n1 n2 n3 n4 e1 e2 e3 e4
  unfold lH
  rw[e1,e2,e3,e4]
  refine ae (ae ?_)
  refine am (NK (hk.le l12) hsm ((h.le l12).r []) hq hp) rfl ⟨rfl,trivial⟩ fun H3 l3=>ah fun r3=>?_
  refine ae ?_
  refine dG (fun vs _ O'=>∃ i:Nat,i≤4∧vs=[.bool (eN [c0,c1,c2,c3] i),iV i,iV 0,iV 0,iV 0,iV 0,.slice none 0 0,.slice none 0 0]∧O'=[]) (fun vs _ _=>match g vs 1 with | .int _ k=>5 - k.toNat | _=>0) ⟨0,by omega,rfl,rfl⟩ ?_
  rintro _ H4 _ _ _ _ ⟨i,hi,rfl,rfl⟩
  refine ab _ (aG _ _) (aj (fun hb=>?_) (fun hb=>?_))
  ·have hlt:i < [c0,c1,c2,c3].length:=by have:=of_decide_eq_true hb;simp;omega
   refine ab (iV [c0,c1,c2,c3][i]) (by
    match i,hlt with
    | 0,_=>rfl
    | 1,_=>rfl
    | 2,_=>rfl
    | 3,_=>rfl) ?_
   have hsucc:=SG hlt
   have hmu:∀ x:Value,5 - ((i + 1:Nat):Int).toNat < 5 - ((i:Int)).toNat:=fun _=>by simp only[List.length_cons,List.length_nil] at hlt;omega
   refine aj (fun he=>?_) (fun he=>?_)
   ·have he:eN [c0,c1,c2,c3] i=true:=he
    refine ug (own:=[puB r3]) (Qx (r:=r3) (c:=i) (n:=[c0,c1,c2,c3][i]) (by simp only[List.length_cons,List.length_nil] at hlt;omega) (hc0 _ (List.getElem_mem hlt))) rfl ⟨rfl,trivial⟩ ⟨rfl,⟨rfl,rfl,rfl,rfl,rfl,rfl,trivial⟩,trivial⟩ fun H5 l5=>?_
    refine ab _ (aD (by omega)) (cU (by simp[Eqs,E]) ⟨i + 1,by simp only[List.length_cons,List.length_nil] at hlt;omega,?_,rfl⟩ (hmu undef))
    rw[hsucc,he,Bool.true_and];rfl
   ·have he:eN [c0,c1,c2,c3] i=false:=he
    refine ab _ (aD (by omega)) (cU (by simp[Eqs,E]) ⟨i + 1,by simp only[List.length_cons,List.length_nil] at hlt;omega,?_,rfl⟩ (hmu undef))
    rw[hsucc,he,Bool.false_and];rfl
  ·obtain rfl:i=4:=by have:=of_decide_eq_false hb;omega
   refine ae ?_
   refine dG (fun vs _ O'=>∃ i:Nat,(i:Int)≤c4∧vs=[.bool (eN [c0,c1,c2,c3] 4 && decide (i=0)),iV i,iV 0,iV 0,iV 0,iV 0,.slice none 0 0,.slice none 0 0]∧O'=[]) (fun vs _ _=>match g vs 1 with | .int _ k=>21 - k.toNat | _=>0) ⟨0,by omega,by simp[g],rfl⟩ ?_
   rintro _ H5 _ _ _ _ ⟨j,hj,rfl,rfl⟩
   refine ab _ (aG _ _) (aj (fun hb=>?_) (fun hb=>?_))
   ·have hlt:(j:Int) < c4:=of_decide_eq_true hb
    have hmu:21 - ((j + 1:Nat):Int).toNat < 21 - ((j:Int)).toNat:=by omega
    refine aj (fun he=>?_) (fun he=>?_)
    ·refine ug (own:=[puB r3]) (VK (r:=r3) List.mem_cons_self) rfl ⟨rfl,trivial⟩ ⟨rfl,⟨rfl,rfl,rfl,rfl,rfl,rfl,trivial⟩,trivial⟩ fun H6 l6=>?_
     exact ab _ (aD (by omega)) (cU (by simp[Eqs,E]) ⟨j + 1,by omega,by simp[g,puB,puC],rfl⟩ hmu)
    ·exact ab _ (aD (by omega)) (cU (by simp[Eqs,E]) ⟨j + 1,by omega,by simp[g],rfl⟩ hmu)
   ·have hge:c4=j:=by have:=of_decide_eq_false hb;omega
    have hfin:(eN [c0,c1,c2,c3] 4 && decide (j=0))=(eN [c0,c1,c2,c3] 4 && c4 == 0):=by
     congr 1
     by_cases h0:j=0
     ·rw[h0] at hge;simp[h0,hge]
     ·simp[h0];omega
    refine ab _ (aC _) (aj (fun hd=>?_) (fun hd=>?_))
    ·refine ae (ae ?_)
     have hd:(eN [c0,c1,c2,c3] 4 && decide (j=0))=false:=Br hd
     refine af ⟨?_,rfl⟩
     rw[Ny,if_pos hcost,← hfin,if_neg (by rw[hd];simp)]
    ·have hd:(eN [c0,c1,c2,c3] 4 && decide (j=0))=true:=yk hd
     refine ae ?_
     refine az (N2 (O:=[]) (l:=[]) (OSl.nil _ _) (by simp)) ?_
     rintro _ H6 O6 ⟨rfl,hO⟩ l6
     have hO6:O6=[]:=by
      rcases hO with ⟨_,_,rfl⟩ | ⟨_,_,_,e,_⟩
      ·rfl
      ·cases e
     subst hO6
     refine⟨[],rfl,trivial,?_⟩
     refine ae (ae (ae (ae ?_)))
     refine af ⟨?_,rfl⟩
     rw[Ny,if_pos hcost,← hfin,if_pos hd];rfl
 refine⟨.i64,p,rfl,fun _=>?_,fun e=>⟨.i64,p,rfl,fun _=>?_,fun e'=>by omega⟩⟩
 ·exact body 3 4 5 6 (by rw[← hz0.1];rfl) (by rw[← hz0.2.1];rfl) (by rw[← hz0.2.2.1];rfl) (by rw[← hz0.2.2.2];rfl)
 ·exact body 17 18 19 20 (by rw[← hz1.1];rfl) (by rw[← hz1.2.1];rfl) (by rw[← hz1.2.2.1];rfl) (by rw[← hz1.2.2.2];rfl)
theorem UZ {H:Heap} {cv:Value} {cs:List CdF} (hk:CardsF H cv cs) (hsm:∀ c ∈ cs,smC c) {v:cI} {b:Bd} (h:BdS H v b) (hq:Qt b) {p:Int} (hp:p=0∨p=1) (c0 c1 c2 c3 c4:Int) :
  RetO PP Hm [cv,.agg (ao v b).toArray,iV p,.agg #[iV c0,iV c1,iV c2,iV c3,iV c4]] H [] (.bool (Ny c0 c1 c2 c3 c4 == 0)):=by
 refine Hw (vs:=cv::(ao v b++[iV p,iV c0,iV c1,iV c2,iV c3,iV c4])) (by kernel_rfl) ⟨hk.one,aK (ap (h.r [])) ⟨rfl,rfl,rfl,rfl,rfl,rfl,trivial⟩⟩ ?_
 simp only[Hi]
 refine ah fun r0=>ah fun r1=>?_
 refine ae (ae ?_)
 refine az (UR hk hsm h hq hp c0 c1 c2 c3 c4) ?_
 rintro _ H1 _ ⟨rfl,rfl⟩ l1
 refine⟨[.slice none 0 0,iV 0,iV 0,iV 0,iV 0,iV (Ny c0 c1 c2 c3 c4)],rfl,⟨rfl,rfl,rfl,rfl,rfl,rfl,trivial⟩,ah fun r2=>?_⟩
 refine ae ?_
 exact ab _ (aw _ _) (af ⟨rfl,rfl⟩)
abbrev uQ (r:Nat) (T:TypeId) (vs:List Value):Nat × Obj:=(r,.cells vs.toArray T (0,0))
def zf (cs:List CdF) (b:Bd) (p id:Int):Bool :=
 let c:=cdF cs (BA b id).card
 if c.kind=1 then (cg b p).played
 else if c.kind=4∨c.kind=2∨c.kind=3 then (!(Ny c.c0 c.c1 c.c2 c.c3 c.any == 0) || !TX (cs.map II) b p (c.effs.map (·.target)))
 else true
theorem QB {H:Heap} {cv:Value} {cs:List CdF} (hk:CardsF H cv cs) (hsm:∀ c ∈ cs,smC c) {v:cI} {b:Bd} (h:BdS H v b) (hq:Qt b) {p:Int} (hp:p=0∨p=1) {id:Int} (hid:i64 id)
  {r1 r0 r3 r4 r2:Nat} {T1 T0 T3 T4 T2:TypeId} {sc:List Value} (hsc:sc.drop 10=.bool (cg b p).played::sc.drop 11) {O:Go.Sx.Own}
  (m1:uQ r1 T1 (ao v b) ∈ O) (m0:uQ r0 T0 [cv] ∈ O) (m3:uQ r3 T3 [.bool false] ∈ O) (m4:uQ r4 T4 sc ∈ O) (m2:uQ r2 T2 [iV p] ∈ O) :
  RetO PP oz ([iV id]++(#[gp r1,gp r0,gp r3,gp r4,gp r2]:Array Value).toList) H O (.bool (zf cs b p id)):=by
 refine tw (vs:=[iV id,gp r1,gp r0,gp r3,gp r4,gp r2]) (by kernel_rfl) ⟨rfl,rfl,rfl,rfl,rfl,rfl,trivial⟩ ?_
 simp only[ou]
 have hones:=ap (h.r [])
 refine au m1 (ao v b) rfl rfl hones ?_
 refine am (UX (h.r O) hid) rfl (vs:=(BA b id).row++[iV (mI b id)]) (aK (ga _) ⟨rfl,trivial⟩) fun H1 l1=>ah fun r5=>?_
 refine ae ?_
 refine au m0 [cv] rfl rfl ⟨hk.one,trivial⟩ ?_
 refine ae ?_
 refine az (CN (hk.le l1) hsm (BA b id)) ?_
 rintro _ H2 _ ⟨⟨cells,rfl,c1,c2⟩,rfl⟩ l2
 refine⟨cells,by simp[Shp.open,c1],c2.ones,ah fun r6=>?_⟩
 have l12:=Heap.le_trans l1 l2
 have hsmc:=Q8 hsm (BA b id).card
 have hnp:zf cs b p id=zf cs b p id:=rfl
 conv at hnp=>rhs;rw[zf]
 generalize cdF cs (BA b id).card=c at c2 hsmc hnp
 obtain⟨es,ts,rfl,he,_⟩:=c2
 rw[List.nil_append]
 have rest:(c.kind=4∨c.kind=2∨c.kind=3)→¬ c.kind=1→(dZ [iV id,gp r1,gp r0,gp r3,gp r4,gp r2] r6 (zV c es ts)).den PP (fun x _ O'=>x=.bool (zf cs b p id)∧O'=O) H2 O:=by
  intro hkd hk1
  have hnp:zf cs b p id=(!(Ny c.c0 c.c1 c.c2 c.c3 c.any == 0) || !TX (cs.map II) b p (c.effs.map (·.target))):=by
   rw[hnp]
   show (if c.kind=1 then _ else if c.kind=4∨c.kind=2∨c.kind=3 then _ else _)=_
   rw[if_neg hk1,if_pos hkd]
  unfold dZ
  have ls:al .len [v.s]=some (iV 0):=by
   obtain⟨rows,h1,h2,_⟩:=h.stack
   rw[hq.st] at h2
   have:=h1.len
   rwa [h2] at this
  refine ak rfl ?_
  refine au m1 [v.s] rfl rfl ⟨(by obtain⟨_,k,_⟩:=(h.r []).stack;exact k.one),trivial⟩ ?_
  refine ab _ ls (ab _ (eC _ _) (aj (fun hd=>by cases hd) (fun _=>?_)))
  refine au m0 [cv] rfl rfl ⟨hk.one,trivial⟩ ?_
  refine au m1 (ao v b) rfl rfl hones ?_
  refine au m2 [iV p] rfl rfl ⟨rfl,trivial⟩ ?_
  refine ae ?_
  refine am ((UZ (hk.le l12) hsm (h.le l12) hq hp c.c0 c.c1 c.c2 c.c3 c.any).frame O) rfl ⟨rfl,trivial⟩ fun H3 l3=>?_
  refine ab _ (aC _) (aj (fun hd=>?_) (fun hd=>?_))
  ·have hd:(!(Ny c.c0 c.c1 c.c2 c.c3 c.any == 0))=true:=hd
   exact af ⟨by rw[hnp,hd,Bool.true_or],rfl⟩
  have hd:(!(Ny c.c0 c.c1 c.c2 c.c3 c.any == 0))=false:=hd
  refine au m0 [cv] rfl rfl ⟨hk.one,trivial⟩ ?_
  refine au m1 (ao v b) rfl rfl hones ?_
  refine au m2 [iV p] rfl rfl ⟨rfl,trivial⟩ ?_
  refine ae ?_
  refine am ((VP (CardsF.base (hk.le (Heap.le_trans l12 l3))) (Oi hsm) (h.le (Heap.le_trans l12 l3)) (by rw[hq.st];simp) p (zM (he.le l3)) (by have:=hsmc.1;rw[List.length_map];omega)).frame O) rfl ⟨rfl,trivial⟩ fun H4 l4=>?_
  exact ab _ (aC _) (af ⟨by rw[hnp,hd,Bool.false_or],rfl⟩)
 refine ae (ae ?_)
 refine ab _ (aw _ _) (aj (fun h1=>?_) (fun h1=>?_))
 ·have h1:c.kind=1:=beq_iff_eq.1 h1
  refine au m3 [.bool false] rfl rfl ⟨rfl,trivial⟩ ?_
  refine ak rfl (ai ?_)
  refine au m4 [.bool (cg b p).played] (by rw[hsc];rfl) rfl ⟨rfl,trivial⟩ ?_
  refine ai ?_
  refine ab _ (aO _ _) (af ⟨?_,rfl⟩)
  rw[hnp]
  show Value.bool (false || (cg b p).played)=.bool (if c.kind=1 then _ else _)
  rw[if_pos h1,Bool.false_or]
 have h1:¬ c.kind=1:=beq_eq_false_iff_ne.1 h1
 refine ab _ (aw _ _) (aj (fun h4=>rest (.inl (beq_iff_eq.1 h4)) h1) (fun h4=>?_))
 have h4:¬ c.kind=4:=beq_eq_false_iff_ne.1 h4
 refine ab _ (aw _ _) (aj (fun h2=>?_) (fun h2=>?_))
 ·refine aj (fun _=>?_) (fun hd=>by rw[h2] at hd;cases hd)
  refine au m3 [.bool false] rfl rfl ⟨rfl,trivial⟩ (aj (fun hd=>by cases hd) (fun _=>?_))
  exact rest (.inr (.inl (beq_iff_eq.1 h2))) h1
 have h2:¬ c.kind=2:=beq_eq_false_iff_ne.1 h2
 refine ab _ (aw _ _) (aj (fun h3=>?_) (fun h3=>?_))
 ·refine au m3 [.bool false] rfl rfl ⟨rfl,trivial⟩ (aj (fun hd=>by cases hd) (fun _=>?_))
  exact rest (.inr (.inr (beq_iff_eq.1 h3))) h1
 have h3:¬ c.kind=3:=beq_eq_false_iff_ne.1 h3
 refine af ⟨?_,rfl⟩
 rw[hnp]
 show Value.bool true=.bool (if c.kind=1 then _ else if c.kind=4∨c.kind=2∨c.kind=3 then _ else _)
 rw[if_neg h1,if_neg (by omega)]
theorem LD {l:List Int} {x:Int} (h:x ∈ qX l):x ∈ l:=(List.mergeSort_perm l _).mem_iff.1 h
theorem HV (l:List Int) (p:List Value→Bool):(aJ l).filter p=aJ (l.filter fun n=>p [iV n]):=by
 rw[aJ,List.filter_map];rfl
theorem Up {b:Bd} (hq:Qt b) {p x:Int} (h:(x,p) ∈ aM b):i64 x:=by
 obtain⟨k,o,e1,e2,_⟩:=Q3 hq.pl h
 have:=s7 (mF hq.pl e1).1
 rw[← e2]
 exact⟨by omega,by omega⟩
def Wa (r:Value) (H':Heap) (O':Go.Sx.Own):Prop:=(∃ l:List Int,Sl H' 1 r (aJ l)∧l.length≤1000)∧O'=[]
theorem SA {f:FuncId} {args:List Value} {H:Heap} (h:Triple PP f args H [] fun r _ O'=>∃ l:List Int,OSl aQ 1 r (aJ l) O'∧l.length≤1000):Triple PP f args H [] Wa:=by
 refine Triple.ghost h ?_
 rintro r H' O' _ hc ⟨l,h1,h2⟩
 obtain⟨H1,g1,k1,_⟩:=h1.freeze (X:=[]) (by simpa using hc)
 exact⟨H1,[],by simpa using g1,⟨l,k1,h2⟩,rfl⟩
theorem Tu {H:Heap} {cv:Value} {cs:List CdF} (hk:CardsF H cv cs) (hsm:∀ c ∈ cs,smC c) {v:cI} {b:Bd} (h:BdS H v b) (hq:Qt b) {p:Int} (hp:p=0∨p=1) :
  Triple PP rT [cv,.agg (ao v b).toArray,iV p,.bool false] H [] Wa:=by
 refine SA ?_
 refine xK (vs:=cv::(ao v b++[iV p,.bool false])) (by kernel_rfl) ⟨hk.one,aK (ap (h.r [])) ⟨rfl,rfl,trivial⟩⟩ ?_
 simp only[rA]
 refine ah fun r0=>ah fun r1=>ah fun r2=>ah fun r3=>?_
 refine ae ?_
 refine am (kw p 0 1 _ _) rfl ⟨rfl,trivial⟩ fun H1 l1=>ab _ (aC _) (aj (fun _=>af ⟨[],OSl.nil _ _,by simp⟩) (fun _=>?_))
 refine ae ?_
 refine am (bE ((h.le l1).r [])) rfl ⟨rfl,trivial⟩ fun H2 l2=>ab _ (aC _) (aj (fun _=>af ⟨[],OSl.nil _ _,by simp⟩) (fun _=>?_))
 have l12:=Heap.le_trans l1 l2
 refine ae ?_
 have body:∀ (zs:List Int) (hv:Value),Sl H hv (size:=1) (aJ zs)→zs.length≤500→(∀ x ∈ zs,i64 x)→∀ (n0 n1 n2 n3 n4 n5 n6 n7 n8 n9 n10 n11 n12 n13:Nat),g (cv::(ao v b++[iV p,.bool false])) n0=hv →
   (([g (cv::(ao v b++[iV p,.bool false])) n1,g (cv::(ao v b++[iV p,.bool false])) n2,g (cv::(ao v b++[iV p,.bool false])) n3,g (cv::(ao v b++[iV p,.bool false])) n4,g (cv::(ao v b++[iV p,.bool false])) n5,g (cv::(ao v b++[iV p,.bool false])) n6,g (cv::(ao v b++[iV p,.bool false])) n0,g (cv::(ao v b++[iV p,.bool false])) n7,g (cv::(ao v b++[iV p,.bool false])) n8,g (cv::(ao v b++[iV p,.bool false])) n9,g (cv::(ao v b++[iV p,.bool false])) n10,g (cv::(ao v b++[iV p,.bool false])) n11,g (cv::(ao v b++[iV p,.bool false])) n12,g (cv::(ao v b++[iV p,.bool false])) n13]:List Value)[10]?=some (.bool (cg b p).played)) →
   Ones [g (cv::(ao v b++[iV p,.bool false])) n1,g (cv::(ao v b++[iV p,.bool false])) n2,g (cv::(ao v b++[iV p,.bool false])) n3,g (cv::(ao v b++[iV p,.bool false])) n4,g (cv::(ao v b++[iV p,.bool false])) n5,g (cv::(ao v b++[iV p,.bool false])) n6,g (cv::(ao v b++[iV p,.bool false])) n0,g (cv::(ao v b++[iV p,.bool false])) n7,g (cv::(ao v b++[iV p,.bool false])) n8,g (cv::(ao v b++[iV p,.bool false])) n9,g (cv::(ao v b++[iV p,.bool false])) n10,g (cv::(ao v b++[iV p,.bool false])) n11,g (cv::(ao v b++[iV p,.bool false])) n12,g (cv::(ao v b++[iV p,.bool false])) n13] →
   (gC r1 (cv::(ao v b++[iV p,.bool false])) n0 r0 r3 r2 n1 n2 n3 n4 n5 n6 n7 n8 n9 n10 n11 n12 n13).den PP (fun r _ O'=>∃ l:List Int,OSl aQ 1 r (aJ l) O'∧l.length≤1000) H2 []:=by
  intro zs hv hs hz h64 n0 n1 n2 n3 n4 n5 n6 n7 n8 n9 n10 n11 n12 n13 e0 e10 hon
  unfold gC
  refine ae (ah fun r4=>?_)
  rw[e0] at e10 hon ⊢
  refine ae (ae ?_)
  refine az (Qz hv hs.one H2) ?_
  rintro _ H3 _ ⟨k,rfl,rfl⟩ l3
  refine⟨[_],rfl,⟨rfl,trivial⟩,?_⟩
  refine ik (O1:=[(k,.cells #[hv] 25 (0,0))]) (O2:=[]) (by simp) (QA (hs.le (Heap.le_trans l12 l3)) (by omega) k _) ?_
  intro x H4 A hA l4
  refine⟨[x],rfl,⟨hA.one,trivial⟩,?_⟩
  have l4':=Heap.le_trans l12 (Heap.le_trans l3 l4)
  refine gv (O1:=A) (O2:=[]) (by simp) (R:=fun y _ O3=>∃ l:List Int,OSl aQ 1 y (aJ l) O3∧l.length≤1000) (Triple.mono (mM (pr:=fun row=>match g row 0 with | .int _ id=>zf cs b p id | _=>true) hA rfl (dE fc (by decide)) fun H' l' row hr=>?_) ?_) ⟨rfl,ap (h.r []),rfl,⟨hk.one,trivial⟩,rfl,⟨rfl,trivial⟩,rfl,hon,rfl,⟨rfl,trivial⟩,trivial⟩ ?_
  ·obtain⟨id,hid,rfl⟩:=List.mem_map.1 hr
   have hid:=h64 _ (LD hid)
   refine QB (hk.le (Heap.le_trans l4' l')) hsm (h.le (Heap.le_trans l4' l')) hq hp hid (sc:=_) ?_ (List.mem_cons_self) (List.mem_cons_of_mem _ List.mem_cons_self) (List.mem_cons_of_mem _ (List.mem_cons_of_mem _ List.mem_cons_self)) (List.mem_cons_of_mem _ (List.mem_cons_of_mem _ (List.mem_cons_of_mem _ List.mem_cons_self))) (List.mem_cons_of_mem _ (List.mem_cons_of_mem _ (List.mem_cons_of_mem _ (List.mem_cons_of_mem _ List.mem_cons_self))))
   simp only[List.getElem?_cons_succ,List.getElem?_cons_zero,Option.some.injEq] at e10
   simp only[List.drop_succ_cons,List.drop_zero,e10]
  ·rintro y _ _ _ ⟨A',rfl,hA'⟩
   refine⟨A',rfl,_,by rw[← HV];exact hA',?_⟩
   refine Nat.le_trans (List.length_filter_le _ _) ?_
   rw[E9];omega
  ·rintro y H5 O5 ⟨l,hl,hll⟩ l5
   refine⟨[y],rfl,⟨hl.one,trivial⟩,af ⟨l,by rw[List.append_nil];exact hl,hll⟩⟩
 have hls:=hq.lens
 have ho:=ap (h.r [])
 refine⟨.i64,p,rfl,fun e=>?_,fun e=>⟨.i64,p,rfl,fun e'=>?_,fun e'=>by omega⟩⟩
 ·subst e
  refine body b.s0.hand v.h0 h.s0.hand (by omega) (fun x hx=>Up hq (p:=0) (by simp[aM,fw,hx])) 8 2 3 4 5 6 7 9 10 11 12 13 14 15 rfl rfl ?_
  exact⟨rfl,rfl,rfl,rfl,rfl,h.s0.lib.one,h.s0.hand.one,h.s0.field.one,h.s0.grave.one,rfl,rfl,rfl,rfl,rfl,trivial⟩
 ·subst e'
  refine body b.s1.hand v.h1 h.s1.hand (by omega) (fun x hx=>Up hq (p:=1) (by simp[aM,fw,hx])) 22 16 17 18 19 20 21 23 24 25 26 27 28 29 rfl rfl ?_
  exact⟨rfl,rfl,rfl,rfl,rfl,h.s1.lib.one,h.s1.hand.one,h.s1.field.one,h.s1.grave.one,rfl,rfl,rfl,rfl,rfl,trivial⟩
end Go.Proofs.YteakpllehopodaaGreatDoor
