/- Cards with all that their effects say. Generic. -/
import Derived.Test.YtdhobpmnkfmcfaaGreatDoorC21
import Derived.Shelf.GgSortFunc.InsertionK
import Derived.Test.YtdhobpmnkfmcfaaGreatDoorTW
import Derived.Test.YtdhobpmnkfmcfaaGreatDoorC1
import Derived.Test.YtdhobpmnkfmcfaaGreatDoorFw2
namespace Go.Sx
open Go
structure Eff where
 (code target n m colour:Int)
deriving DecidableEq
def Eff.row (e:Eff):List Value:=[iV e.code,iV e.target,iV e.n,iV e.m,iV e.colour]
def iL (l:List Eff):List (List Value):=l.map Eff.row
theorem qC (l:List Eff):(iL l).length=l.length:=by simp[iL]
theorem ny {l:List Eff} {i:Nat} (h:i < l.length):(iL l)[i]?=some l[i].row:=by simp[iL,h]
theorem kU (e:Eff):Ones e.row:=⟨rfl,rfl,rfl,rfl,rfl,trivial⟩
structure CdX where
 kind:Int
 effs:List Eff
 trs:List (List Eff)
def CdX.base (c:CdX):Cd:=⟨c.kind,c.effs.map (·.target),c.trs.map List.length⟩
def TrsX (H:Heap) (v:Value) (trs:List (List Eff)):Prop:=∃ rows,Sl H 2 v rows∧rows.length=trs.length∧∀ (i:Nat) (r:List Value) (l:List Eff),rows[i]?=some r→trs[i]?=some l→Sl H 5 (g r 1) (iL l)
structure CdRX (H:Heap) (r:List Value) (c:CdX):Prop where
 kind:g r 1=iV c.kind
 eff:Sl H 5 (g r 11) (iL c.effs)
 trig:TrsX H (g r 12) c.trs
def CardsX (H:Heap) (v:Value) (cs:List CdX):Prop:=∃ rows,Sl H 14 v rows∧rows.length=cs.length∧∀ (i:Nat) (r:List Value) (c:CdX),rows[i]?=some r→cs[i]?=some c→CdRX H r c
theorem TrsX.le {H H':Heap} {v:Value} {l:List (List Eff)} (h:TrsX H v l) (hl:Heap.le H H'):TrsX H' v l:=let ⟨rows,h1,h2,h3⟩:=h;⟨rows,h1.le hl,h2,fun i r n a b=>(h3 i r n a b).le hl⟩
theorem CdRX.le {H H':Heap} {r:List Value} {c:CdX} (h:CdRX H r c) (hl:Heap.le H H'):CdRX H' r c:=⟨h.kind,h.eff.le hl,h.trig.le hl⟩
theorem CardsX.le {H H':Heap} {v:Value} {cs:List CdX} (h:CardsX H v cs) (hl:Heap.le H H'):CardsX H' v cs:=let ⟨rows,h1,h2,h3⟩:=h;⟨rows,h1.le hl,h2,fun i r c a b=>(h3 i r c a b).le hl⟩
theorem DO {H:Heap} {v:Value} {l:List Eff} (h:Sl H 5 v (iL l)):EffsS H v (l.map (·.target)):=by
 refine⟨_,h,by simp[iL],fun i r t a b=>?_⟩
 have hi:i < l.length:=by
  have:=(List.getElem?_eq_some_iff.1 a).1
  simpa [iL] using this
 rw[ny hi] at a
 rw[List.getElem?_map,List.getElem?_eq_getElem hi] at b
 obtain rfl:=Option.some.inj a
 obtain rfl:=Option.some.inj b
 rfl
theorem CdRX.base {H:Heap} {r:List Value} {c:CdX} (h:CdRX H r c):CdR H r c.base:=by
 refine⟨h.kind,DO h.eff,?_⟩
 obtain⟨rows,h1,h2,h3⟩:=h.trig
 refine⟨rows,h1,by simp[CdX.base,h2],fun i r n a b=>?_⟩
 have hi:i < c.trs.length:=by
  have:=(List.getElem?_eq_some_iff.1 a).1
  omega
 simp only[CdX.base] at b
 rw[List.getElem?_map,List.getElem?_eq_getElem hi] at b
 obtain rfl:=Option.some.inj b
 exact⟨_,h3 i r _ a (List.getElem?_eq_getElem hi),qC _⟩
theorem CardsX.base {H:Heap} {v:Value} {cs:List CdX} (h:CardsX H v cs):CardsS H v (cs.map CdX.base):=by
 obtain⟨rows,h1,h2,h3⟩:=h
 refine⟨rows,h1,by simp[h2],fun i r c a b=>?_⟩
 have hi:i < cs.length:=by
  have:=(List.getElem?_eq_some_iff.1 a).1
  omega
 rw[List.getElem?_map,List.getElem?_eq_getElem hi] at b
 obtain rfl:=Option.some.inj b
 exact (h3 i r _ a (List.getElem?_eq_getElem hi)).base
theorem CardsX.one {H:Heap} {v:Value} {cs:List CdX} (h:CardsX H v cs):v.oneCell'=true:=let ⟨_,h1,_⟩:=h;h1.one
theorem CardsX.len {H:Heap} {v:Value} {cs:List CdX} (h:CardsX H v cs):ak .len [v]=some (iV cs.length):=by
 obtain⟨rows,h1,h2,_⟩:=h
 have:=h1.len;rwa [h2] at this
def Wx:CdX:=⟨0,[],[]⟩
def cdX (cs:List CdX) (c:Int):CdX:=if c < 0∨c ≥ (cs.length:Int) then Wx else cs.getD c.toNat Wx
theorem LO (cs:List CdX) (c:Int):(cdX cs c).base=BL (cs.map CdX.base) c:=by
 rw[cdX,BL]
 by_cases h:c < 0∨c ≥ (cs.length:Int)
 ·rw[if_pos h,if_pos (by simpa using h)];rfl
 ·rw[if_neg h,if_neg (by simpa using h)]
  simp only[List.getD_eq_getElem?_getD,List.getElem?_map]
  cases cs[c.toNat]? <;> rfl
def BJ (cs:List CdX) (card trig:Int):List Eff :=
 if trig=-1 then (cdX cs card).effs else if trig < 0∨trig ≥ ((cdX cs card).trs.length:Int) then [] else (cdX cs card).trs.getD trig.toNat []
theorem Models.grown {w:World} {H:Heap} {O:Own} (h:Models w H O) (os:Array Obj):Models (Sort.grow w os) H O:=by
 have keep:∀ b (x:Obj),w.heap[b]?=some x→(w.heap++os)[b]?=some x:=fun b x hb=>by
  have hlt:b < w.heap.size:=by
   rcases Nat.lt_or_ge b w.heap.size with h | h
   ·exact h
   ·rw[Array.getElem?_eq_none h] at hb;cases hb
  rw[Array.getElem?_append_left hlt];exact hb
 exact⟨fun b x hb=>keep b x (h.pers b x hb),fun p hp=>⟨keep _ _ (h.own p hp).1,(h.own p hp).2⟩,h.nodup,h.env⟩
def qB (x:Int):List Value:=[iV x,iV 0]
theorem vi (d:List Int):(d.map qB).flatten.length=d.length * 2:=by
 have:=eE (rows:=d.map qB) (size:=2) (by simp[qB])
 rwa [List.length_map] at this
theorem FB (d:List Int):(Sort.flatK qB 2 d.toArray).toList=(d.map qB).flatten:=by
 refine List.ext_getElem? fun t=>?_
 have hl:=vi d
 rcases Nat.lt_or_ge t (d.length * 2) with h | h
 ·have h1:=Sort.get_flatK qB 2 d.toArray t (by simpa using h)
  rw[getElem!_pos _ t (by simpa using h)] at h1
  have hd:t / 2 < d.length:=by omega
  rw[getElem!_pos _ (t / 2) (by simpa using hd)] at h1
  rw[List.getElem?_eq_getElem (by simpa using h),Array.getElem_toList,h1]
  have hg:(d.map qB)[t / 2]?=some (qB d[t / 2]):=by simp[hd]
  have p:=iZ (rows:=d.map qB) (size:=2) (by simp[qB]) hg
  have e:(d.map qB).flatten[t]?=(qB d[t / 2])[t % 2]?:=by
   rw[← p,List.getElem?_take,if_pos (by omega),List.getElem?_drop]
   congr 1;omega
  rw[e]
  rcases Nat.mod_two_eq_zero_or_one t with h2 | h2 <;> rw[h2] <;> rfl
 ·rw[List.getElem?_eq_none (by simpa using h),List.getElem?_eq_none (by omega)]
theorem Ia (F:List Value) (cs:List Value) (h:F.length≤cs.length):Sort.putCells id 0 F.toArray cs.toArray=(F++cs.drop F.length).toArray:=by
 refine Array.ext' (List.ext_getElem? fun k=>?_)
 simp only[Sort.putCells,Array.toList_mapIdx,List.getElem?_mapIdx,List.getElem?_append,List.size_toArray,id]
 by_cases hk:k < F.length
 ·rw[if_pos hk,List.getElem?_eq_getElem (by omega:k < cs.length),List.getElem?_eq_getElem hk]
  simp only[Option.map_some,Option.some.injEq]
  rw[if_pos ⟨Nat.zero_le _,by omega⟩,Nat.sub_zero,getElem!_pos _ k (by simpa using hk)]
  rfl
 ·rw[if_neg hk,List.getElem?_drop,show F.length + (k - F.length)=k by omega]
  rcases Nat.lt_or_ge k cs.length with hc | hc
  ·rw[List.getElem?_eq_getElem hc,Option.map_some,if_neg (by omega)]
  ·rw[List.getElem?_eq_none hc];rfl
theorem sort_models {w:World} {H:Heap} {r:Nat} {cs:List Value} {T:TypeId} {O:Own} (hm:Models w H ((r,.cells cs.toArray T (0,0))::O)) {d:List Int} (hl:d.length * 2≤cs.length) (n:Nat) (os:Array Obj) :
  Models (Go.Proofs.sortWorldK qB 2 w r 0 n d.toArray os) H ((r,.cells ((d.map qB).flatten++cs.drop (d.length * 2)).toArray T (0,0))::O):=by
 have hrow:=(hm.own (r,.cells cs.toArray T (0,0)) (by simp)).1
 unfold Go.Proofs.sortWorldK
 refine Models.grown (Models.update (w:=w) (w':=Sort.putRowK qB 2 (Sort.ahead w n) r 0 d.toArray) (o':=.cells ((d.map qB).flatten++cs.drop (d.length * 2)).toArray T (0,0)) hm (fun b hb=>?_) ?_ rfl) os
 ·simp[Sort.putRowK,Sort.putRow,Sort.mapBlock,Sort.ahead,Array.getElem?_modify,Ne.symm hb]
 ·have hF:=FB d
  have e:Sort.flatK qB 2 d.toArray=((d.map qB).flatten).toArray:=by rw[← hF]
  simp only[Sort.putRowK,Sort.putRow,Sort.mapBlock,Sort.ahead,Array.getElem?_modify,if_true,hrow,Option.map_some,Sort.onCells,e]
  rw[Ia _ _ (by rw[vi];exact hl),vi]
theorem sort_holds {w:World} {H:Heap} {r:Nat} {cs:List Value} {T:TypeId} {O:Own} (hm:Models w H ((r,.cells cs.toArray T (0,0))::O)) {d:List Int} (hd:(d.map qB).flatten=cs.take (d.length * 2)) (hl:d.length * 2≤cs.length) :
  Sort.HoldsK qB 2 w r 0 d.toArray∧r < w.heap.size:=by
 have hrow:=(hm.own (r,.cells cs.toArray T (0,0)) (by simp)).1
 have hlt:r < w.heap.size:=by
  rcases Nat.lt_or_ge r w.heap.size with h | h
  ·exact h
  ·rw[Array.getElem?_eq_none h] at hrow;cases hrow
 have e:Sort.flatK qB 2 d.toArray=((d.map qB).flatten).toArray:=by rw[← FB d]
 refine⟨fun j hj=>?_,hlt⟩
 rw[e] at hj ⊢
 have hj':j < d.length * 2:=by rw[← vi d];simpa using hj
 have hv:((d.map qB).flatten.toArray[j]!)=cs[j]'(by omega):=by
  rw[getElem!_pos _ j hj]
  have:(d.map qB).flatten[j]?=cs[j]?:=by rw[hd,List.getElem?_take,if_pos hj']
  rw[List.getElem?_eq_getElem (by simpa using hj),List.getElem?_eq_getElem (by omega:j < cs.length)] at this
  simpa using this
 constructor
 ·rw[hv]
  simp only[World.cell?,hrow,Nat.zero_add,id]
  simp[List.getElem?_eq_getElem (by omega:j < cs.length)]
 ·rw[Nat.zero_add];exact frozen_of_row w r j _ T hrow
def tgs (l:List Int):List Tg:=l.map fun n=>⟨n,0⟩
def bO (l:List Tg):List (List Value):=l.map Tg.row
theorem gK (l:List Int):bO (tgs l)=l.map qB:=by simp[bO,tgs,qB,Tg.row]
theorem HB (a b:List Tg):bO (a++b)=bO a++bO b:=by simp[bO]
theorem bf (a:List Tg):(bO a).length=a.length:=by simp[bO]
theorem ix (l:List Int):(tgs l).length=l.length:=by simp[tgs]
def plT (p:Int):List Tg:=[⟨0,1 - p⟩,⟨0,p⟩]
theorem OF {α:Type} {l:List α} {i:Nat} (h:i < l.length):l.reverse[i]'(by simpa using h)=l[l.length - 1 - i]'(by omega):=by rw[List.getElem_reverse]
theorem Eu {x y:Int} (h1:-9223372036854775808≤x - y) (h2:x - y < 9223372036854775808):ak (.bin .sub .int) [iV x,iV y]=some (iV (x - y)):=by
 simp only[ak,fL,fg,if_true]
 rw[gJ (by omega) (by omega)]
def ID (n:Nat) (R:Nat→Value→Heap→Own→Prop) (vs:List Value) (H:Heap) (O:Own):Prop:=∃ (i:Nat) (x:Value),vs=[x,iV ((n:Int) - 1 - i)]∧i≤n∧R i x H O
def MD (vs:List Value) (_:Heap) (_:Own):Nat:=match g vs 1 with | .int _ k=>(k + 1).toNat | _=>0
theorem LK {P:Program} {lab key:Nat} {x0:Value} {body:(List Value→Heap→Own→Prop)→List Value→Tree} {H:Heap} {O:Own} {Q:Value→Heap→Own→Prop} (n:Nat) (R:Nat→Value→Heap→Own→Prop)
  (h0:R 0 x0 H O) (step:∀ i x H' O',i≤n→Heap.le H H'→R i x H' O'→(body (L8 (ID n R) MD (n - i)) [x,iV ((n:Int) - 1 - i)]).den P Q H' O') :
  (Tree.loop lab key [x0,iV ((n:Int) - 1)] body).den P Q H O:=by
 refine fG (ID n R) MD ⟨0,x0,by simp,Nat.zero_le _,h0⟩ ?_
 rintro vs H' O' _ _ hle ⟨i,x,rfl,hi,hr⟩
 have e:MD [x,iV ((n:Int) - 1 - i)] H' O'=n - i:=by show ((n:Int) - 1 - i + 1).toNat=n - i;omega
 rw[e]
 exact step i x H' O' hi hle hr
theorem yf {P:Program} {lab n i:Nat} {R:Nat→Value→Heap→Own→Prop} {x:Value} {eqs:List (List Value × List Value)} {H:Heap} {O:Own} {Q:Value→Heap→Own→Prop} (he:Eqs eqs) (hi:i < n) (hr:R (i + 1) x H O) :
  (Tree.cont lab (L8 (ID n R) MD (n - i)) [x,iV ((n:Int) - 1 - i - 1)] eqs).den P Q H O:=by
 refine bU he ⟨i + 1,x,by congr 3;omega,hi,hr⟩ ?_
 show ((n:Int) - 1 - i - 1 + 1).toNat < n - i
 omega
theorem I6 {P:Program} {f:FuncId} {args:List Value} {H:Heap} {O:Own} {r:Value} {shp:Shp} {vs:List Value} {K:List Value→List (List Value)→Heap→Own→Prop}
  (h:RetO P f args H [] r) (ho:shp.open r=some vs) (h1:Ones vs) (hk:∀ H',Heap.le H H'→K vs [] H' O) :
  dZ (fun H1 O1 R=>Triple P f args H1 O1 R) false [] [] shp K H O:=by
 refine ar h ?_
 rintro v H' O1 ⟨rfl,rfl⟩ l
 exact⟨vs,ho,h1,hk H' l⟩
end Go.Sx
namespace Go.Proofs.YtdhobpmnkfmcfaaGreatDoor
open Go Go.Sx Go.ChangeShapes Go.WideShapes Go.ChangeAt Go.RowKit
set_option maxRecDepth 100000
set_option maxHeartbeats 1000000
theorem uh:jk PP 5 39=some [35,36,3,3,37]:=by kernel_rfl
theorem HU {H:Heap} {v:Value} (h:Leaf PP H 62 v):∃ l,Sl H 5 v (iL l):=by
 obtain⟨rows,hs,n,hw⟩:=h.slice Tryz.underlying62
 have hc:PP.cellsOf 39=5:=by kernel_rfl
 rw[hc] at hs
 obtain⟨l,rfl⟩:=Iz (f:=Eff.row) (rows:=rows) fun r hr=>by
  have hl:=HF hs hr
  obtain⟨x0,e0,_⟩:=(gX uh (hw r hr) 0 _ rfl).int Tryz.underlying35
  obtain⟨x1,e1,_⟩:=(gX uh (hw r hr) 1 _ rfl).int Tryz.underlying36
  obtain⟨x2,e2⟩:=bh (gX uh (hw r hr) 2 3 rfl)
  obtain⟨x3,e3⟩:=bh (gX uh (hw r hr) 3 3 rfl)
  obtain⟨x4,e4,_⟩:=(gX uh (hw r hr) 4 _ rfl).int Tryz.underlying37
  match r,hl with
  | [_,_,_,_,_],_ =>
   refine⟨⟨x0,x1,x2,x3,x4⟩,?_⟩
   simp only[g,List.getD_cons_zero,List.getD_cons_succ] at e0 e1 e2 e3 e4
   rw[e0,e1,e2,e3,e4];rfl
 exact⟨l,hs⟩
theorem MG {H:Heap} {v:Value} (h:Leaf PP H 73 v):∃ tr,TrsX H v tr:=by
 obtain⟨rows,hs,n,hw⟩:=h.slice Tryz.underlying73
 have hc:PP.cellsOf 91=2:=by kernel_rfl
 rw[hc] at hs
 obtain⟨ls,hls,h1⟩:=Option.bind_eq_some_iff.1 N2
 obtain⟨tr,e1,e2⟩:=CW (R:=fun r (l:List Eff)=>Sl H 5 (g r 1) (iL l)) (rows:=rows) fun r hr=>HU (gX hls (hw r hr) 1 _ h1)
 exact⟨tr,rows,hs,e1,e2⟩
theorem JB {H:Heap} {v:Value} (h:Leaf PP H 22 v):∃ cs,CardsX H v cs:=by
 obtain⟨rows,hs,n,hw⟩:=h.slice Tryz.underlying22
 have hc:PP.cellsOf 75=14:=by kernel_rfl
 rw[hc] at hs
 obtain⟨ls,hls,h1⟩:=Option.bind_eq_some_iff.1 zF.1.1
 obtain⟨ls2,hls2,h2⟩:=Option.bind_eq_some_iff.1 zF.1.2
 obtain⟨ls3,hls3,h3⟩:=Option.bind_eq_some_iff.1 zF.2
 obtain rfl:=Option.some.inj (hls.symm.trans hls2)
 obtain rfl:=Option.some.inj (hls.symm.trans hls3)
 obtain⟨cs,e1,e2⟩:=CW (R:=fun r (c:CdX)=>CdRX H r c) (rows:=rows) fun r hr=>by
  obtain⟨k,e,_⟩:=(gX hls (hw r hr) 1 _ h1).int Tryz.underlying69
  obtain⟨l,ht⟩:=HU (gX hls (hw r hr) 11 _ h2)
  obtain⟨tr,hr⟩:=MG (gX hls (hw r hr) 12 _ h3)
  exact⟨⟨k,l,tr⟩,e,ht,hr⟩
 exact⟨cs,rows,hs,e1,e2⟩
end Go.Proofs.YtdhobpmnkfmcfaaGreatDoor
namespace Go.Sx
open Go
end Go.Sx
