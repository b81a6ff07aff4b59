/- What a call of 'known' hands back. -/
import Derived.Test.YteakpllehopodaaGreatDoorKN
import Derived.Test.YteakpllehopodaaGreatDoorC6
import Derived.Test.YteakpllehopodaaGreatDoorC32
import Derived.Test.YteakpllehopodaaGreatDoorM
namespace Go.Proofs.YteakpllehopodaaGreatDoor
open Go Go.Sx
set_option maxRecDepth 100000
set_option maxHeartbeats 1000000
theorem Triple.frozenS {P:Program} {f:FuncId} {args:List Value} {H:Heap} {e:TypeId} {size:Nat} {rows:List (List Value)} (h:Triple P f args H [] fun v _ O'=>OSl e size v rows O') :
  Triple P f args H [] fun v H' O'=>Sl H' size v rows∧O'=[]:=by
 refine h.ghost ?_
 intro v H' O' _ hc ho
 obtain⟨H'',g,k,_⟩:=ho.freeze (X:=[]) (by simpa using hc)
 exact⟨H'',[],by simpa using g,k,rfl⟩
theorem sO {α:Type} {p:α→Bool} {l:List α} {i:Nat} (h:i < l.length):(l.take (i + 1)).filter p=(l.take i).filter p++(if p l[i] then [l[i]] else []):=by
 rw[List.take_add_one,List.getElem?_eq_getElem h,List.filter_append]
 congr 1
 simp only[Option.toList_some,List.filter_cons,List.filter_nil]
theorem PM {H:Heap} {O:Go.Sx.Own} {v:Value} {ks:List Int} (h:KindS H v ks) (c:Int) :
  (∃ x:Bool,(x=true ↔ (c < 0∨c ≥ (ks.length:Int)))∧al .len [v]=some (iV ks.length)∧x=(decide (c < 0) || decide (c ≥ (ks.length:Int)))) ∧
  (¬ (c < 0∨c ≥ (ks.length:Int))→∃ a r,al (.idx 14) [v,iV c]=some (.pointer (some a))∧H.read (.pointer (some a)) 14=some r∧r.length=14∧Ones r∧g r 1=iV (Gh ks c)):=by
 obtain⟨rows,h1,h2,h3⟩:=h
 refine⟨⟨_,?_,?_,rfl⟩,fun hn=>?_⟩
 ·simp
 ·have:=h1.len;rw[this,h2]
 ·have hlt:c.toNat < rows.length:=by omega
  obtain⟨a,k1,k2,k3,k4⟩:=h1.idx (k:=.i64) (i:=c.toNat) (List.getElem?_eq_getElem hlt)
  have hk:ks[c.toNat]?=some (ks.getD c.toNat 0):=by
   rw[List.getD_eq_getElem?_getD,List.getElem?_eq_getElem (by omega)];rfl
  have e:=h3 c.toNat _ _ (List.getElem?_eq_getElem hlt) hk
  refine⟨a,_,?_,k2,k3,k4,?_⟩
  ·rw[show iV c=iV (c.toNat:Int) by rw[Int.toNat_of_nonneg (by omega)]];exact k1
  ·rw[e,Gh,if_neg hn]
theorem JU {r:List Value} (h:r.length=14):([g r 0,g r 1,g r 2,g r 3,g r 4,g r 5,g r 6,g r 7,g r 8,g r 9,g r 10,g r 11,g r 12,g r 13]:List Value)=r:=QQ h
abbrev Ru:List Value:=[.string ⟨#[]⟩,iV 0,iV 0,iV 0,iV 0,iV 0,iV 0,iV 0,iV 0,iV 0,iV 0,.slice none 0 0,.slice none 0 0,iV 0]
def VZ (ks:List Int) (c:Int) (r:Value) (_:Heap):Prop:=∃ cells:List Value,r=.agg cells.toArray∧cells.length=14∧Ones cells∧g cells 1=iV (Gh ks c)
theorem UH {H:Heap} {O:Go.Sx.Own} {v:Value} {ks:List Int} (h:KindS H v ks) (o:Ob):Triple PP nV [v,.agg o.row.toArray] H O fun r H' O'=>VZ ks o.card r H'∧O'=O:=by
 refine ki (vs:=v::o.row) (by kernel_rfl) ⟨h.one,ga o⟩ ?_
 simp only[jU]
 obtain⟨⟨x,hx,hlen,ex⟩,hlook⟩:=PM (O:=O) h o.card
 refine ah fun r0=>ah fun r1=>?_
 refine ae ?_
 refine ab _ (aG _ _) ?_
 refine ae (ai (ai ?_))
 refine ab _ hlen ?_
 refine ai (ai (ab _ (rh _ _) (ai (ab _ (aO _ _) ?_))))
 refine aj (fun hb=>?_) (fun hb=>?_)
 ·have hb:(decide (o.card < 0) || decide (o.card ≥ (ks.length:Int)))=true:=hb
  rw[← ex] at hb
  refine ae (ae ?_)
  refine af ⟨⟨Ru,rfl,rfl,⟨rfl,rfl,rfl,rfl,rfl,rfl,rfl,rfl,rfl,rfl,rfl,rfl,rfl,rfl,trivial⟩,?_⟩,rfl⟩
  rw[Gh,if_pos (hx.1 hb)];rfl
 ·have hb:(decide (o.card < 0) || decide (o.card ≥ (ks.length:Int)))=false:=hb
  rw[← ex] at hb
  obtain⟨a,r,k1,k2,k3,k4,k5⟩:=hlook (fun e=>by rw[hx.2 e] at hb;cases hb)
  refine ae ?_
  refine ab _ k1 (aA (gX k2) k3 k4 ?_)
  refine ae (ae ?_)
  exact af ⟨⟨r,by rw[← JU k3];rfl,k3,k4,k5⟩,rfl⟩
theorem KW {H:Heap} {O:Go.Sx.Own} {v:Value} {ks:List Int} (h:KindS H v ks) (o:Ob):RetO PP nl [v,.agg o.row.toArray] H O (.bool (Jq ks o)):=by
 refine sA (vs:=v::o.row) (by kernel_rfl) ⟨h.one,ga o⟩ ?_
 simp only[mW]
 refine ah fun r0=>?_
 refine ae ?_
 refine ab _ (aw _ _) (aj (fun hb=>af ⟨?_,rfl⟩) (fun hb=>?_))
 ·have hb:(o.card == -1)=true:=hb
  rw[Jq,hb];rfl
 ·have hb:(o.card == -1)=false:=hb
  refine ae ?_
  refine Aa (UH h o) ?_
  rintro _ H1 ⟨cells,rfl,k1,k2,k3⟩ l1
  refine⟨cells,by simp[Shp.open,k1],k2,?_⟩
  dsimp only
  rw[k3]
  refine ab _ (aw _ _) ?_
  refine af ⟨?_,rfl⟩
  rw[Jq,hb];rfl
def xY (ks:List Int) (b:Bd) (p:Int) (o:Ob):Bool:=o.owner == p && (Jq ks o && (cg b p).field.contains o.id)
def iC (ks:List Int) (b:Bd) (p:Int):List Int:=if (ay p 0 1 && aE b)=true then (b.objs.filter (xY ks b p)).map (·.id) else []
theorem wy {H:Heap} {cv:Value} {ks:List Int} (hk:KindS H cv ks) {v:cI} {b:Bd} (h:BdS H v b) (p:Int) :
  Triple PP iY [cv,.agg (ao v b).toArray,iV p] H [] fun r _ O'=>OSl aQ 1 r (aJ (iC ks b p)) O':=by
 refine sD (vs:=cv::(ao v b++[iV p])) (by kernel_rfl) ⟨hk.one,aK (ap (h.r [])) ⟨rfl,trivial⟩⟩ ?_
 simp only[mZ]
 refine ah fun r0=>?_
 refine am (cd p 0 1 H []) rfl ⟨rfl,trivial⟩ fun H1 l1=>ab _ (aC _) (aj (fun hb=>?_) (fun hb=>?_))
 ·have e:iC ks b p=[]:=by rw[iC,if_neg];rw[show ay p 0 1=false from Br hb];simp
  rw[e]
  exact af (OSl.nil _ _)
 have hw:ay p 0 1=true:=yk hb
 replace h:=h.le l1
 replace hk:=hk.le l1
 refine ae ?_
 refine am (bE (h.r [])) rfl ⟨rfl,trivial⟩ fun H2 l2=>ab _ (aC _) (aj (fun hb=>?_) (fun hb=>?_))
 ·have e:iC ks b p=[]:=by rw[iC,if_neg];rw[show aE b=false from Br hb];simp
  rw[e]
  exact af (OSl.nil _ _)
 have hv:aE b=true:=yk hb
 have hobl:=yx hv
 have e:iC ks b p=(b.objs.filter (xY ks b p)).map (·.id):=by rw[iC,if_pos (by rw[hw,hv];rfl)]
 rw[e]
 clear hb e
 replace h:=h.le l2
 replace hk:=hk.le l2
 have lo:=h.objs.len
 rw[List.length_map] at lo
 have hp:p=0∨p=1:=by simp only[ay,decide_eq_true_eq] at hw;omega
 refine ae ?_
 refine ab _ lo ?_
 refine eE b.objs.length (fun i x H' O'=>Heap.le H2 H'∧OSl aQ 1 x (aJ (((b.objs.take i).filter (xY ks b p)).map (·.id))) O') ⟨Heap.le_refl _,OSl.nil _ _⟩ ?_
 rintro i x H' O' hi - ⟨hle,hx⟩
 refine ab _ (aG _ _) (aj (fun hb=>?_) (fun hb=>?_))
 ·have hlt:i < b.objs.length:=by simpa using hb
  obtain⟨a,i1,i2,i3,i4⟩:=(h.objs.le hle).idx (k:=.i64) (i:=i) (r:=Ob.row b.objs[i]) (by simp[hlt])
  have hft:=sO (p:=xY ks b p) hlt
  have hnot:xY ks b p b.objs[i]=false→∀ H3,Heap.le H' H3→(Heap.le H2 H3∧OSl aQ 1 x (aJ (((b.objs.take (i + 1)).filter (xY ks b p)).map (·.id))) O'):=fun hn H3 l3=>by
   rw[hft,if_neg (by rw[hn];simp),List.append_nil];exact⟨Heap.le_trans hle l3,hx⟩
  refine ab _ i1 (nH i2 i3 i4 (ah fun r1=>?_))
  refine ae (ae ?_)
  refine ab _ (aw _ _) ?_
  refine aj (fun h1=>?_) (fun h1=>?_)
  ·have h1:(b.objs[i].owner == p)=true:=h1
   refine ae ?_
   refine am (KW (hk.le hle) b.objs[i]) rfl ⟨rfl,trivial⟩ fun H3 l3=>aj (fun h2=>?_) (fun h2=>?_)
   ·have lz:=Heap.le_trans hle l3
    rcases hp with rfl | rfl
    ·refine⟨.i64,0,rfl,fun _=>?_,fun e=>absurd rfl e⟩
     refine ae (ae ?_)
     refine am (aZ (((h.s0.field).le lz).rsl O') b.objs[i].id) rfl ⟨rfl,trivial⟩ fun H4 l4=>aj (fun h3=>?_) (fun h3=>?_)
     ·have hcr:xY ks b 0 b.objs[i]=true:=by rw[xY,h1,h2];exact h3
      have hlen:((b.objs.take i).filter (xY ks b 0)).length≤1000000:=Nat.le_trans (List.length_filter_le _ _) (by rw[List.length_take];omega)
      refine ae ?_
      refine ah fun r2=>?_
      refine aH (rows:=aJ (((b.objs.take i).filter (xY ks b 0)).map fun o:Ob=>o.id)) (news:=[[iV b.objs[i].id]]) (O1:=O') (O2:=[]) (e:=aQ) (size:=1) (bytes:=8) (by kernel_rfl) (by simp) hx (fun Hf _ hf=>Sl.block1 (hf _ List.mem_cons_self) rfl ⟨rfl,trivial⟩) (by simp[aJ];omega) (by simp[aJ];omega) ?_
      intro v' A' H6 l6 hA'
      refine ab _ (aD (by omega)) (aV (by simp[Eqs]) hlt ⟨Heap.le_trans lz (Heap.le_trans l4 l6),?_⟩)
      rw[List.append_nil,hft,if_pos hcr,List.map_append,aJ,List.map_append];exact hA'
     ·have hcr:xY ks b 0 b.objs[i]=false:=by rw[xY,h1,h2];exact h3
      exact ab _ (aD (by omega)) (aV (by simp[Eqs]) hlt (hnot hcr _ (Heap.le_trans l3 l4)))
    ·refine⟨.i64,1,rfl,fun e=>absurd e (by omega),fun _=>⟨.i64,1,rfl,fun _=>?_,fun e=>absurd rfl e⟩⟩
     refine ae (ae ?_)
     refine am (aZ (((h.s1.field).le lz).rsl O') b.objs[i].id) rfl ⟨rfl,trivial⟩ fun H4 l4=>aj (fun h3=>?_) (fun h3=>?_)
     ·have hcr:xY ks b 1 b.objs[i]=true:=by rw[xY,h1,h2];exact h3
      have hlen:((b.objs.take i).filter (xY ks b 1)).length≤1000000:=Nat.le_trans (List.length_filter_le _ _) (by rw[List.length_take];omega)
      refine ae ?_
      refine ah fun r2=>?_
      refine aH (rows:=aJ (((b.objs.take i).filter (xY ks b 1)).map fun o:Ob=>o.id)) (news:=[[iV b.objs[i].id]]) (O1:=O') (O2:=[]) (e:=aQ) (size:=1) (bytes:=8) (by kernel_rfl) (by simp) hx (fun Hf _ hf=>Sl.block1 (hf _ List.mem_cons_self) rfl ⟨rfl,trivial⟩) (by simp[aJ];omega) (by simp[aJ];omega) ?_
      intro v' A' H6 l6 hA'
      refine ab _ (aD (by omega)) (aV (by simp[Eqs]) hlt ⟨Heap.le_trans lz (Heap.le_trans l4 l6),?_⟩)
      rw[List.append_nil,hft,if_pos hcr,List.map_append,aJ,List.map_append];exact hA'
     ·have hcr:xY ks b 1 b.objs[i]=false:=by rw[xY,h1,h2];exact h3
      exact ab _ (aD (by omega)) (aV (by simp[Eqs]) hlt (hnot hcr _ (Heap.le_trans l3 l4)))
   ·have hcr:xY ks b p b.objs[i]=false:=by rw[xY,h1,h2];rfl
    exact ab _ (aD (by omega)) (aV (by simp[Eqs]) hlt (hnot hcr _ l3))
  ·have h1:(b.objs[i].owner == p)=false:=h1
   have hcr:xY ks b p b.objs[i]=false:=by rw[xY,h1];rfl
   exact ab _ (aD (by omega)) (aV (by simp[Eqs]) hlt (hnot hcr _ (Heap.le_refl _)))
 ·have hge:b.objs.length≤i:=by simpa using hb
  rw[List.take_of_length_le hge] at hx
  exact af hx
theorem IA {H:Heap} {cv:Value} {ks:List Int} (hk:KindS H cv ks) {v:cI} {b:Bd} (h:BdS H v b) (p:Int) :
  Triple PP iY [cv,.agg (ao v b).toArray,iV p] H [] fun r H' O'=>Sl H' 1 r (aJ (iC ks b p))∧O'=[]:=Triple.frozenS (wy hk h p)
theorem vY:∀ {l:List Ob} {prev:Option Int},EY prev l=true→(l.map (·.id)).Pairwise (· < ·)
 | [],_,_=>List.Pairwise.nil
 | a::l,prev,h=>by
  simp only[EY,Bool.and_eq_true] at h
  rw[List.map_cons,List.pairwise_cons]
  refine⟨fun x hx=>?_,vY h.2⟩
  obtain⟨o,ho,rfl⟩:=List.mem_map.1 hx
  exact (pj h.2).1 o ho _ rfl
theorem Wg (H:Heap):CdR H Ru zCd:=⟨rfl,EffsS.nil H,TrigsS.nil H⟩
theorem MO {H:Heap} {v:Value} {cs:List Cd} (h:CardsS H v cs) (c:Int) (hn:¬ (c < 0∨c ≥ (cs.length:Int))) :
  ∃ a r,al (.idx 14) [v,iV c]=some (.pointer (some a))∧H.read (.pointer (some a)) 14=some r∧r.length=14∧Ones r∧CdR H r (Il cs c):=by
 obtain⟨rows,h1,h2,h3⟩:=h
 have hlt:c.toNat < rows.length:=by omega
 obtain⟨a,k1,k2,k3,k4⟩:=h1.idx (k:=.i64) (i:=c.toNat) (List.getElem?_eq_getElem hlt)
 have hk:cs[c.toNat]?=some (Il cs c):=by
  rw[Il,if_neg hn,List.getD_eq_getElem?_getD,List.getElem?_eq_getElem (by omega)];rfl
 refine⟨a,_,?_,k2,k3,k4,h3 c.toNat _ _ (List.getElem?_eq_getElem hlt) hk⟩
 rw[show iV c=iV (c.toNat:Int) by rw[Int.toNat_of_nonneg (by omega)]];exact k1
def V0 (cs:List Cd) (c:Int) (v:Value) (H:Heap):Prop:=∃ cells:List Value,v=.agg cells.toArray∧cells.length=14∧Ones cells∧CdR H cells (Il cs c)
theorem S9 {H:Heap} {O:Go.Sx.Own} {v:Value} {cs:List Cd} (h:CardsS H v cs) (o:Ob):Triple PP nV [v,.agg o.row.toArray] H O fun r H' O'=>V0 cs o.card r H'∧O'=O:=by
 refine ki (vs:=v::o.row) (by kernel_rfl) ⟨h.one,ga o⟩ ?_
 simp only[jU]
 refine ah fun r0=>ah fun r1=>?_
 refine ae ?_
 refine ab _ (aG _ _) ?_
 refine ae (ai (ai ?_))
 refine ab _ h.len ?_
 refine ai (ai (ab _ (rh _ _) (ai (ab _ (aO _ _) ?_))))
 refine aj (fun hb=>?_) (fun hb=>?_)
 ·have hb:(decide (o.card < 0) || decide (o.card ≥ (cs.length:Int)))=true:=hb
  refine ae (ae ?_)
  refine af ⟨⟨Ru,rfl,rfl,⟨rfl,rfl,rfl,rfl,rfl,rfl,rfl,rfl,rfl,rfl,rfl,rfl,rfl,rfl,trivial⟩,?_⟩,rfl⟩
  rw[Il,if_pos (by simpa using hb)];exact Wg H
 ·have hb:(decide (o.card < 0) || decide (o.card ≥ (cs.length:Int)))=false:=hb
  obtain⟨a,r,k1,k2,k3,k4,k5⟩:=MO h o.card (by simpa [Bool.or_eq_false_iff] using hb)
  refine ae ?_
  refine ab _ k1 (aA (gX k2) k3 k4 ?_)
  refine ae (ae ?_)
  exact af ⟨⟨r,by rw[← JU k3];rfl,k3,k4,k5⟩,rfl⟩
theorem JC {H:Heap} {v:Value} {l:List (List Value)} (h:Sl H 5 v l) (hb:l.length≤2 ^ 30):Triple PP bD [v] H [] fun v' H' O'=>OSl cH 5 v' l O':=by
 refine cR (vs:=[v]) (by kernel_rfl) ⟨h.one,trivial⟩ ?_
 simp only[bB]
 obtain⟨a,cap,rfl,h1,h2,h3⟩:=h
 have hev:al (.bin .eql .slice) [.slice a l.length cap,.slice none 0 0]=some (.bool a.isNone):=by cases a <;> rfl
 refine ab _ hev (aj (fun hn=>af ?_) (fun hn=>fun r0=>?_))
 ·have hl:l=[]:=by
   by_cases hl:l=[]
   ·exact hl
   ·obtain⟨ad,rfl,_⟩:=h3 hl;cases hn
  subst hl
  exact OSl.nil cH 5
 ·refine aH (rows:=[]) (news:=l) (O1:=[]) (O2:=[]) (e:=cH) (size:=5) (bytes:=40) (by kernel_rfl) (List.Perm.refl _) (.inl ⟨⟨_,rfl⟩,rfl,rfl⟩) (fun Hf hl _=>Sl.le hl ⟨a,cap,rfl,h1,h2,h3⟩) (by simp;omega) (by simp;omega) ?_
  intro v' O1' H' _ ho
  refine af ?_
  rw[List.append_nil]
  exact ho
theorem QE {H:Heap} {v:Value} {l:List (List Value)} (h:Sl H 2 v l) (hb:l.length≤2 ^ 30):Triple PP bn [v] H [] fun v' H' O'=>OSl cG 2 v' l O':=by
 refine ct (vs:=[v]) (by kernel_rfl) ⟨h.one,trivial⟩ ?_
 simp only[bm]
 obtain⟨a,cap,rfl,h1,h2,h3⟩:=h
 have hev:al (.bin .eql .slice) [.slice a l.length cap,.slice none 0 0]=some (.bool a.isNone):=by cases a <;> rfl
 refine ab _ hev (aj (fun hn=>af ?_) (fun hn=>fun r0=>?_))
 ·have hl:l=[]:=by
   by_cases hl:l=[]
   ·exact hl
   ·obtain⟨ad,rfl,_⟩:=h3 hl;cases hn
  subst hl
  exact OSl.nil cG 2
 ·refine aH (rows:=[]) (news:=l) (O1:=[]) (O2:=[]) (e:=cG) (size:=2) (bytes:=32) (by kernel_rfl) (List.Perm.refl _) (.inl ⟨⟨_,rfl⟩,rfl,rfl⟩) (fun Hf hl _=>Sl.le hl ⟨a,cap,rfl,h1,h2,h3⟩) (by simp;omega) (by simp;omega) ?_
  intro v' O1' H' _ ho
  refine af ?_
  rw[List.append_nil]
  exact ho
def U8 (c:Cd) (v:Value) (H:Heap):Prop:=∃ cells:List Value,v=.agg cells.toArray∧cells.length=14∧Ones cells∧g cells 1=iV c.kind∧EffsS H (g cells 11) c.tg
theorem jr {l:List Value} (h:Ones l) {i:Nat} (hi:i < l.length):(g l i).oneCell'=true:=by
 rw[g,List.getD_eq_getElem?_getD,List.getElem?_eq_getElem hi]
 exact iZ h _ (List.getElem_mem hi)
theorem KX {H:Heap} {cells:List Value} {c:Cd} (h:CdR H cells c) (hl:cells.length=14) (ho:Ones cells) (hli:vI c=true) :
  Triple PP nZ [.agg cells.toArray] H [] fun r H' O'=>U8 c r H'∧O'=[]:=by
 simp only[vI,Bool.and_eq_true,Bool.not_eq_true',Bool.or_eq_false_iff,decide_eq_false_iff_not,List.all_eq_true] at hli
 obtain⟨⟨b1,b2⟩,b3⟩:=hli
 obtain⟨hk,⟨erows,e1,e2,e3⟩,⟨trows,t1,t2,t3⟩⟩:=h
 refine tB (vs:=cells) (by rw[← JU hl];kernel_rfl) ho ?_
 simp only[sZ]
 refine ah fun r0=>ah fun r1=>?_
 refine ae (ae ?_)
 refine az (Triple.frozenS (JC e1 (by omega))) ?_
 rintro x H1 _ ⟨hx,rfl⟩ l1
 refine⟨[x],rfl,⟨hx.one,trivial⟩,?_⟩
 refine az (QE (t1.le l1) (by omega)) fun y H2 O2 hy l2=>⟨[y],rfl,⟨hy.one,trivial⟩,?_⟩
 have ylen:=hy.len
 rw[t2] at ylen
 refine ae (ae (ae ?_))
 refine ab _ ylen ?_
 refine aY c.tr.length (fun i H' O'=>Heap.le H2 H'∧∃ rows' A,O'.Perm A∧OSl cG 2 y rows' A∧rows'.length=c.tr.length∧∀ j,i≤j→rows'[j]?=trows[j]?) ⟨Heap.le_refl _,trows,O2,by simp,hy,t2,fun _ _=>rfl⟩ ?_
 rintro i H' O' hi - ⟨hle,rows',A,hp,hA,hrl,hrest⟩
 refine ab _ (aG _ _) (aj (fun hb=>?_) (fun hb=>?_))
 ·have hlt:i < c.tr.length:=by simpa using hb
  have hri:rows'[i]?=some trows[i]:=by rw[hrest i (Nat.le_refl _)];exact List.getElem?_eq_getElem (by omega)
  obtain⟨er,k1,k2⟩:=t3 i trows[i] c.tr[i] (List.getElem?_eq_getElem (by omega)) (List.getElem?_eq_getElem hlt)
  have hb3:=b3 _ (List.getElem_mem hlt)
  obtain⟨a,i1,i2,i3,i4⟩:=hA.idx (fun p h=>hp.mem_iff.2 h) H' (k:=.i64) hri
  obtain⟨w1,w2⟩:=hA.rows_ok hri
  refine ab _ i1 (aA i3 w1 w2 (ah fun r2=>?_))
  refine ae (ae (ae ?_))
  refine az (Triple.frozenS (JC (k1.le (Heap.le_trans l1 (Heap.le_trans l2 hle))) (by rw[k2];omega))) ?_
  rintro z H3 _ ⟨hz,rfl⟩ l3
  refine⟨[z],rfl,⟨hz.one,trivial⟩,?_⟩
  obtain⟨a2,j1,j2⟩:=hA.store (O:=[]++O') (O2:=[]) (by simpa using hp) (k:=.i64) hri
  obtain⟨A',hst,hA'⟩:=j2 1 [z] (by simp[w1]) ⟨hz.one,trivial⟩
  refine ab _ j1 ?_
  refine ak rfl (ak rfl ?_)
  refine⟨_,hst,?_⟩
  refine ab _ (aD (by omega)) (aN (by simp[Eqs]) hlt ⟨Heap.le_trans hle l3,_,A',by simp,hA',by simp[hrl],fun j hj=>?_⟩)
  rw[List.getElem?_set_ne (by omega)]
  exact hrest j (by omega)
 ·refine ae (ae (ae ?_))
  refine qJ ⟨⟨[g cells 0,g cells 1,g cells 2,g cells 3,g cells 4,g cells 5,g cells 6,g cells 7,g cells 8,g cells 9,g cells 10,x,y,g cells 13],rfl,rfl,?_,hk,⟨erows,hx.le (Heap.le_trans l2 hle),e2,e3⟩⟩,rfl⟩
  exact⟨jr ho (by omega),jr ho (by omega),jr ho (by omega),jr ho (by omega),jr ho (by omega),jr ho (by omega),jr ho (by omega),jr ho (by omega),jr ho (by omega),jr ho (by omega),jr ho (by omega),hx.one,hy.one,jr ho (by omega),trivial⟩
theorem NP {H:Heap} {v:Value} {cs:List Cd} (h:CardsS H v cs) (hli:zq cs=true) (o:Ob):Triple PP nX [v,.agg o.row.toArray] H [] fun r H' O'=>U8 (Il cs o.card) r H'∧O'=[]:=by
 refine o4 (vs:=v::o.row) (by kernel_rfl) ⟨h.one,ga o⟩ ?_
 simp only[nR]
 refine ah fun r0=>ah fun r1=>?_
 refine ae ?_
 refine az (S9 (O:=[]) h o) ?_
 rintro _ H1 _ ⟨⟨cells,rfl,k1,k2,k3⟩,rfl⟩ l1
 refine⟨cells,by simp[Shp.open,k1],k2,?_⟩
 have hrow:=JU k1
 refine az (KX (cells:=[g cells 0,g cells 1,g cells 2,g cells 3,g cells 4,g cells 5,g cells 6,g cells 7,g cells 8,g cells 9,g cells 10,g cells 11,g cells 12,g cells 13]) (by rw[hrow];exact k3) rfl (by rw[hrow];exact k2) (MQ hli _)) ?_
 rintro _ H2 _ ⟨⟨cells2,rfl,m1,m2,m3,m4⟩,rfl⟩ l2
 refine⟨cells2,by simp[Shp.open,m1],m2,?_⟩
 refine ae (ae ?_)
 exact af ⟨⟨cells2,by rw[← JU m1];rfl,m1,m2,m3,m4⟩,rfl⟩
theorem Gt {α:Type} {p:α→Bool} {l:List α} {i:Nat} (h:i < l.length):((l.take (i + 1)).filter p).length=((l.take i).filter p).length + if p l[i] then 1 else 0:=by
 rw[List.take_add_one,List.getElem?_eq_getElem h,List.filter_append,List.length_append]
 congr 1
 by_cases hp:p l[i] <;> simp[hp]
theorem NA {H:Heap} {O:Go.Sx.Own} {v:Value} {tg:List Int} (h:EffsS H v tg) {i:Nat} (hi:i < tg.length) :
  ∃ a r,al (.idx 5) [v,iV i]=some (.pointer (some a))∧H.read (.pointer (some a)) 5=some r∧r.length=5∧Ones r∧g r 1=iV tg[i]∧Reads H O (an (.pointer (some a)) 1) 1 [iV tg[i]]:=by
 obtain⟨rows,h1,h2,h3⟩:=h
 have hlt:i < rows.length:=by omega
 obtain⟨a,k1,k2,k3,k4⟩:=h1.idx (k:=.i64) (i:=i) (List.getElem?_eq_getElem hlt)
 have hg:=h3 i _ _ (List.getElem?_eq_getElem hlt) (List.getElem?_eq_getElem hi)
 obtain⟨a2,j1,_,j3,_⟩:=(h1.rsl O).idx .i64 i rows[i] (by simp[hlt])
 obtain rfl:a2=a:=by rw[j1] at k1;simpa using k1
 have hr:=j3 1 1 (by omega)
 refine⟨_,_,k1,k2,k3,k4,hg,?_⟩
 have e:((rows[i]).drop 1).take 1=[iV tg[i]]:=by
  match hm:rows[i],k3 with
  | [_,b,_,_,_],_=>rw[hm] at hg;simpa [g] using hg
 rw[e] at hr
 exact hr
theorem N1 {H:Heap} {O:Go.Sx.Own} {v:Value} {tg:List Int} (h:EffsS H v tg) (hb:tg.length≤1000000):RetO PP jy [v] H O (iV (fF tg).length):=by
 refine kR (vs:=[v]) (by kernel_rfl) ⟨h.one,trivial⟩ ?_
 simp only[jv]
 refine ab _ h.len ?_
 refine eE tg.length (fun i x H' O'=>O'=O∧Heap.le H H'∧x=iV (fF (tg.take i)).length) ⟨rfl,Heap.le_refl _,rfl⟩ ?_
 rintro i x H' O' hi - ⟨rfl,hle,rfl⟩
 refine ab _ (aG _ _) (aj (fun hb=>?_) (fun hb=>?_))
 ·have hlt:i < tg.length:=by simpa using hb
  obtain⟨a,r,k1,k2,k3,k4,k5,_⟩:=NA (O:=O') (h.le hle) hlt
  refine ab _ k1 (aA (gX k2) k3 k4 (ah fun r0=>?_))
  refine ae (ae ?_)
  rw[k5]
  refine ab _ (fx _ _) ?_
  have hft:=Gt (p:=fun t:Int=>t != 0) hlt
  have hfl:((tg.take i).filter fun t:Int=>t != 0).length≤tg.length:=Nat.le_trans (List.length_filter_le _ _) (by rw[List.length_take];omega)
  refine aj (fun hc=>?_) (fun hc=>?_)
  ·have hc:(tg[i] != 0)=true:=hc
   rw[if_pos hc] at hft
   refine ab _ (aD (by rw[fF];omega)) (ab _ (aD (by omega)) (aV (by simp[Eqs]) hlt ⟨rfl,hle,?_⟩))
   rw[fF,fF,hft]
  ·have hc:(tg[i] != 0)=false:=hc
   rw[if_neg (by rw[hc];simp)] at hft
   refine ab _ (aD (by omega)) (aV (by simp[Eqs]) hlt ⟨rfl,hle,?_⟩)
   rw[fF,fF,hft];rfl
 ·have hge:tg.length≤i:=by simpa using hb
  rw[List.take_of_length_le hge]
  exact af ⟨rfl,rfl⟩
def Wp (c:Int):Ob:=⟨0,c,0,0,0,0,0,0,0,false,false,false⟩
def VB (k:Int):Bool:=k == 3 || k == 4
def od (cs:List Cd) (x:It):Bool:=(VB (Il cs x.card).kind && decide (x.trig < 0)) && decide ((x.tgs.length:Int) ≥ ((fF (Il cs x.card).tg).length:Int))
theorem PO {cs:List Cd} (h:zq cs=true) (c:Int):(Il cs c).tg.length≤5:=by
 have:=MQ h c
 simp only[vI,Bool.and_eq_true,Bool.not_eq_true',Bool.or_eq_false_iff,decide_eq_false_iff_not] at this
 omega
theorem SX {H:Heap} {v:Value} {cs:List Cd} (h:CardsS H v cs) (hli:zq cs=true) {row:List Value} {x:It} (hx:ItR H [] row x):RetO PP rO [v,.agg row.toArray] H [] (.bool (od cs x)):=by
 obtain⟨s,rfl,hs⟩:=hx
 refine xE (vs:=[v,iV x.player,iV x.id,iV x.card,iV x.trig,s]) (by kernel_rfl) ⟨h.one,rfl,rfl,rfl,rfl,hs.one,trivial⟩ ?_
 simp only[rp]
 refine ah fun r0=>?_
 refine ae ?_
 refine az (NP h hli (Wp x.card)) ?_
 rintro _ H1 _ ⟨⟨cells,rfl,k1,k2,k3,k4⟩,rfl⟩ l1
 refine⟨cells,by simp[Shp.open,k1],k2,ah fun r1=>?_⟩
 have k3:g cells 1=iV (Il cs x.card).kind:=k3
 have k4:EffsS H1 (g cells 11) (Il cs x.card).tg:=k4
 refine ae (ae ?_)
 rw[k3]
 have hsl:al .len [s]=some (iV x.tgs.length):=by have:=hs.len;rwa [List.length_map] at this
 refine ab _ (aw _ _) (ae (ai (ai (ab _ (aw _ _) (ai (ab _ (aO _ _) (ae (ai (ai (ab _ (aG _ _) (ai (ab _ (bu _ _) ?_))))))))))))
 refine aj (fun hb=>?_) (fun hb=>?_)
 ·have hb:(VB (Il cs x.card).kind && decide (x.trig < 0))=true:=hb
  refine ae ?_
  refine ab _ hsl ?_
  refine ae ?_
  refine am (N1 k4 (by have:=PO hli x.card;omega)) rfl ⟨rfl,trivial⟩ fun H2 l2=>?_
  refine ab _ (eC _ _) (af ⟨?_,rfl⟩)
  rw[od,hb,Bool.true_and]
 ·have hb:(VB (Il cs x.card).kind && decide (x.trig < 0))=false:=hb
  refine af ⟨?_,rfl⟩
  rw[od,hb,Bool.false_and]
end Go.Proofs.YteakpllehopodaaGreatDoor
