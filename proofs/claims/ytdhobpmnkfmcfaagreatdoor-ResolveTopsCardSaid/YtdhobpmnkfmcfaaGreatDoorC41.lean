/- Ids: the least free one is taken. -/
import Derived.Test.YtdhobpmnkfmcfaaGreatDoorC51
import Derived.Test.YtdhobpmnkfmcfaaGreatDoorC21
import Derived.Test.YtdhobpmnkfmcfaaGreatDoorRW
import Derived.Test.YtdhobpmnkfmcfaaGreatDoorC32
namespace Go.Proofs.YtdhobpmnkfmcfaaGreatDoor
open Go Go.Sx
set_option maxRecDepth 100000
set_option maxHeartbeats 1000000
structure BitsOk (ws:List Nat) (inS:Nat→Bool):Prop where
 len:ws.length=8
 lt:∀ w ∈ ws,w < 2 ^ 64
 bit:∀ q r,q < 8→r < 64→(ws.getD q 0).testBit r=inS (64 * q + r)
theorem S4:BitsOk (List.replicate 8 0) fun _=>false where
 len:=rfl
 lt:=fun w h=>by rw[List.eq_of_mem_replicate h];omega
 bit:=fun q r hq _=>by
  rw[List.getD_eq_getElem?_getD,List.getElem?_replicate,if_pos hq];simp
theorem BitsOk.claim {ws:List Nat} {inS:Nat→Bool} (h:BitsOk ws inS) {q r:Nat} (hq:q < 8) (hr:r < 64):BitsOk (DX ws q r) fun m=>inS m || m == 64 * q + r where
 len:=by rw[DX,List.length_set];exact h.len
 lt:=Qq hr h.lt
 bit:=fun q' r' hq' hr'=>by
  have hl:=h.len
  rw[DX,List.getD_eq_getElem?_getD,List.getElem?_set]
  by_cases e:q=q'
  ·subst e
   rw[if_pos rfl,if_pos (by omega),Option.getD_some,Nat.testBit_or,Nat.testBit_two_pow,h.bit q r' hq hr']
   congr 1
   rw[Bool.eq_iff_iff];simp;omega
  ·rw[if_neg e,← List.getD_eq_getElem?_getD,h.bit q' r' hq' hr']
   have:(64 * q' + r' == 64 * q + r)=false:=by simp;omega
   rw[this,Bool.or_false]
def W2 (inS:Nat→Bool) (v:Value):Prop :=
 (∃ m:Nat,m < 500∧inS m=false∧(∀ j,j < m→inS j=true)∧v=.tuple #[iV ((m:Int) + 1),iV 0])∨((∀ m,m < 500→inS m=true)∧v=.tuple #[iV 0,iV 7])
theorem UI {x y:Int} (h1:-9223372036854775808≤x * y) (h2:x * y < 9223372036854775808):ak (.bin .mul .int) [iV x,iV y]=some (iV (x * y)):=by
 simp only[ak,fL,fg,if_true]
 rw[gJ (by omega) (by omega)]
theorem Qp {w j:Nat} (hj:j < 64):(2 ^ 64 - 1 ^^^ w).testBit j=!w.testBit j:=by
 rw[Nat.testBit_xor,Nat.testBit_two_pow_sub_one,decide_eq_true hj];cases w.testBit j <;> rfl
theorem V7 {H:Heap} (hgl:GlobOk zC H) {p:Value} {O:Own} {ws:List Nat} {inS:Nat→Bool} (h:Wi p ws O) (hb:BitsOk ws inS) :
  Triple PP sg [p] H O fun v _ _=>W2 inS v:=by
 obtain⟨r0,s,A,rfl,rfl,hs⟩:=h
 have hl:=hb.len
 have hlen:ak .len [s]=some (iV (8:Nat)):=by have:=hs.len;rwa [Ez,List.length_map,hl] at this
 refine xx (vs:=[.pointer (some ⟨r0,0,none⟩)]) (by kernel_rfl) ⟨rfl,trivial⟩ ?_
 simp only[rY]
 refine aj (TJ hs.one) rfl ⟨rfl,trivial⟩ fun H1 l1=>?_
 refine ai (fun hb=>by cases hb) (fun _=>?_)
 refine aw rfl (aw rfl ?_)
 refine⟨[s],rfl,⟨hs.one,trivial⟩,fun _=>D5,?_⟩
 refine ab _ hlen ?_
 refine aQ 8 (fun i H' O'=>Heap.le H H'∧O'=(r0,.cells #[iV 500,s] be (0,0))::A∧∀ m,m < 64 * i→m < 500→inS m=true) ⟨l1,rfl,fun m h=>absurd h (by omega)⟩ ?_
 rintro i H' O' hi - ⟨hle,rfl,hall⟩
 refine ab _ (aB _ _) ?_
 refine ai (fun hlt=>?_) (fun hlt=>?_)
 ·have hi8:i < 8:=by simp at hlt;omega
  have hil:i < ws.length:=by omega
  have hwi:=hb.lt _ (List.getElem_mem hil)
  have hgd:ws.getD i 0=ws[i]:=by rw[List.getD_eq_getElem?_getD,List.getElem?_eq_getElem hil];rfl
  have hbit:=hb.bit i
  rw[hgd] at hbit
  generalize hwd:ws[i]=w at hwi hbit hgd
  have hget:(Ez ws)[i]?=some [uV w]:=by rw[xe hil,hwd]
  obtain⟨a,ha,_⟩:=hs.idx (O:=(r0,.cells #[iV 500,s] be (0,0))::A) (fun p hp=>List.mem_cons_of_mem _ hp) H' (k:=.i64) hget
  have hrd:∀ H',Reads H' ((r0,.cells #[iV 500,s] be (0,0))::A) (.pointer (some a)) 1 [uV w]:=fun H'=>by
   obtain⟨a2,h2,_,h3,_⟩:=hs.idx (O:=(r0,.cells #[iV 500,s] be (0,0))::A) (fun p hp=>List.mem_cons_of_mem _ hp) H' (k:=.i64) hget
   obtain rfl:a2=a:=by rw[h2] at ha;simpa using ha
   exact h3
  refine ab _ ha ?_
  refine ap (hrd H') rfl ⟨rfl,trivial⟩ ?_
  refine ab _ (UI (by omega) (by omega)) ?_
  refine ab _ (J5 hwi) ?_
  have hcl:2 ^ 64 - 1 ^^^ w < 2 ^ 64:=Nat.xor_lt_two_pow (by omega) hwi
  have hcb:=fun j (hj:j < 64)=>Qp (w:=w) hj
  generalize hcd:2 ^ 64 - 1 ^^^ w=c at hcl hcb
  rcases Nat.eq_zero_or_pos c with h0 | h0
  ·subst h0
   have hfull:∀ m,m < 64 * (i + 1)→m < 500→inS m=true:=fun m hm h5=>by
    rcases Nat.lt_or_ge m (64 * i) with h | h
    ·exact hall m h h5
    ·have:=hcb (m - 64 * i) (by omega)
     rw[Nat.zero_testBit] at this
     have h2:=hbit (m - 64 * i) hi8 (by omega)
     rw[show 64 * i + (m - 64 * i)=m by omega] at h2
     rw[← h2];simpa using this.symm
   refine aj (WR _) rfl ⟨rfl,trivial⟩ fun H2 l2=>?_
   refine ab _ (rJ (by omega) (by omega)) ?_
   refine ab _ (rJ (by omega) (by omega)) ?_
   refine ab _ (J5 hwi) ?_
   rw[hcd]
   refine ab _ (UG 0 0) ?_
   refine aw rfl (ae (aw rfl (ae (ae ?_))))
   refine⟨[iV 500],rfl,⟨rfl,trivial⟩,fun _=>yr,?_⟩
   refine ae (ae ?_)
   refine ab _ (eR _ _) ?_
   refine ae ?_
   refine ab _ (aT _ _) ?_
   refine ai (fun hb=>by simp at hb) (fun _=>?_)
   exact ab _ (az (by omega)) (aI (by simp[Eqs]) hi8 ⟨Heap.le_trans hle l2,rfl,hfull⟩)
  ·obtain⟨k,m',hk,e⟩:=PC h0 hcl
   have hlow:∀ m,m < 64 * i + k→m < 500→inS m=true:=fun m hm h5=>by
    rcases Nat.lt_or_ge m (64 * i) with h | h
    ·exact hall m h h5
    ·have:=hcb (m - 64 * i) (by omega)
     rw[UN e (by omega)] at this
     have h2:=hbit (m - 64 * i) hi8 (by omega)
     rw[show 64 * i + (m - 64 * i)=m by omega] at h2
     rw[← h2];simpa using this.symm
   have hkf:inS (64 * i + k)=false:=by
    have:=hcb k hk
    rw[VR e] at this
    rw[← hbit k hi8 hk];simpa using this.symm
   refine aj (Xs (hgl.le hle) _ hcl hk e) rfl ⟨rfl,trivial⟩ fun H2 l2=>?_
   refine ab _ (rJ (by omega) (by omega)) ?_
   refine ab _ (rJ (by omega) (by omega)) ?_
   refine ab _ (J5 hwi) ?_
   rw[hcd]
   refine ab _ (UG c 0) ?_
   refine aw rfl (ae (aw rfl (ae (ae ?_))))
   refine⟨[iV 500],rfl,⟨rfl,trivial⟩,fun _=>yr,?_⟩
   refine ae (ae ?_)
   refine ab _ (eR _ _) ?_
   refine ae ?_
   refine ab _ (aT _ _) ?_
   refine ai (fun hy=>?_) (fun hn=>?_)
   ·have h5:64 * i + k < 500:=by simp at hy;omega
    refine aw rfl (aw rfl ?_)
    refine⟨[s],rfl,⟨hs.one,trivial⟩,fun _=>D5,?_⟩
    refine ab _ ha ?_
    refine ap (hrd H2) rfl ⟨rfl,trivial⟩ ?_
    have hw1:w + 1 < 2 ^ 64:=by
     refine Nat.lt_of_le_of_ne (by omega) fun ew=>?_
     have hwm:w=2 ^ 64 - 1:=by omega
     rw[hwm,Nat.xor_self] at hcd
     omega
    refine ab _ (W0 (b:=1) hw1) ?_
    refine ab _ (W9 hwi hw1) ?_
    refine ab _ ha ?_
    refine aw rfl ?_
    obtain⟨a3,ha3,hst⟩:=hs.store (O:=(r0,.cells #[iV 500,s] be (0,0))::A) (O2:=[(r0,.cells #[iV 500,s] be (0,0))]) (by simpa using List.perm_append_comm (l₁:=[(r0,Obj.cells #[iV 500,s] be (0,0))]) (l₂:=A)) (k:=.i64) hget
    obtain rfl:a3=a:=by rw[ha3] at ha;simpa using ha
    obtain⟨O1,hs1,_⟩:=hst 0 [uV (w ||| (w + 1))] (Nat.le_refl _) ⟨rfl,trivial⟩
    refine⟨_,hs1,?_⟩
    refine ah (.inl ⟨64 * i + k,h5,hkf,fun j hj=>hlow j hj (by omega),?_⟩)
    show Value.tuple #[iV _,iV 0]=_
    congr 3
   ·have hne:(c != 0)=true:=by simp;omega
    rw[hne,Bool.true_and] at hn
    have h5:500≤64 * i + k:=by simp at hn;omega
    refine ab _ (az (by omega)) (aI (by simp[Eqs]) hi8 ⟨Heap.le_trans hle l2,rfl,fun m _ hm5=>hlow m (by omega) hm5⟩)
 ·have hi8:i=8:=by simp at hlt;omega
  subst hi8
  exact ah (.inr ⟨fun m hm=>hall m (by omega) hm,rfl⟩)
end Go.Proofs.YtdhobpmnkfmcfaaGreatDoor
namespace Go.Sx
open Go
set_option maxRecDepth 100000
set_option maxHeartbeats 1000000
theorem Qs {P:Program} {op:PrimOp} {args:List Value} {H:Heap} {O O2 Y:Own} {r:Nat} {cs cs':List Value} {e:TypeId} {v:Value} {shp:Shp} {K:List Value→List (List Value)→Heap→Own→Prop} {vs:List Value}
  (hO:O.Perm ([(r,.cells cs.toArray e (0,0))]++(Y++O2))) (hrun:∀ w F,Models w H ([(r,.cells cs.toArray e (0,0))]++(Y++F))→(op.sem args).run P w=.ok (.value v) (w.setRow r cs'.toArray)) (ho:shp.open v=some vs) (h1:Ones vs)
  (hk:K vs [] H ([(r,.cells cs'.toArray e (0,0))]++(Y++O2))):dZ (fun H1 O1 R=>bW P (op.sem args) H1 O1 R) false [] [] shp K H O:=by
 intro _
 refine⟨H,[(r,.cells cs.toArray e (0,0))]++Y,O2,fun v' H' O'=>v'=v∧H'=H∧O'=[(r,.cells cs'.toArray e (0,0))]++Y,Ghost.perm (by simpa using hO),fun w F hm=>⟨v,w.setRow r cs'.toArray,H,_,hrun w F (by simpa using hm),⟨rfl,rfl,rfl⟩,Heap.le_refl H,?_⟩,?_⟩
 ·have:=zr (vs:=cs) (vs':=cs') (O:=Y++F) (by simpa using hm)
  simpa using this
 ·rintro v' H' O' ⟨rfl,rfl,rfl⟩ _
  exact⟨vs,[],_,ho,h1,trivial,rfl,by simpa using hk⟩
theorem ND {P:Program} {t t2 ty e:TypeId} {i:TypeInfo} (ht:P.underlying t=some (.slice e)) (hi:P.info? e=some i) {H:Heap} {O O2 Y:Own} {r off dLen dCap m k:Nat} {cs src:List Value} {x:Value} {K:List Value→List (List Value)→Heap→Own→Prop}
  (hO:O.Perm ([(r,.cells cs.toArray e (0,0))]++(Y++O2))) (hl:∀ w':World,(Builtin.lenOf x).run P w'=.ok m w') (hk:k=min m dLen)
  (hcells:∀ w F,Models w H ([(r,.cells cs.toArray e (0,0))]++(Y++F))→(Builtin.firstCells i.size k x).run P w=.ok src.toArray w) (hfit:off + src.length≤cs.length) (h1:∀ v ∈ src,v.oneCell'=true)
  (hK:K [iV (k:Int)] [] H ([(r,.cells (cs.take off++src++cs.drop (off + src.length)).toArray e (0,0))]++(Y++O2))) :
  dZ (fun H1 O1 R=>bW P ((PrimOp.bi .copy #[t,t2] ty).sem [.slice (some ⟨r,off,none⟩) dLen dCap,x]) H1 O1 R) false [] [] .one K H O:=by
 refine Qs (r:=r) (cs:=cs) (e:=e) (O2:=O2) (Y:=Y) (cs':=cs.take off++src++cs.drop (off + src.length)) hO (v:=iV (k:Int)) (fun w F hm=>?_) rfl ⟨rfl,trivial⟩ hK
 have hrow:=(hm.own (r,.cells cs.toArray e (0,0)) (by simp)).1
 have:=B9 (P:=P) (t:=t) (t2:=t2) (ty:=ty) ht hi (w:=w) (off:=off) (dLen:=dLen) (dCap:=dCap) hrow hl hk (hcells w F hm) hfit h1
 simp only[PrimOp.sem,builtin]
 rw[Sem.run_bind,this]
 rfl
theorem Qv {P:Program} {t tn ty e:TypeId} {i:TypeInfo} {z:Value} {kn:IntKind} (ht:P.underlying t=some (.slice e)) (htn:P.underlying tn=some (.int kn)) (hi:P.info? e=some i) (hz:i.zero=some z) (hzs:z.cells.size=i.size) (hz1:∀ u ∈ z.cells.toList,u.oneCell'=true) (hs0:0 < i.size) (hby:i.bytes≤1000)
  {H:Heap} {O O2:Own} {r n cap m:Nat} {cs:List Value} {K:List Value→List (List Value)→Heap→Own→Prop} (hO:O.Perm ([(r,.cells cs.toArray e (0,0))]++O2)) (hfit:n * i.size≤cs.length) (h0:0 < m) (hg:cap < n + m) (hb:n + m≤2000000)
  (hK:∀ r2 c2 zs,zs.length=(c2 - n) * i.size→n + m≤c2→c2 < 2 ^ 63→(∀ u ∈ zs,Value.oneCell' u=true)→K [.slice (some ⟨r2,0,none⟩) (n + m) c2] [] H ([(r2,.cells (cs.take (n * i.size)++zs).toArray e (0,0))]++([(r,.cells cs.toArray e (0,0))]++O2))) :
  dZ (fun H1 O1 R=>bW P ((PrimOp.bi .append #[t,tn] ty).sem [.slice (some ⟨r,0,none⟩) n cap,iV (m:Int)]) H1 O1 R) false [] [] .one K H O:=by
 intro _
 refine⟨H,[(r,.cells cs.toArray e (0,0))],O2,fun v' H' O'=>H'=H∧∃ r2 c2 zs,v'=.slice (some ⟨r2,0,none⟩) (n + m) c2∧zs.length=(c2 - n) * i.size∧n + m≤c2∧c2 < 2 ^ 63∧(∀ u ∈ zs,Value.oneCell' u=true)∧O'=[(r2,.cells (cs.take (n * i.size)++zs).toArray e (0,0))]++[(r,.cells cs.toArray e (0,0))],Ghost.perm hO,fun w F hm=>?_,?_⟩
 ·have hm':Models w.drew H ([(r,.cells cs.toArray e (0,0))]++F):=Models.same (w:=w) (by simpa using hm) rfl rfl
  have hold:(Builtin.firstCells i.size n (.slice (some ⟨r,0,none⟩) n cap)).run P w.drew=.ok (cs.take (n * i.size)).toArray w.drew:=by
   have:=DF (P:=P) hm' (size:=i.size) (k:=n) (off:=0) (n:=n) (cap:=cap) (by omega)
   rwa [List.drop_zero] at this
  have hns:Builtin.nextslicecap (n + m) cap * i.bytes≤281474976710656:=by
   have h1:=nextslicecap_le hg
   have h2:Builtin.nextslicecap (n + m) cap * i.bytes≤(2 * (n + m)) * 1000:=Nat.mul_le_mul h1 hby
   omega
  have hkb:m * i.bytes≤281474976710656:=by
   have h2:m * i.bytes≤2000000 * 1000:=Nat.mul_le_mul (by omega) hby
   omega
  have hrun:=Go.Lib.run_append_grow_zeros (P:=P) w t tn ty e i z .i64 kn ht htn hi hz (some ⟨r,0,none⟩) n cap (cs.take (n * i.size)) hold m h0 hs0 hg (by omega) hkb hns
  generalize hc2:grownCap w (n + m) cap e=c2 at hrun
  have hge:n + m≤c2:=by rw[← hc2];exact grownCap_ge _ _ _ _
  have hle:c2≤maxLen:=by rw[← hc2];exact grownCap_le_maxLen _ _ _ _ (by simp only[maxLen];omega)
  have hp:=hm'.push (.cells ((cs.take (n * i.size)).toArray++Builtin.zeroCells z.cells m++Builtin.zeroCells z.cells (c2 - (n + m))) e (0,0))
  have hzl:((Builtin.zeroCells z.cells m).toList++(Builtin.zeroCells z.cells (c2 - (n + m))).toList).length=(c2 - n) * i.size:=by
   rw[List.length_append,Array.length_toList,Array.length_toList,size_zeroCells,size_zeroCells,hzs,← Nat.add_mul]
   congr 1;omega
  have hcells:(cs.take (n * i.size)).toArray++Builtin.zeroCells z.cells m++Builtin.zeroCells z.cells (c2 - (n + m))=(cs.take (n * i.size)++((Builtin.zeroCells z.cells m).toList++(Builtin.zeroCells z.cells (c2 - (n + m))).toList)).toArray:=by
   apply Array.ext'
   simp
  rw[hcells] at hrun hp
  refine⟨_,w.drew.alloc (.cells (cs.take (n * i.size)++((Builtin.zeroCells z.cells m).toList++(Builtin.zeroCells z.cells (c2 - (n + m))).toList)).toArray e (0,0)),H,_,?_,⟨rfl,w.heap.size,c2,_,rfl,hzl,hge,by simp only[maxLen] at hle;omega,?_,rfl⟩,Heap.le_refl H,?_⟩
  ·simp only[PrimOp.sem,builtin]
   rw[Sem.run_bind,hrun]
   rfl
  ·intro u hu
   rcases List.mem_append.1 hu with hu | hu
   ·exact BN hz1 u hu
   ·exact BN hz1 u hu
  ·exact hp
 ·rintro v' H' O' ⟨rfl,r2,c2,zs,rfl,hl,h1,h2,h3,rfl⟩ _
  exact⟨[.slice (some ⟨r2,0,none⟩) (n + m) c2],[],_,rfl,⟨rfl,trivial⟩,trivial,rfl,by simpa using hK r2 c2 zs hl h1 h2 h3⟩
end Go.Sx
namespace Go.Proofs.YtdhobpmnkfmcfaaGreatDoor
open Go Go.Sx
set_option maxRecDepth 100000
set_option maxHeartbeats 1000000
theorem Jw {size n k cap:Nat} {cs row src:List Value} {rows:List (List Value)} (hn:rows.length=n) (hk:k≤n) (hl:∀ row ∈ rows,row.length=size) (ht:cs.take (n * size)=rows.flatten) (hr:row.length=size) (hcl:cs.length=cap * size) (hcap:n + 1≤cap)
  (hsrc:src=(cs.drop (k * size)).take ((n - k) * size)) :
  let cs1:=cs.take ((k + 1) * size)++src++cs.drop ((k + 1) * size + src.length)
  let cs2:=cs1.take (k * size)++row++cs1.drop (k * size + row.length)
  cs1.length=cap * size∧cs2.length=cap * size∧cs2.take ((n + 1) * size)=(rows.take k++[row]++rows.drop k).flatten:=by
 subst hn
 obtain⟨a1,a2⟩:=tN hl ht hk
 rw[← hsrc] at a2
 have e1:(k + 1) * size=k * size + size:=by rw[Nat.add_mul,Nat.one_mul]
 have e2:(rows.length + 1) * size=rows.length * size + size:=by rw[Nat.add_mul,Nat.one_mul]
 have e3:(rows.length - k) * size=rows.length * size - k * size:=Nat.sub_mul _ _ _
 have e4:k * size≤rows.length * size:=Nat.mul_le_mul_right _ hk
 have e5:(rows.length + 1) * size≤cap * size:=Nat.mul_le_mul_right _ hcap
 have hsl:src.length=rows.length * size - k * size:=by rw[hsrc,List.length_take,List.length_drop];omega
 intro cs1 cs2
 have h1:cs1.length=cap * size:=by
  show (cs.take ((k + 1) * size)++src++cs.drop ((k + 1) * size + src.length)).length=_
  rw[List.length_append,List.length_append,List.length_take,List.length_drop];omega
 have hd:cs1.drop (k * size + row.length)=src++cs.drop ((k + 1) * size + src.length):=by
  show (cs.take ((k + 1) * size)++src++cs.drop ((k + 1) * size + src.length)).drop _=_
  rw[List.append_assoc,List.drop_append_of_le_length (by rw[List.length_take];omega),List.drop_eq_nil_of_le (by rw[List.length_take];omega),List.nil_append]
 have htk:cs1.take (k * size)=(rows.take k).flatten:=by
  show (cs.take ((k + 1) * size)++src++cs.drop ((k + 1) * size + src.length)).take _=_
  rw[List.append_assoc,List.take_append_of_le_length (by rw[List.length_take];omega),List.take_take,Nat.min_eq_left (by omega),a1]
 have hkl:(rows.take k).flatten.length=k * size:=by rw[a1,List.length_take];omega
 have h2:cs2=(rows.take k++[row]++rows.drop k).flatten++cs.drop ((k + 1) * size + src.length):=by
  show cs1.take (k * size)++row++cs1.drop (k * size + row.length)=_
  rw[hd,htk,List.flatten_append,List.flatten_append,← a2,List.flatten_cons,List.flatten_nil,List.append_nil,List.append_assoc,List.append_assoc,List.append_assoc]
 have h3:(rows.take k++[row]++rows.drop k).flatten.length=(rows.length + 1) * size:=by
  rw[List.flatten_append,List.flatten_append,List.length_append,List.length_append,hkl,List.flatten_cons,List.flatten_nil,List.append_nil,a2,hr,hsl];omega
 refine⟨h1,?_,?_⟩
 ·rw[h2,List.length_append,h3,List.length_drop];omega
 ·rw[h2,List.take_append_of_le_length (by omega),← h3,List.take_length]
theorem BW {r n cap k:Nat} (hk:k≤n) (hnc:n≤cap) (hck:k < cap):ak (.slc 12 true false false) [.slice (some ⟨r,0,none⟩) n cap,iV (k:Int)]=some (.slice (some ⟨r,k * 12,none⟩) (n - k) (cap - k)):=by
 have b3:bL n cap (some (iV (k:Int))) none none=some (k,n,cap):=by
  simp[bL,cK,eP,o5,asI,hk]
 simp only[ak,fm,ja,b3,Option.map_some]
 rw[if_neg (by omega)]
 show some (Value.slice (some ((⟨r,0,none⟩:Addr).add (k * 12))) (n - k) (cap - k))=_
 rw[cL,Nat.zero_add]
theorem Tc {r n cap k:Nat} (hk:k≤cap):ak (.slc 12 false true false) [.slice (some ⟨r,0,none⟩) n cap,iV (k:Int)]=some (.slice (some ⟨r,0,none⟩) k cap):=by
 have b2:bL n cap none (some (iV (k:Int))) none=some (0,k,cap):=by
  simp[bL,cK,eP,o5,asI,hk]
 simp only[ak,fm,ja,b2,Option.map_some]
 simp[Addr.add]
theorem SX {H:Heap} {A:Own} {v:Value} {rows:List (List Value)} (h:OSl aH 12 v rows A) {k:Nat} (hk:k≤rows.length) (hlen:rows.length≤1000000) {rb:Nat} {row:List Value} (hrl:row.length=12) (hro:Ones row) (hrb:H rb=some (.cells row.toArray aH (0,0))) :
  Triple PP dQ [v,iV (k:Int),.slice (some ⟨rb,0,none⟩) 1 1] H A fun v' _ O'=>∃ A' X,O'=A'++X∧OSl aH 12 v' (rows.take k++[row]++rows.drop k) A':=by
 refine gU (vs:=[v,iV (k:Int),.slice (some ⟨rb,0,none⟩) 1 1]) (by kernel_rfl) ⟨h.one,rfl,rfl,trivial⟩ ?_
 simp only[dN]
 obtain⟨hu,inf,hinf,hsz⟩:=NN (P:=PP) (t:=23) (e:=aH) (size:=12) (bytes:=80) (by kernel_rfl)
 have hvl:=h.len
 by_cases hkn:k=rows.length
 ·
  have hsl:∃ u,ak (.slc 12 true false false) [v,iV (k:Int)]=some u∧u.oneCell'=true:=by
   rcases h with ⟨⟨a,rfl⟩,rfl,rfl⟩ | ⟨r,cs,cap,rfl,rfl,hcl,hlc,hcap,hl,ho,ht⟩
   ·subst hkn;exact⟨_,rfl,by cases a <;> rfl⟩
   ·have b3:bL rows.length cap (some (iV (k:Int))) none none=some (k,rows.length,cap):=by
     simp[bL,cK,eP,o5,asI,hk]
    simp only[ak,fm,ja,b3,Option.map_some]
    exact⟨_,rfl,by split <;> rfl⟩
  obtain⟨u,hu1,hu2⟩:=hsl
  refine ab _ hu1 ?_
  refine ab (iV 1) rfl ?_
  refine ab _ (ay _ _) (ai (fun hb=>by simp at hb) (fun _=>?_))
  refine ab _ hvl ?_
  refine ab _ (ay _ _) (ai (fun _=>?_) (fun hb=>by simp[hkn] at hb))
  refine aC (rows:=rows) (news:=[row]) (O1:=A) (O2:=[]) (e:=aH) (size:=12) (bytes:=80) (by kernel_rfl) (by simp) h (fun Hf lf _=>Sl.block1 (lf.1 _ _ hrb) hrl hro) (by simp;omega) (by simp;omega) ?_
  intro v' A' H6 l6 hA'
  refine ah ⟨A',[],rfl,?_⟩
  rw[hkn,List.take_length,List.drop_length,List.append_nil]
  exact hA'
 ·have hkl:k < rows.length:=by omega
  rcases h with ⟨⟨a,rfl⟩,rfl,rfl⟩ | ⟨r,cs,cap,rfl,rfl,hcl,hlc,hcap,hl,ho,ht⟩
  ·simp at hkl
  have hsl:=BW (r:=r) hk hlc (by omega)
  refine ab _ hsl ?_
  refine ab (iV 1) rfl ?_
  refine ab _ (ay _ _) (ai (fun hb=>by simp at hb) (fun _=>?_))
  refine ab _ hvl ?_
  refine ab _ (ay _ _) (ai (fun hb=>by simp at hb;omega) (fun _=>?_))
  refine ab _ (az (by omega)) ?_
  refine ab (iV (cap:Int)) rfl ?_
  refine ab _ (bK _ _) (ai (fun hb=>?_) (fun hb=>?_))
  ·
   have hroom:cap < rows.length + 1:=by simp at hb;omega
   have hce:cap=rows.length:=by omega
   obtain⟨z,hz⟩:∃ z,inf.zero=some z:=by
    have:((PP.info? aH).bind (·.zero)).isSome=true:=by kernel_rfl
    rw[hinf] at this
    exact Option.isSome_iff_exists.1 this
   have hz':z=.agg #[iV 0,iV 0,iV 0,iV 0,iV 0,iV 0,iV 0,iV 0,iV 0,.bool false,.bool false,.bool false]:=by
    have:(PP.info? aH).bind (·.zero)=some (.agg #[iV 0,iV 0,iV 0,iV 0,iV 0,iV 0,iV 0,iV 0,iV 0,.bool false,.bool false,.bool false]):=by kernel_rfl
    rw[hinf] at this
    exact Option.some.inj (hz.symm.trans this)
   have hby:inf.bytes≤1000:=by
    have:((PP.info? aH).map fun i=>decide (i.bytes≤1000))=some true:=by kernel_rfl
    rw[hinf] at this
    simpa using this
   refine ab _ (Tc (k:=k) (by omega)) ?_
   refine ab _ (az (by omega)) ?_
   refine ab (iV ((rows.length + 1 - k:Nat):Int)) (by
    have:=F7 (x:=((rows.length + 1:Nat):Int)) (y:=(k:Int)) (by omega) (by omega)
    rw[show ((rows.length + 1:Nat):Int) - k=((rows.length + 1 - k:Nat):Int) by omega] at this
    exact this) ?_
   refine Qv (n:=k) (m:=rows.length + 1 - k) (cs:=cs) (e:=aH) (O2:=[]) (kn:=.i64) hu (by kernel_rfl) hinf hz (by rw[hsz,hz'];rfl) (by rw[hz'];simp[Value.cells,Value.oneCell']) (by omega) hby (List.Perm.refl _) (by rw[hsz];omega) (by omega) (by omega) (by omega) fun r2 c2 zs hzl hc1 hc2 hzo=>?_
   rw[hsz] at hzl ⊢
   rw[show k + (rows.length + 1 - k)=rows.length + 1 by omega] at hc1 ⊢
   have hctl:(cs.take (k * 12)).length=k * 12:=by rw[List.length_take];omega
   have hnl:(cs.take (k * 12)++zs).length=c2 * 12:=by rw[List.length_append,hctl,hzl];omega
   refine ab _ (BW (k:=k) (by omega) hc1 (by omega)) ?_
   refine D3 (r:=r2) (off:=k * 12) (e:=aH) (O2:=[(r,.cells cs.toArray aH (0,0))]) (m:=1) (k:=1) (src:=row) hu hinf (List.Perm.refl _) (fun _=>rfl) (by omega) (fun w F hm=>by
    rw[hsz]
    have:=IV hm (P:=PP) (size:=12) (k:=1) (n:=1) (cap:=1) hrb (by omega)
    rwa [show 1 * 12=row.length by omega,List.take_length] at this) (by rw[hnl,hrl];omega) (iP hro) ?_
   refine ab _ (az (by omega)) ?_
   refine ab _ (BW (k:=k + 1) (by omega) hc1 (by omega)) ?_
   refine ab _ hsl ?_
   have hsrcl:((cs.drop (k * 12)).take ((rows.length - k) * 12)).length=(rows.length - k) * 12:=by rw[List.length_take,List.length_drop];omega
   have hsone:∀ u ∈ (cs.drop (k * 12)).take ((rows.length - k) * 12),u.oneCell'=true:=by
    rw[← (tN hl ht hk).2]
    intro u hu'
    obtain⟨rw',hr,hu2⟩:=List.mem_flatten.1 hu'
    exact iP (ho rw' (List.mem_of_mem_drop hr)) u hu2
   have e1:(cs.take (k * 12)++zs).take (k * 12)=cs.take (k * 12):=by rw[List.take_append_of_le_length (by omega),List.take_take,Nat.min_self]
   have hn1:((cs.take (k * 12)++zs).take (k * 12)++row++(cs.take (k * 12)++zs).drop (k * 12 + row.length)).length=c2 * 12:=by
    rw[List.length_append,List.length_append,e1,hctl,List.length_drop,hnl,hrl];omega
   refine ND (r:=r2) (off:=(k + 1) * 12) (e:=aH) (Y:=[(r,.cells cs.toArray aH (0,0))]) (O2:=[]) (m:=rows.length - k) (k:=rows.length - k) (src:=(cs.drop (k * 12)).take ((rows.length - k) * 12)) hu hinf (List.Perm.refl _) (fun _=>rfl) (by omega) (fun w F hm=>by
    rw[hsz]
    exact DF (hm.perm (List.perm_append_comm_assoc _ _ _)) (by omega)) (by rw[hn1,hsrcl];omega) hsone ?_
   refine ah ⟨_,[(r,.cells cs.toArray aH (0,0))],by rw[List.append_nil],.inr ⟨r2,_,c2,?_,rfl,?_,?_,hc2,?_,?_,?_⟩⟩
   ·show Value.slice _ _ _=Value.slice _ _ _
    rw[show (rows.take k++[row]++rows.drop k).length=rows.length + 1 by rw[List.length_append,List.length_append,List.length_take,List.length_drop,List.length_singleton];omega]
   ·rw[List.length_append,List.length_append,List.length_take,List.length_drop,hn1,hsrcl];omega
   ·rw[List.length_append,List.length_append,List.length_take,List.length_drop,List.length_singleton];omega
   ·intro x hx
    simp only[List.mem_append,List.mem_singleton] at hx
    rcases hx with (hx | rfl) | hx
    ·exact hl x (List.mem_of_mem_take hx)
    ·exact hrl
    ·exact hl x (List.mem_of_mem_drop hx)
   ·intro x hx
    simp only[List.mem_append,List.mem_singleton] at hx
    rcases hx with (hx | rfl) | hx
    ·exact ho x (List.mem_of_mem_take hx)
    ·exact hro
    ·exact ho x (List.mem_of_mem_drop hx)
   ·have f1:(rows.take k++[row]++rows.drop k).flatten=cs.take (k * 12)++row++(cs.drop (k * 12)).take ((rows.length - k) * 12):=by
     rw[List.flatten_append,List.flatten_append,(tN hl ht hk).1,(tN hl ht hk).2,List.flatten_cons,List.flatten_nil,List.append_nil]
    have f2:(rows.take k++[row]++rows.drop k).length * 12=(rows.length + 1) * 12:=by simp;omega
    rw[f1,f2,e1]
    have g1:(cs.take (k * 12)++row).length=(k + 1) * 12:=by rw[List.length_append,hctl,hrl];omega
    have g2:(cs.take (k * 12)++row++(cs.take (k * 12)++zs).drop (k * 12 + row.length)).take ((k + 1) * 12)=cs.take (k * 12)++row:=by
     rw[List.take_append_of_le_length (by omega),← g1,List.take_length]
    rw[g2]
    have g3:(cs.take (k * 12)++row++(cs.drop (k * 12)).take ((rows.length - k) * 12)).length=(rows.length + 1) * 12:=by rw[List.length_append,g1,hsrcl];omega
    rw[List.take_append_of_le_length (by omega),← g3,List.take_length]
  ·have hroom:rows.length + 1≤cap:=by simp at hb;omega
   refine ab _ (az (by omega)) ?_
   refine ab _ (Tc hroom) ?_
   refine ab _ (az (by omega)) ?_
   refine ab _ (BW (k:=k + 1) (by omega) hroom (by omega)) ?_
   refine NE (r:=r) (rb:=rb) (cs:=cs) (bs:=row) (e:=aH) (size:=12) (tS:=23) (tR:=wY) (O2:=[]) Tryz.func154 (by kernel_rfl) (by kernel_rfl) (by kernel_rfl) (by kernel_rfl) (by kernel_rfl) (by kernel_rfl) (List.Perm.refl _) hrb (by omega) ?_
   refine ab (.bool true) rfl (ai (fun _=>?_) (fun hb=>by cases hb))
   refine ab _ (az (by omega)) ?_
   refine ab _ (BW (k:=k + 1) (by omega) hroom (by omega)) ?_
   refine ab _ (BW (k:=k) (by omega) hroom (by omega)) ?_
   obtain⟨h1,h2,h3⟩:=Jw (size:=12) (n:=rows.length) (row:=row) rfl hk hl ht hrl hcl hroom (src:=(cs.drop (k * 12)).take ((rows.length - k) * 12)) rfl
   have hsrcl:((cs.drop (k * 12)).take ((rows.length - k) * 12)).length=(rows.length - k) * 12:=by rw[List.length_take,List.length_drop];omega
   have hsone:∀ u ∈ (cs.drop (k * 12)).take ((rows.length - k) * 12),u.oneCell'=true:=by
    rw[← (tN hl ht hk).2]
    intro u hu'
    obtain⟨rw',hr,hu2⟩:=List.mem_flatten.1 hu'
    exact iP (ho rw' (List.mem_of_mem_drop hr)) u hu2
   refine D3 (r:=r) (off:=(k + 1) * 12) (cs:=cs) (e:=aH) (O2:=[]) (m:=rows.length + 1 - k) (k:=rows.length - k) (src:=(cs.drop (k * 12)).take ((rows.length - k) * 12)) hu hinf (List.Perm.refl _) (fun _=>rfl) (by omega) (fun w F hm=>by rw[hsz];exact DF hm (by omega)) (by rw[hsrcl];omega) hsone ?_
   refine ab _ (BW (k:=k) (by omega) hroom (by omega)) ?_
   refine D3 (r:=r) (off:=k * 12) (e:=aH) (O2:=[]) (m:=1) (k:=1) (src:=row) hu hinf (List.Perm.refl _) (fun _=>rfl) (by omega) (fun w F hm=>by
    rw[hsz]
    have:=IV hm (P:=PP) (size:=12) (k:=1) (n:=1) (cap:=1) hrb (by omega)
    rwa [show 1 * 12=row.length by omega,List.take_length] at this) (by rw[h1,hrl];omega) (iP hro) ?_
   refine ah ⟨_,[],(List.append_nil _).symm,.inr ⟨r,_,cap,?_,rfl,h2,?_,hcap,?_,?_,?_⟩⟩
   ·simp;omega
   ·simp;omega
   ·intro x hx
    simp only[List.mem_append,List.mem_singleton] at hx
    rcases hx with (hx | rfl) | hx
    ·exact hl x (List.mem_of_mem_take hx)
    ·exact hrl
    ·exact hl x (List.mem_of_mem_drop hx)
   ·intro x hx
    simp only[List.mem_append,List.mem_singleton] at hx
    rcases hx with (hx | rfl) | hx
    ·exact ho x (List.mem_of_mem_take hx)
    ·exact hro
    ·exact ho x (List.mem_of_mem_drop hx)
   ·rw[← h3];congr 2;simp;omega
def IT:List Ob→Nat→Nat
 | [],m=>m
 | o::l,m=>if o.id=(m:Int) + 1 then IT l (m + 1) else m
def aN (b:Bd):Nat:=IT b.objs 0
theorem FA:∀ (l:List Ob) (m:Nat),(l.map (·.id)).Pairwise (· < ·)→(∀ o ∈ l,(m:Int) < o.id)→m≤IT l m∧IT l m≤m + l.length∧(∀ j,m≤j→j < IT l m→(l[j - m]?).map (·.id)=some ((j:Int) + 1))∧∀ o ∈ l,o.id ≠ (IT l m:Int) + 1
 | [],m,_,_=>⟨Nat.le_refl _,Nat.le_refl _,fun j h1 h2=>absurd h2 (by simp only[IT];omega),fun o ho=>by simp at ho⟩
 | o::l,m,hp,hm=>by
  rw[List.map_cons,List.pairwise_cons] at hp
  have hl:∀ x ∈ l,o.id < x.id:=fun x hx=>hp.1 _ (List.mem_map_of_mem hx)
  rw[IT]
  by_cases e:o.id=(m:Int) + 1
  ·rw[if_pos e]
   obtain⟨h1,h2,h3,h4⟩:=FA l (m + 1) hp.2 fun x hx=>by have:=hl x hx;omega
   refine⟨by omega,by rw[List.length_cons];omega,fun j hj1 hj2=>?_,fun x hx=>?_⟩
   ·rcases Nat.eq_or_lt_of_le hj1 with rfl | hlt
    ·rw[Nat.sub_self];show some o.id=_;rw[e]
    ·have:=h3 j hlt hj2
     rw[show j - m=(j - (m + 1)) + 1 by omega,List.getElem?_cons_succ]
     exact this
   ·rcases List.mem_cons.1 hx with rfl | hx
    ·omega
    ·exact h4 x hx
  ·rw[if_neg e]
   refine⟨Nat.le_refl _,by omega,fun j hj1 hj2=>by omega,fun x hx=>?_⟩
   have h0:=hm o List.mem_cons_self
   rcases List.mem_cons.1 hx with rfl | hx
   ·exact e
   ·have:=hl x hx;omega
theorem jC {b:Bd} (h:an b=true):aN b≤b.objs.length∧(∀ j,j < aN b→(b.objs[j]?).map (·.id)=some ((j:Int) + 1))∧∀ o ∈ b.objs,o.id ≠ (aN b:Int) + 1:=by
 obtain⟨_,h2,h3,h4⟩:=FA b.objs 0 (jh (fc (aM h).1).1) fun o ho=>by have:=((pX h).1 o ho).1;omega
 exact⟨by simpa [aN] using h2,fun j hj=>h3 j (Nat.zero_le _) hj,h4⟩
def PV (l:List Ob) (m:Nat):Bool:=l.any fun o=>o.id == (m:Int) + 1
theorem PU {b:Bd} (h:an b=true) {m:Nat} (h1:PV b.objs m=false) (h2:∀ j,j < m→PV b.objs j=true):m=aN b:=by
 obtain⟨_,f2,f3⟩:=jC h
 have hno:∀ o ∈ b.objs,¬ o.id=(m:Int) + 1:=by simpa [PV] using h1
 rcases Nat.lt_trichotomy m (aN b) with hlt | e | hgt
 ·have:=f2 m hlt
  simp only[Option.map_eq_some_iff] at this
  obtain⟨o,ho,he⟩:=this
  exact absurd he (hno o (List.mem_of_getElem? ho))
 ·exact e
 ·have:=h2 _ hgt
  simp only[PV,List.any_eq_true,beq_iff_eq] at this
  obtain⟨o,ho,he⟩:=this
  exact absurd he (f3 o ho)
theorem PT {l:List Ob} {i:Nat} (h:i < l.length) (m:Nat):PV (l.take (i + 1)) m=(PV (l.take i) m || (l[i].id == (m:Int) + 1)):=by
 rw[PV,List.take_add_one,List.getElem?_eq_getElem h,Option.toList_some,List.any_append]
 simp[PV]
def xl (b:Bd) (m:Nat) (p pw tn:Int):Bd:=ll { b with objs:=b.objs.take m++[y5 ((m:Int) + 1) p pw tn true]++b.objs.drop m } p 2 ((m:Int) + 1)
def xk (b:Bd) (p pw tn most:Int):Bd × Int × Int :=
 if (!an b || !au p 0 1)=true then (zBd,0,2) else if (b.objs.length:Int) ≥ most then (b,0,0) else if 500≤aN b then (b,0,0) else (xl b (aN b) p pw tn,(aN b:Int) + 1,0)
theorem NC {P:Program} {f:FuncId} {args:List Value} {H:Heap} {O O1 O2:Own} {frz:List BV} {shp:Shp} {K:List Value→List (List Value)→Heap→Own→Prop} {R:Value→Heap→Own→Prop}
  (hO:O.Perm (O1++O2)) (h:∀ Hf,Heap.le H Hf→(∀ b ∈ frz,Hf b.r=some b.obj.2)→Triple P f args Hf O1 R) (hk:∀ v H' O3,R v H' O3→Heap.le H H'→∃ vs,shp.open v=some vs∧Ones vs∧K vs [] H' (O3++O2)) :
  dZ (fun H1 O1 R=>Triple P f args H1 O1 R) false frz [] shp K H O:=by
 intro hc
 have hf:=ij hc
 refine⟨H.insAll frz,O1,O2,R,Ghost.perm hO,by simpa using h _ (Heap.le_insAll frz H) hf,?_⟩
 intro v H' O' hr hle
 obtain⟨vs,h1,h2,h3⟩:=hk v H' O' hr (Heap.le_trans (Heap.le_insAll frz H) hle)
 exact⟨vs,[],O',h1,h2,trivial,rfl,h3⟩
theorem SB {n:Int} (h1:1≤n) (h2:n≤500):∃ q r:Nat,r < 64∧64 * q + r < 500∧n=((64 * q + r:Nat):Int) + 1 :=
 ⟨(n - 1).toNat / 64,(n - 1).toNat % 64,by omega,by omega,by omega⟩
theorem LX {ws:List Nat} {f g:Nat→Bool} (h:BitsOk ws f) (e:∀ m,f m=g m):BitsOk ws g:=by
 rwa [← (funext e:f=g)]
def Xx (b:Bd) (p pw tn most:Int) (v:Value) (O':Own):Prop :=
 ∃ w OB X,O'.Perm (OB++X)∧v=.tuple #[.agg (al w (xk b p pw tn most).1).toArray,iV (xk b p pw tn most).2.1,iV (xk b p pw tn most).2.2]∧OwnB tys w (xk b p pw tn most).1 OB
theorem QI {H:Heap} (hgl:GlobOk zC H) {v:cn} {b:Bd} (h:BdS H v b) (hB:bdB b) {p pw tn most:Int} (h1:pw < 9223372036854775808) (h2:tn < 9223372036854775808) :
  Triple PP yY [.agg (al v b).toArray,iV p,iV pw,iV tn,iV most] H [] fun r _ O'=>Xx b p pw tn most r O':=by
 refine CH (vs:=al v b++[iV p,iV pw,iV tn,iV most]) (by kernel_rfl) (ax (am (h.r [])) ⟨rfl,rfl,rfl,rfl,trivial⟩) ?_
 simp only[yL]
 refine af fun r0=>af fun r1=>?_
 refine aa ?_
 refine aj (dq (h.r [])) rfl ⟨rfl,trivial⟩ fun H1 l1=>ab _ (aJ _) (ai (fun hb=>?_) (fun hb=>?_))
 ·have e:xk b p pw tn most=(zBd,0,2):=by rw[xk,if_pos (by rw[show an b=false from u6 hb];rfl)]
  refine aa (aa ?_)
  exact ah ⟨vH,[],[],by simp,by rw[e];rfl,by rw[e];exact OwnB.zero tys⟩
 have hval:an b=true:=sR hb
 refine aj (dp p 0 1 H1 []) rfl ⟨rfl,trivial⟩ fun H2 l2=>ab _ (aJ _) (ai (fun hb=>?_) (fun hb=>?_))
 ·have e:xk b p pw tn most=(zBd,0,2):=by rw[xk,if_pos (by rw[show au p 0 1=false from u6 hb];simp)]
  refine aa (aa ?_)
  exact ah ⟨vH,[],[],by simp,by rw[e];rfl,by rw[e];exact OwnB.zero tys⟩
 have hw:au p 0 1=true:=sR hb
 have hcond:¬ ((!an b || !au p 0 1)=true):=by rw[hval,hw];simp
 have hp01:p=0∨p=1:=by simp only[au,decide_eq_true_eq] at hw;omega
 have l12:=Heap.le_trans l1 l2
 refine aa ?_
 refine ar (Je (h.le l12) hB) ?_
 rintro _ H3 OB ⟨w,rfl,ho⟩ l3
 refine⟨al w b,rfl,aZ H3 ho,?_⟩
 rw[List.append_nil]
 have hlen:ak .len [w.o]=some (iV b.objs.length):=by have:=(ho.r (fun p hp=>hp) H3).objs.len;rwa [List.length_map] at this
 have hol:=xf hval
 refine aa (aa ?_)
 refine ab _ hlen ?_
 refine ab _ (cI _ _) (ai (fun hb=>?_) (fun hb=>?_))
 ·have e:xk b p pw tn most=(b,0,0):=by rw[xk,if_neg hcond,if_pos (by simpa using hb)]
  refine aa (aa (aa ?_))
  exact ah ⟨w,OB,[],by simp,by rw[e];rfl,by rw[e];exact ho⟩
 have hmost:¬ ((b.objs.length:Int) ≥ most):=by simpa using hb
 refine ar SN ?_
 rintro _ H4 A0 ⟨pv,rfl,hA0⟩ l4
 have hpv:pv.oneCell'=true:=by obtain⟨r,s,A,rfl,_⟩:=hA0;rfl
 refine⟨[pv,iV 0],rfl,⟨hpv,rfl,trivial⟩,?_⟩
 refine aa ?_
 refine ab _ hlen ?_
 refine aQ b.objs.length (fun i H' O'=>Heap.le H4 H'∧∃ A ws,O'.Perm (A++OB)∧Wi pv ws A∧BitsOk ws (PV (b.objs.take i))) ⟨Heap.le_refl _,A0,_,List.Perm.refl _,hA0,LX S4 fun m=>by simp[PV]⟩ ?_
 rintro i H' O' hi - ⟨hle,A,ws,hperm,hA,hbits⟩
 have hR:BdR H' O' w b:=ho.r (fun p hp=>hperm.mem_iff.2 (List.mem_append_right _ hp)) H'
 refine ab _ (aB _ _) (ai (fun hb=>?_) (fun hb=>?_))
 ·have hlt:i < b.objs.length:=by simpa using hb
  obtain⟨a,i1,i2,_,i3,i4⟩:=hR.objs.idx .i64 i (Ob.row b.objs[i]) (by rw[List.getElem?_map,List.getElem?_eq_getElem hlt];rfl)
  obtain⟨d1,d2⟩:=(pX hval).1 b.objs[i] (List.getElem_mem hlt)
  obtain⟨q,rr,hr,h5,hid⟩:=SB d1 d2
  refine ab _ i1 (ap i2 i3 i4 ?_)
  refine af fun r2=>?_
  refine aa (aa ?_)
  have hcl:=Vh (H:=H') hA hbits.len hbits.lt hr h5
  rw[idV,← hid] at hcl
  refine qE (O1:=A) (O2:=OB) hperm hcl ?_
  rintro _ H5 A5 ⟨⟨e5,rfl⟩,hA5⟩ l5
  refine⟨[iV e5],rfl,⟨rfl,trivial⟩,?_⟩
  refine ab _ (az (by omega)) (aI (by simp[Eqs]) hlt ⟨Heap.le_trans hle l5,A5,_,List.Perm.refl _,hA5,LX (hbits.claim (by omega) hr) fun m=>?_⟩)
  rw[PT hlt]
  congr 1
  rw[Bool.eq_iff_iff]
  simp only[beq_iff_eq]
  omega
 have hil:i=b.objs.length:=by have:¬ i < b.objs.length:=(by simpa using hb);omega
 subst hil
 rw[List.take_length] at hbits
 have hle4:Heap.le H H':=Heap.le_trans l12 (Heap.le_trans l3 (Heap.le_trans l4 hle))
 refine qE (O1:=A) (O2:=OB) hperm (V7 (hgl.le hle4) hA hbits) ?_
 rintro tv H6 X htv l6
 rcases htv with ⟨m,hm5,hmf,hmb,rfl⟩ | ⟨hall,rfl⟩
 ·obtain rfl:=PU hval hmf hmb
  have e:xk b p pw tn most=(xl b (aN b) p pw tn,(aN b:Int) + 1,0):=by rw[xk,if_neg hcond,if_neg hmost,if_neg (by omega)]
  have hfl:=(jC hval).1
  refine⟨[iV ((aN b:Int) + 1),iV 0],rfl,⟨rfl,rfl,trivial⟩,?_⟩
  refine ab _ (aY _ _) (ai (fun hb=>by cases hb) (fun _=>?_))
  refine aj (EN h1 h2) rfl (vs:=(y5 ((aN b:Int) + 1) p pw tn false).row) (bE _) fun H7 l7=>?_
  refine af fun r3=>?_
  refine aa (aa (aa ?_))
  refine ab (iV (aN b:Int)) (by rw[show (iV (aN b:Int))=iV ((aN b:Int) + 1 - 1) by congr 1;omega];exact F7 (by omega) (by omega)) ?_
  refine aa ?_
  refine af fun r4=>?_
  obtain⟨Ao,Ro,po,hAo,backo⟩:=OwnB.pick_objs ho
  refine NC (O1:=Ao) (O2:=Ro++X) (by
   refine List.perm_append_comm.trans ?_
   rw[← List.append_assoc]
   exact po.append_right X) (fun Hf lf hf=>SX (k:=aN b) (row:=(y5 ((aN b:Int) + 1) p pw tn true).row) hAo (by rw[List.length_map];exact hfl) (by rw[List.length_map];exact hol) rfl (bE _) (hf _ List.mem_cons_self)) ?_
  rintro v' H8 _ ⟨A8,X8,rfl,hA8⟩ l8
  refine⟨[v'],rfl,⟨hA8.one,trivial⟩,?_⟩
  have hA9:OSl tys.ob 12 v' (List.map Ob.row (b.objs.take (aN b)++[y5 ((aN b:Int) + 1) p pw tn true]++b.objs.drop (aN b))) A8:=by
   rw[List.map_append,List.map_append,List.map_take,List.map_drop]
   exact hA8
  have ho2:=backo _ _ _ hA9
  obtain⟨_,⟨_,_,bf0,_⟩,⟨_,_,bf1,_⟩,_⟩:=hB
  rcases hp01 with rfl | rfl
  ·refine aa ?_
   refine⟨.i64,0,rfl,fun _=>?_,fun e=>absurd rfl e⟩
   refine aa ?_
   refine af fun r5=>?_
   obtain⟨A,R,hp,hA,back⟩:=OwnB.pick_f0 ho2
   refine aC (rows:=aE b.s0.field) (news:=[[iV ((aN b:Int) + 1)]]) (O1:=A) (O2:=R++(X8++X)) (e:=aK) (size:=1) (bytes:=8) (by kernel_rfl) (by
    have:(A8++X8++(Ro++X)).Perm (A8++Ro++(X8++X)):=by
     rw[List.append_assoc,List.append_assoc]
     exact (List.perm_append_comm_assoc X8 Ro X).append_left A8
    refine this.trans ?_
    rw[← List.append_assoc A R]
    exact hp.append_right _) hA (fun Hf _ hf=>Sl.block1 (hf _ List.mem_cons_self) rfl ⟨rfl,trivial⟩) (by simp[aE];omega) (by simp[aE];omega) ?_
   intro v2 A2 H9 l9 hA2
   have hA3:OSl aK 1 v2 (aE (b.s0.field++[(aN b:Int) + 1])) A2:=by rw[aE,List.map_append];exact hA2
   have hfin:=back _ _ _ hA3
   refine⟨.i64,0,rfl,fun _=>?_,fun e=>absurd rfl e⟩
   refine aa (aa (aa (aa ?_)))
   refine ah ⟨{ w with o:=v',f0:=v2 },A2++R,X8++X,by rw[List.append_assoc],?_,?_⟩
   ·rw[e];rfl
   ·rw[e];exact hfin
  ·refine aa ?_
   refine⟨.i64,1,rfl,fun e=>absurd e (by omega),fun _=>⟨.i64,1,rfl,fun _=>?_,fun e=>absurd rfl e⟩⟩
   refine aa ?_
   refine af fun r5=>?_
   obtain⟨A,R,hp,hA,back⟩:=OwnB.pick_f1 ho2
   refine aC (rows:=aE b.s1.field) (news:=[[iV ((aN b:Int) + 1)]]) (O1:=A) (O2:=R++(X8++X)) (e:=aK) (size:=1) (bytes:=8) (by kernel_rfl) (by
    have:(A8++X8++(Ro++X)).Perm (A8++Ro++(X8++X)):=by
     rw[List.append_assoc,List.append_assoc]
     exact (List.perm_append_comm_assoc X8 Ro X).append_left A8
    refine this.trans ?_
    rw[← List.append_assoc A R]
    exact hp.append_right _) hA (fun Hf _ hf=>Sl.block1 (hf _ List.mem_cons_self) rfl ⟨rfl,trivial⟩) (by simp[aE];omega) (by simp[aE];omega) ?_
   intro v2 A2 H9 l9 hA2
   have hA3:OSl aK 1 v2 (aE (b.s1.field++[(aN b:Int) + 1])) A2:=by rw[aE,List.map_append];exact hA2
   have hfin:=back _ _ _ hA3
   refine⟨.i64,1,rfl,fun e=>absurd e (by omega),fun _=>⟨.i64,1,rfl,fun _=>?_,fun e=>absurd rfl e⟩⟩
   refine aa (aa (aa (aa ?_)))
   refine ah ⟨{ w with o:=v',f1:=v2 },A2++R,X8++X,by rw[List.append_assoc],?_,?_⟩
   ·rw[e];rfl
   ·rw[e];exact hfin
 ·have hge:500≤aN b:=by
   refine Nat.le_of_not_lt fun hlt=>?_
   have h3:=hall _ hlt
   simp only[PV,List.any_eq_true,beq_iff_eq] at h3
   obtain⟨o,ho',he⟩:=h3
   exact (jC hval).2.2 o ho' he
  have e:xk b p pw tn most=(b,0,0):=by rw[xk,if_neg hcond,if_neg hmost,if_pos hge]
  refine⟨[iV 0,iV 7],rfl,⟨rfl,rfl,trivial⟩,?_⟩
  refine ab _ (aY _ _) (ai (fun _=>?_) (fun hb=>by cases hb))
  refine aa (aa (aa ?_))
  exact ah ⟨w,OB,X,List.perm_append_comm,by rw[e];rfl,by rw[e];exact ho⟩
def TG (l:List Int) (e:Eff):Bool:=((l.contains e.target && e.n == 0) && e.m == 0) && e.colour == 0
def inR (n lo hi:Int):Bool:=decide (n ≥ lo) && max 0 (min n hi) == n
def SG (l:List Int) (most:Int) (e:Eff):Bool:=inR e.n 1 most && TG l { e with n:=0 }
def SE (l:List Int) (Ss:Int) (e:Eff):Bool:=((inR e.n 0 9 && inR e.m Ss 9) && decide (e.n + e.m > 0)) && TG l { e with n:=0,m:=0 }
def TF (l:List Int) (most:Int) (e:Eff):Bool:=inR e.colour 0 3 && SG l most { e with colour:=0 }
inductive Rl where
 | no
 | bare (l:List Int)
 | cnt (l:List Int) (m:Int)
 | par (l:List Int) (m:Int)
 | col (l:List Int) (m:Int)
def vF (c:Int):Rl :=
 if c=1 then .cnt [1,2,3,4,5] 99 else if c=2 then .cnt [0,4] 7 else if c=3∨c=4 then .cnt [0,4] 99
 else if c=5∨c=6∨c=11 then .bare [1,2,3] else if c=7 then .bare [6] else if c=8 then .par [1,2,3,0] 0
 else if c=9 then .cnt [1,2,3,0] 9 else if c=10 then .par [0] 1 else if c=12 then .col [0] 9 else .no
def Rl.fits:Rl→Eff→Bool
 | .no,_=>false
 | .bare l,e=>TG l e
 | .cnt l m,e=>SG l m e
 | .par l m,e=>SE l m e
 | .col l m,e=>TF l m e
def rF (e:Eff):Bool:=(vF e.code).fits e
def oM (a b:Int):Int:=min 99 (max 0 a + max 0 b)
def bp (n most:Int):Int:=max 0 (min n most)
def UR (cs:List CdX):List Int:=Dq (cs.map CdX.base)
def onB (cs:List CdX) (b:Bd) (id:Int):Bool:=ba b id == 0 && (eL (UR cs) (cY b id) && (ao b (cY b id).owner).field.contains id)
def bV (b:Bd) (id:Int) (f:Ob→Ob):Bd:=if (Ew b (f (cY b id))).2=0 then (Ew b (f (cY b id))).1 else b
def iI (b:Bd) (p x:Int):Bd:=aV b p { ao b p with life:=x }
def ep (s:St) (c n:Int):St:=if c=0 then { s with p0:=bp (s.p0 + n) 99 } else if c=1 then { s with p1:=bp (s.p1 + n) 99 } else if c=2 then { s with p2:=bp (s.p2 + n) 99 } else { s with p3:=bp (s.p3 + n) 99 }
def sW (e:Eff) (o:Ob):Ob :=
 if e.code=5 then { o with doom:=true } else if e.code=11 then { o with tap:=true }
 else if e.code=8 then { o with pp:=oM o.pp e.n,pt:=oM o.pt e.m } else if e.code=9 then { o with cnt:=oM o.cnt e.n } else o
def aF (cs:List CdX) (b:Bd) (p who id:Int) (e:Eff) (most:Int):Bd :=
 if e.code=1 then (if id > 0 then bV b id fun o=>{ o with dmg:=oM o.dmg e.n } else iI b who (bp ((ao b who).life - e.n) 9999))
 else if e.code=2 then (nU b who e.n).1
 else if e.code=3 then iI b who (bp ((ao b who).life + e.n) 9999)
 else if e.code=4 then iI b who (bp ((ao b who).life - e.n) 9999)
 else if e.code=6 then (cX b id 1).1
 else if e.code=7 then (bB b id).1
 else if e.code=10 then (xk b p e.n e.m most).1
 else if e.code=12 then aV b who (ep (ao b who) e.colour e.n)
 else if onB cs b id=true then bV b id (sW e) else b
def EA (p:Int) (e:Eff) (t:Tg):Int:=if e.target=0 then p else t.player
def idE (src:Int) (e:Eff) (t:Tg):Int:=if e.target=0 then src else t.id
def TR (cs:List CdX) (b:Bd) (p:Int) (e:Eff) (t:Tg):Prop:=e.target ≠ 0∧ug (cs.map CdX.base) b p e.target t=false
instance (cs:List CdX) (b:Bd) (p:Int) (e:Eff) (t:Tg):Decidable (TR cs b p e t):=by unfold TR;infer_instance
def rx (cs:List CdX) (b:Bd) (p src:Int) (e:Eff) (t:Tg) (most:Int):Bd :=
 if TR cs b p e t then b else aF cs b p (EA p e t) (idE src e t) e most
end Go.Proofs.YtdhobpmnkfmcfaaGreatDoor
namespace Go.Sx
open Go
def Heap.insO (H:Heap) (O:Own):Heap:=⟨fun b=>match H b with
 | some x=>some x
 | none=>(O.find? fun p=>p.1 == b).map (·.2),H.env⟩
def Heap.minus (H:Heap) (O:Own):Heap:=⟨fun b=>if O.any (fun p=>p.1 == b) then none else H b,H.env⟩
theorem PR (H:Heap) (O:Own):Heap.le H (H.insO O):=⟨fun b o h=>by simp only[Heap.insO];rw[h],rfl⟩
theorem LJ:∀ {O:Own},(O.map (·.1)).Nodup→∀ {p:Nat × Obj},p ∈ O→(O.find? fun q=>q.1 == p.1)=some p
 | [],_,p,h=>by simp at h
 | a::O,hn,p,h=>by
  simp only[List.map_cons,List.nodup_cons] at hn
  rw[List.find?_cons]
  by_cases e:a.1=p.1
  ·rcases List.mem_cons.1 h with rfl | hm
   ·simp
   ·exact absurd (e ▸ List.mem_map_of_mem hm) hn.1
  ·have:(a.1 == p.1)=false:=by simpa using e
   rw[this]
   rcases List.mem_cons.1 h with rfl | hm
   ·exact absurd rfl e
   ·exact LJ hn.2 hm
theorem Sv {H:Heap} {O:Own} (hc:Cons H O) {p:Nat × Obj} (hp:p ∈ O):H.insO O p.1=some p.2:=by
 simp only[Heap.insO]
 rw[hc.none hp]
 simp only[]
 rw[LJ hc.nodup hp];rfl
theorem JU {w:World} {H:Heap} {O F:Own} (h:Models w H (O++F)):Models w (H.insO O) F:=by
 have hc:Cons H O:=⟨w,F,h⟩
 have hn:=h.nodup
 rw[List.map_append,List.nodup_append] at hn
 refine⟨fun b x hb=>?_,fun p hp=>?_,hn.2.1,h.env⟩
 ·simp only[Heap.insO] at hb
  split at hb
  ·rename_i y hy;cases hb;exact h.pers b _ hy
  ·obtain⟨q,hq,rfl⟩:=Option.map_eq_some_iff.1 hb
   have e:q.1=b:=by simpa using List.find?_some hq
   rw[← e]
   exact (h.own q (List.mem_append_left _ (List.mem_of_find?_eq_some hq))).1
 ·obtain⟨h1,h2⟩:=h.own p (List.mem_append_right _ hp)
  refine⟨h1,?_⟩
  simp only[Heap.insO]
  rw[h2]
  simp only[]
  cases hf:O.find? fun q=>q.1 == p.1 with
  | none=>rfl
  | some q =>
   exfalso
   have e:q.1=p.1:=by simpa using List.find?_some hf
   exact hn.2.2 q.1 (List.mem_map_of_mem (List.mem_of_find?_eq_some hf)) p.1 (List.mem_map_of_mem hp) e
theorem Sz {H H':Heap} {O:Own} (hc:Cons H O) (hg:Ghost H O H' []):Heap.le H' (H.insO O):=by
 obtain⟨w,F,hm⟩:=hc
 obtain⟨hm',hle⟩:=hg w F hm
 have hm':Models w H' F:=by simpa using hm'
 refine⟨fun b o hb=>?_,hle.2.symm⟩
 simp only[Heap.insO]
 cases hH:H b with
 | some x =>
  have:=hle.1 b x hH
  rw[hb] at this
  simp only[]
  exact this.symm
 | none =>
  simp only[]
  have hw:=hm'.pers b o hb
  cases hf:O.find? fun q=>q.1 == b with
  | some q =>
   have e:q.1=b:=by simpa using List.find?_some hf
   have h1:=(hm.own q (List.mem_append_left _ (List.mem_of_find?_eq_some hf))).1
   rw[e,hw] at h1
   rw[Option.map_some,Option.some.inj h1]
  | none =>
   exfalso
   obtain⟨o',ho'⟩:∃ o':Obj,o' ≠ o:=by
    by_cases h:(Obj.cells #[] 0 (0,0))=o
    ·exact⟨Obj.cells #[] 1 (0,0),fun e=>by rw[← h] at e;cases e⟩
    ·exact⟨_,h⟩
   have hlt:b < w.heap.size:=by
    rcases Nat.lt_or_ge b w.heap.size with h | h
    ·exact h
    ·simp[Array.getElem?_eq_none h] at hw
   have hO:∀ p ∈ O,p.1 ≠ b:=fun p hp e=>by
    have:=List.find?_eq_none.1 hf p hp
    simp[e] at this
   have hF:∀ p ∈ F,p.1 ≠ b:=fun p hp e=>by
    have:=(hm'.own p hp).2
    rw[e,hb] at this
    cases this
   have hset:∀ c,c ≠ b→(w.heap.set b o' hlt)[c]?=w.heap[c]?:=fun c hne=>by
    rw[Array.getElem?_set]
    rw[if_neg (fun h=>hne h.symm)]
   have hm2:Models { w with heap:=w.heap.set b o' hlt } H (O++F):=by
    refine⟨fun c x hcx=>?_,fun p hp=>?_,hm.nodup,hm.env⟩
    ·have hne:c ≠ b:=fun e=>by rw[e,hH] at hcx;cases hcx
     show (w.heap.set b o' hlt)[c]?=some x
     rw[hset c hne];exact hm.pers c x hcx
    ·have hne:p.1 ≠ b:=by
      rcases List.mem_append.1 hp with h | h
      ·exact hO p h
      ·exact hF p h
     obtain⟨h1,h2⟩:=hm.own p hp
     refine⟨?_,h2⟩
     show (w.heap.set b o' hlt)[p.1]?=some p.2
     rw[hset _ hne];exact h1
   have h3:=(hg _ F hm2).1.pers b o hb
   have h4:(w.heap.set b o' hlt)[b]?=some o':=by simp
   have h5:(w.heap.set b o' hlt)[b]?=some o:=h3
   rw[h4] at h5
   exact ho' (Option.some.inj h5)
theorem RetO.thaw {P:Program} {f:FuncId} {args:List Value} {H:Heap} {O:Own} {r:Value} {S:Heap→Prop} (hS:∀ H H',Heap.le H H'→S H→S H') (hf:Cons H O→∃ H',Ghost H O H' []∧S H')
  (h:∀ Hf,Heap.le H Hf→S Hf→RetO P f args Hf [] r):RetO P f args H O r:=by
 intro w F hm
 have hc:Cons H O:=⟨w,F,hm⟩
 obtain⟨H',g,s⟩:=hf hc
 have s2:=hS _ _ (Sz hc g) s
 refine (h (H.insO O) (PR H O) s2 w F (by simpa using JU hm)).mono ?_
 rintro e w' ⟨v,H1,O1,rfl,⟨rfl,rfl⟩,hle,hm'⟩
 have hm':Models w' H1 F:=by simpa using hm'
 have hno:∀ b o,H b=some o→O.any (fun p=>p.1 == b)=false:=fun b o hb=>by
  rw[List.any_eq_false]
  intro p hp e
  have e:p.1=b:=by simpa using e
  have:=hc.none hp
  rw[e,hb] at this
  cases this
 refine⟨_,H1.minus O,O,rfl,⟨rfl,rfl⟩,⟨fun b o hb=>?_,?_⟩,⟨fun b o hb=>?_,fun p hp=>?_,hm.nodup,hm'.env⟩⟩
 ·simp only[Heap.minus]
  rw[hno b o hb]
  exact hle.1 b o ((PR H O).1 b o hb)
 ·exact hle.2
 ·simp only[Heap.minus] at hb
  split at hb
  ·cases hb
  ·exact hm'.pers b o hb
 ·rcases List.mem_append.1 hp with hp | hp
  ·refine⟨hm'.pers _ _ (hle.1 _ _ (Sv hc hp)),?_⟩
   simp only[Heap.minus]
   rw[if_pos (List.any_eq_true.2 ⟨p,hp,by simp⟩)]
  ·obtain⟨h1,h2⟩:=hm'.own p hp
   refine⟨h1,?_⟩
   simp only[Heap.minus]
   split
   ·rfl
   ·exact h2
theorem OwnB.thaw {P:Program} {f:FuncId} {args:List Value} {H:Heap} {O:Own} {r:Value} {t:Tys} {w:cn} {b:Bd} (ho:OwnB t w b O) (h:∀ Hf,Heap.le H Hf→BdS Hf w b→RetO P f args Hf [] r):RetO P f args H O r :=
 RetO.thaw (S:=fun Hf=>BdS Hf w b) (fun _ _ hl h=>h.le hl) (fun hc=>by
  obtain⟨H',g,k,_⟩:=ho.freeze (X:=[]) (by simpa using hc)
  exact⟨H',by simpa using g,k⟩) h
end Go.Sx
namespace Go.Proofs.YtdhobpmnkfmcfaaGreatDoor
open Go Go.Sx
set_option maxRecDepth 100000
set_option maxHeartbeats 1000000
theorem lP {P:Program} {t ty e:TypeId} {size:Nat} (ha:Jj P t e size=true) {ad:Addr} {rows news:List (List Value)} {x:Value} {H:Heap} {O:Own} {frz:List BV} {K:List Value→List (List Value)→Heap→Own→Prop}
  (hr:Sl H size (.slice (some ad) rows.length rows.length) rows) (hx:∀ Hf,Heap.le H Hf→(∀ b ∈ frz,Hf b.r=some b.obj.2)→Sl Hf size x news)
  (hb:(rows.length + news.length) * jI P e≤140737488355328) (h63:rows.length + news.length < 2 ^ 63) (hk:∀ v' H',Heap.le H H'→Sl H' size v' (rows++news)→K [v'] [] H' O) :
  dZ (fun H1 O1 R=>bW P ((PrimOp.bi .append #[t,t] ty).sem [.slice (some ad) rows.length rows.length,x]) H1 O1 R) false frz [] .one K H O:=by
 intro hc
 have hf:=ij hc
 have hl:=Heap.le_insAll frz H
 refine⟨H.insAll frz,[],O,_,Ghost.refl _ _,by simpa using FW (ty:=ty) ha (hr.le hl) (hx _ hl hf) hb h63,?_⟩
 rintro v' H' O' ⟨rfl,hle,hs⟩ _
 exact⟨[v'],[],[],rfl,⟨hs.one,trivial⟩,trivial,rfl,hk v' H' (Heap.le_trans hl hle) hs⟩
theorem nA {P:Program} {t:TypeId} {d:TypeDesc} (hu:P.underlying t=some d) (hni:∀ m,d ≠ .interface m) {b:Bool} {args:List Value} {x:Value} (hx:(b=true∧x=.agg args.toArray)∨(b=false∧args=[x])) {frz:List BV} {H:Heap} {O:Own}
  {K:List Value→List (List Value)→Heap→Own→Prop} (hk:∀ H',Heap.le H H'→(∀ b ∈ frz,H' b.r=some b.obj.2)→K [.iface t x] [] H' O) :
  dZ (fun H1 O1 R=>bW P ((PrimOp.mkIface t b).sem args) H1 O1 R) false frz [] .one K H O:=by
 intro hc
 have hf:=ij hc
 have hl:=Heap.le_insAll frz H
 have hrun:∀ w,((PrimOp.mkIface t b).sem args).run P w=.ok (.value (.iface t x)) w:=fun w=>by
  rcases hx with ⟨rfl,rfl⟩ | ⟨rfl,rfl⟩
  ·simp only[PrimOp.sem,Instr.makeInterface,Sem.run_bind,aG hu,Result.andThen_ok]
   cases d <;> first | rfl | exact absurd rfl (hni _)
  ·simp only[PrimOp.sem,Instr.makeInterface,Sem.run_bind,aG hu,Result.andThen_ok]
   cases d <;> first | rfl | exact absurd rfl (hni _)
 refine⟨H.insAll frz,[],O,fun v H' O'=>v=.iface t x∧H'=H.insAll frz∧O'=[],Ghost.refl _ _,fun w F hm=>⟨_,w,H.insAll frz,[],hrun w,⟨rfl,rfl,rfl⟩,Heap.le_refl _,by simpa using hm⟩,?_⟩
 rintro v' H' O' ⟨rfl,rfl,rfl⟩ _
 exact⟨[_],[],[],rfl,⟨rfl,trivial⟩,trivial,rfl,hk _ hl hf⟩
theorem Kq (r:Nat) (H:Heap):Ret PP dl [.slice (some ⟨r,0,none⟩) 3 3] H (.slice (some ⟨r,0,none⟩) 3 3):=by
 refine fW (vs:=[.slice (some ⟨r,0,none⟩) 3 3]) (by kernel_rfl) ⟨rfl,trivial⟩ ?_
 simp only[dj]
 exact ab (iV 3) rfl (ab (iV 3) rfl (ab (.slice (some ⟨r,0,none⟩) 3 3) rfl (ah ⟨rfl,rfl⟩)))
def Wh (H:Heap):Rl→Value→Prop
 | .no,r=>r=.nilIface
 | .bare l,r=>∃ s,r=.iface 151 s∧Sl H 1 s (aE l)
 | .cnt l m,r=>∃ s,r=.iface 154 (.agg #[s,iV m])∧Sl H 1 s (aE l)
 | .par l m,r=>∃ s,r=.iface 156 (.agg #[s,iV m])∧Sl H 1 s (aE l)
 | .col l m,r=>∃ s,r=.iface 158 (.agg #[s,iV m])∧Sl H 1 s (aE l)
def OfQ (c:Int) (r:Value) (H':Heap) (O':Own):Prop:=Wh H' (vF c) r∧O'=[]
theorem Wv {H:Heap} {r:Nat} {T:TypeId} (h:H r=some (.cells [iV 1,iV 2,iV 3].toArray T (0,0))):Sl H 1 (.slice (some ⟨r,0,none⟩) 3 3) (aE [1,2,3]):=Sl.block h ⟨rfl,rfl,rfl,trivial⟩ rfl (by decide)
theorem WX {H:Heap} {r:Nat} {T:TypeId} {a b:Int} (h:H r=some (.cells [iV a,iV b].toArray T (0,0))):Sl H 1 (.slice (some ⟨r,0,none⟩) 2 2) (aE [a,b]):=Sl.block h ⟨rfl,rfl,trivial⟩ rfl (by decide)
theorem Wc {H:Heap} {r:Nat} {T:TypeId} {a:Int} (h:H r=some (.cells [iV a].toArray T (0,0))):Sl H 1 (.slice (some ⟨r,0,none⟩) 1 1) (aE [a]):=Sl.block h ⟨rfl,trivial⟩ rfl (by decide)
def RN:Option TypeDesc→Bool
 | none=>false
 | some (.interface _)=>false
 | some _=>true
theorem nb {o:Option TypeDesc} (h:RN o=true):∃ d,o=some d∧∀ m,d ≠ .interface m:=by
 cases o with
 | none=>cases h
 | some d=>exact⟨d,rfl,fun m e=>by rw[e] at h;cases h⟩
theorem WY:∃ d,PP.underlying 151=some d∧∀ m,d ≠ .interface m:=nb (by kernel_rfl)
theorem Xb:∃ d,PP.underlying 154=some d∧∀ m,d ≠ .interface m:=nb (by kernel_rfl)
theorem Xo:∃ d,PP.underlying 156=some d∧∀ m,d ≠ .interface m:=nb (by kernel_rfl)
theorem Xr:∃ d,PP.underlying 158=some d∧∀ m,d ≠ .interface m:=nb (by kernel_rfl)
theorem WN {c:Int} {k:Bool} {r2 r0:Nat} {H:Heap} (h1:k=true→c=5∨c=6∨c=11) (h2:k=false→¬ (c=1∨c=2∨c=3∨c=4∨c=5∨c=6∨c=11)):(jV (.bool k) r2 [iV c] r0).den PP (OfQ c) H []:=by
 simp only[jV]
 obtain⟨d1,u1,n1⟩:=WY
 obtain⟨d3,u3,n3⟩:=Xo
 obtain⟨d4,u4,n4⟩:=Xr
 refine ai (fun hk=>?_) (fun hk=>?_)
 ·refine nA u1 n1 (.inr ⟨rfl,rfl⟩) fun H1 l1 hf=>?_
  refine ah ⟨?_,rfl⟩
  rw[vF,if_neg (by have:=h1 hk;omega),if_neg (by have:=h1 hk;omega),if_neg (by have:=h1 hk;omega),if_pos (h1 hk)]
  exact⟨_,rfl,Wv (hf _ List.mem_cons_self)⟩
 have hn:=h2 hk
 refine ab _ (ay _ _) (ai (fun h=>?_) (fun h=>?_))
 ·have h:c=7:=by simpa using h
  subst h
  refine af fun r4=>?_
  refine nA u1 n1 (.inr ⟨rfl,rfl⟩) fun H1 l1 hf=>?_
  exact ah ⟨⟨_,rfl,Wc (hf _ List.mem_cons_self)⟩,rfl⟩
 have n7:c ≠ 7:=by simpa using h
 refine ab _ (ay _ _) (ai (fun h=>?_) (fun h=>?_))
 ·have h:c=8:=by simpa using h
  subst h
  refine DZ _ (fun Hf _ _=>Kq r2 Hf) rfl ⟨rfl,trivial⟩ fun H1 l1 hf=>?_
  refine af fun r5=>?_
  refine lP (ad:=⟨r2,0,none⟩) (rows:=aE [1,2,3]) (news:=aE [0]) (size:=1) (e:=36) (by kernel_rfl) (Wv (hf _ List.mem_cons_self)) (fun Hf _ hf2=>Wc (hf2 _ List.mem_cons_self)) (by rw[show jI PP 36=8 by kernel_rfl];decide) (by decide) fun v' H2 l2 hs=>?_
  exact ah ⟨⟨_,rfl,hs⟩,rfl⟩
 have n8:c ≠ 8:=by simpa using h
 refine ab _ (ay _ _) (ai (fun h=>?_) (fun h=>?_))
 ·have h:c=9:=by simpa using h
  subst h
  refine DZ _ (fun Hf _ _=>Kq r2 Hf) rfl ⟨rfl,trivial⟩ fun H1 l1 hf=>?_
  refine af fun r5=>?_
  refine lP (ad:=⟨r2,0,none⟩) (rows:=aE [1,2,3]) (news:=aE [0]) (size:=1) (e:=36) (by kernel_rfl) (Wv (hf _ List.mem_cons_self)) (fun Hf _ hf2=>Wc (hf2 _ List.mem_cons_self)) (by rw[show jI PP 36=8 by kernel_rfl];decide) (by decide) fun v' H2 l2 hs=>?_
  exact ah ⟨⟨_,rfl,hs⟩,rfl⟩
 have n9:c ≠ 9:=by simpa using h
 refine ab _ (ay _ _) (ai (fun h=>?_) (fun h=>?_))
 ·have h:c=10:=by simpa using h
  subst h
  refine nA u3 n3 (.inl ⟨rfl,rfl⟩) fun H1 l1 hf=>?_
  exact ah ⟨⟨_,rfl,Wc (hf _ List.mem_cons_self)⟩,rfl⟩
 have n10:c ≠ 10:=by simpa using h
 refine ab _ (ay _ _) (ai (fun h=>?_) (fun h=>?_))
 ·have h:c=12:=by simpa using h
  subst h
  refine nA u4 n4 (.inl ⟨rfl,rfl⟩) fun H1 l1 hf=>?_
  exact ah ⟨⟨_,rfl,Wc (hf _ List.mem_cons_self)⟩,rfl⟩
 have n12:c ≠ 12:=by simpa using h
 refine ah ⟨?_,rfl⟩
 rw[vF,if_neg (by omega),if_neg (by omega),if_neg (by omega),if_neg (by omega),if_neg n7,if_neg n8,if_neg n9,if_neg n10,if_neg n12]
 rfl
theorem Xa {c:Int} {k:Bool} {r1 r2 r0:Nat} {H:Heap} (h1:k=true→c=3∨c=4) (h2:k=false→¬ (c=1∨c=2∨c=3∨c=4)):(nn (.bool k) r1 [iV c] r2 r0).den PP (OfQ c) H []:=by
 simp only[nn]
 obtain⟨d2,u2,n2⟩:=Xb
 refine ai (fun hk=>?_) (fun hk=>?_)
 ·refine nA u2 n2 (.inl ⟨rfl,rfl⟩) fun H1 l1 hf=>?_
  refine ah ⟨?_,rfl⟩
  rw[vF,if_neg (by have:=h1 hk;omega),if_neg (by have:=h1 hk;omega),if_pos (h1 hk)]
  exact⟨_,rfl,WX (hf _ List.mem_cons_self)⟩
 have hn:=h2 hk
 refine ab _ (ay _ _) (ai (fun h=>?_) (fun h=>?_))
 ·have h':c=5:=by simpa using h
  exact WN (fun _=>.inl h') (fun e=>by rw[h] at e;cases e)
 have n5:c ≠ 5:=by simpa using h
 refine ab _ (ay _ _) (ai (fun h=>?_) (fun h=>?_))
 ·have h':c=6:=by simpa using h
  exact WN (fun _=>.inr (.inl h')) (fun e=>by rw[h] at e;cases e)
 have n6:c ≠ 6:=by simpa using h
 refine ab _ (ay _ _) ?_
 exact WN (fun e=>.inr (.inr (by simpa using e))) (fun e=>by have:c ≠ 11:=(by simpa using e);omega)
theorem Xu (c:Int) (H:Heap):Triple PP En [iV c] H [] (OfQ c):=by
 refine Gm (vs:=[iV c]) (by kernel_rfl) ⟨rfl,trivial⟩ ?_
 simp only[Ee]
 obtain⟨d2,u2,n2⟩:=Xb
 refine af fun r0=>af fun r1=>af fun r2=>?_
 refine ab _ (ay _ _) (ai (fun h=>?_) (fun h=>?_))
 ·have h:c=1:=by simpa using h
  subst h
  refine DZ _ (fun Hf _ _=>Kq r2 Hf) rfl ⟨rfl,trivial⟩ fun H1 l1 hf=>?_
  refine af fun r5=>?_
  refine lP (ad:=⟨r2,0,none⟩) (rows:=aE [1,2,3]) (news:=aE [4,5]) (size:=1) (e:=36) (by kernel_rfl) (Wv (hf _ List.mem_cons_self)) (fun Hf _ hf2=>WX (hf2 _ List.mem_cons_self)) (by rw[show jI PP 36=8 by kernel_rfl];decide) (by decide) fun v' H2 l2 hs=>?_
  exact ah ⟨⟨_,rfl,hs⟩,rfl⟩
 have n1:c ≠ 1:=by simpa using h
 refine ab _ (ay _ _) (ai (fun h=>?_) (fun h=>?_))
 ·have h:c=2:=by simpa using h
  subst h
  refine nA u2 n2 (.inl ⟨rfl,rfl⟩) fun H1 l1 hf=>?_
  exact ah ⟨⟨_,rfl,WX (hf _ List.mem_cons_self)⟩,rfl⟩
 have n2':c ≠ 2:=by simpa using h
 refine ab _ (ay _ _) (ai (fun h=>?_) (fun h=>?_))
 ·have h':c=3:=by simpa using h
  exact Xa (fun _=>.inl h') (fun e=>by rw[h] at e;cases e)
 have n3:c ≠ 3:=by simpa using h
 refine ab _ (ay _ _) ?_
 exact Xa (fun e=>.inr (by simpa using e)) (fun e=>by have:c ≠ 4:=(by simpa using e);omega)
theorem SR {H:Heap} {O:Own} {v:Value} {l:List Int} (h:RSl H O 1 v (l.map fun n=>[I n])) (x:Int):RetO PP dc [v,I x] H O (I (lh l x 0)):=by
 refine fF (vs:=[v,I x]) (by kernel_rfl) ⟨h.one,rfl,trivial⟩ ?_
 simp only[cZ]
 refine ab _ h.len ?_
 refine aQ l.length (fun i H' O'=>O'=O∧Heap.le H H'∧lh l x 0=lh (l.drop i) x i) ⟨rfl,Heap.le_refl H,by simp⟩ ?_
 rintro i H' O' hi - ⟨rfl,hle,hor⟩
 refine ab _ (aB _ _) (ai (fun hb=>?_) (fun hb=>?_))
 ·have hlt:i < l.length:=by simpa using hb
  obtain⟨a,h1,h2,_,h3,h4⟩:=(h.le hle).idx .i64 i [I l[i]] (by simp[hlt])
  refine ab _ h1 (ap h2 h3 h4 (ab _ (ay _ _) (ai (fun hb=>?_) (fun hb=>?_))))
  ·refine ah ⟨?_,rfl⟩
   rw[hor,List.drop_eq_getElem_cons hlt,lh,if_pos hb];rfl
  ·refine ab _ (az (by have:=h.lenB;simp at this;omega)) (aI (by simp[Eqs,E]) hlt ⟨rfl,hle,?_⟩)
   rw[hor,List.drop_eq_getElem_cons hlt,lh,if_neg (by rw[hb];simp)];rfl
 ·have hge:l.length≤i:=by simpa using hb
  refine ah ⟨?_,rfl⟩
  rw[hor,List.drop_of_length_le hge];rfl
theorem J8 {H:Heap} {O:Own} {v:Value} {l:List Int} (h:RSl H O 1 v (l.map fun n=>[I n])) (x:Int):RetO PP cD [v,I x] H O (.bool (l.contains x)):=by
 refine fk (vs:=[v,I x]) (by kernel_rfl) ⟨h.one,rfl,trivial⟩ ?_
 simp only[cC]
 refine aj (SR h x) rfl ⟨rfl,trivial⟩ fun H1 _=>ab _ (cI _ _) (ah ⟨?_,rfl⟩)
 rw[← GM l x 0 (by omega)]
theorem ym (n lo hi:Int) (H:Heap) (O:Own):RetO PP uQ [iV n,iV lo,iV hi] H O (.bool (inR n lo hi)):=by
 refine ze (vs:=[iV n,iV lo,iV hi]) (by kernel_rfl) ⟨rfl,rfl,rfl,trivial⟩ ?_
 simp only[uC]
 refine ab _ (cI _ _) (ai (fun h=>?_) (fun h=>?_))
 ·refine aj (Kr n hi) rfl ⟨rfl,trivial⟩ fun H1 _=>ab _ (ay _ _) (ah ⟨?_,rfl⟩)
  rw[inR,h,Bool.true_and]
 ·refine ah ⟨?_,rfl⟩
  rw[inR,h,Bool.false_and]
theorem zJ {H:Heap} {O:Own} {s:Value} {l:List Int} (h:RSl H O 1 s (aE l)) (e:Eff):RetO PP kb [s,.agg e.row.toArray] H O (.bool (TG l e)):=by
 refine vy (vs:=s::e.row) (by kernel_rfl) ⟨h.one,kU e⟩ ?_
 simp only[pj]
 refine af fun r0=>?_
 refine aa ?_
 refine aj (J8 h e.target) rfl ⟨rfl,trivial⟩ fun H1 _=>?_
 refine aa (ae (ae ?_))
 refine ab _ (ay _ _) ?_
 refine ae ?_
 refine ab _ (aT _ _) ?_
 refine aa (ae (ae ?_))
 refine ab _ (ay _ _) ?_
 refine ae ?_
 refine ab _ (aT _ _) ?_
 refine aa (ae (ae ?_))
 refine ab _ (ay _ _) ?_
 refine ae ?_
 refine ab _ (aT _ _) ?_
 exact ah ⟨rfl,rfl⟩
theorem Ja {H:Heap} {O:Own} {s:Value} {l:List Int} (h:RSl H O 1 s (aE l)) (m:Int) (e:Eff):RetO PP ib [.agg #[s,iV m],.agg e.row.toArray] H O (.bool (SG l m e)):=by
 refine rf (vs:=s::iV m::e.row) (by kernel_rfl) ⟨h.one,rfl,kU e⟩ ?_
 simp only[lC]
 refine af fun r0=>af fun r1=>?_
 refine aa (aa (aa ?_))
 refine aj (ym e.n 1 m _ _) rfl ⟨rfl,trivial⟩ fun H1 l1=>ai (fun hb=>?_) (fun hb=>?_)
 ·refine aa (aa ?_)
  refine aj (zJ (h.le l1) { e with n:=0 }) rfl ⟨rfl,trivial⟩ fun H2 _=>ah ⟨?_,rfl⟩
  rw[SG,hb,Bool.true_and];rfl
 ·refine ah ⟨?_,rfl⟩
  rw[SG,hb,Bool.false_and]
theorem Qz {H:Heap} {O:Own} {s:Value} {l:List Int} (h:RSl H O 1 s (aE l)) {m:Int} (hm:0≤m) (e:Eff):RetO PP iF [.agg #[s,iV m],.agg e.row.toArray] H O (.bool (SE l m e)):=by
 refine sP (vs:=s::iV m::e.row) (by kernel_rfl) ⟨h.one,rfl,kU e⟩ ?_
 simp only[mt]
 refine af fun r0=>af fun r1=>?_
 refine aa (aa (aa (aa ?_)))
 refine aj (ym e.n 0 9 _ _) rfl ⟨rfl,trivial⟩ fun H1 l1=>ai (fun hb=>?_) (fun hb=>?_)
 rotate_left
 ·refine ah ⟨?_,rfl⟩
  rw[SE,hb];rfl
 refine aa ?_
 refine aj (ym e.m m 9 _ _) rfl ⟨rfl,trivial⟩ fun H2 l2=>?_
 refine ae (ae ?_)
 have hw:∃ z,ak (.bin .add .int) [iV e.n,iV e.m]=some (iV z)∧(inR e.m m 9=true→z=e.n + e.m):=by
  refine⟨IntKind.i64.wrap (e.n + e.m),rfl,fun hm9=>?_⟩
  simp only[inR,Bool.and_eq_true,decide_eq_true_eq,beq_iff_eq] at hb hm9
  exact gJ (by omega) (by omega)
 obtain⟨z,hz,hze⟩:=hw
 refine ab _ hz ?_
 refine ae ?_
 refine ab _ (bK _ _) ?_
 refine ae ?_
 refine ab _ (aT _ _) (ai (fun hc=>?_) (fun hc=>?_))
 ·rw[Bool.and_eq_true] at hc
  refine aa (aa ?_)
  refine aj (zJ (h.le (Heap.le_trans l1 l2)) { e with n:=0,m:=0 }) rfl ⟨rfl,trivial⟩ fun H3 _=>ah ⟨?_,rfl⟩
  rw[SE,hb,hc.1,← hze hc.1,hc.2];rfl
 ·refine ah ⟨?_,rfl⟩
  rw[SE,hb,Bool.true_and]
  by_cases hm9:inR e.m m 9=true
  ·rw[hm9,Bool.true_and] at hc
   rw[hm9,← hze hm9,Bool.true_and,hc];rfl
  ·rw[show inR e.m m 9=false by simpa using hm9];rfl
theorem QD {H:Heap} {O:Own} {s:Value} {l:List Int} (h:RSl H O 1 s (aE l)) (m:Int) (e:Eff):RetO PP gq [.agg #[s,iV m],.agg e.row.toArray] H O (.bool (TF l m e)):=by
 refine qo (vs:=s::iV m::e.row) (by kernel_rfl) ⟨h.one,rfl,kU e⟩ ?_
 simp only[ky]
 refine af fun r0=>af fun r1=>?_
 refine aa (aa ?_)
 refine aj (ym e.colour 0 3 _ _) rfl ⟨rfl,trivial⟩ fun H1 l1=>ai (fun hb=>?_) (fun hb=>?_)
 ·refine aa (aa ?_)
  refine aj (Ja (h.le l1) m { e with colour:=0 }) rfl ⟨rfl,trivial⟩ fun H2 _=>ah ⟨?_,rfl⟩
  rw[TF,hb,Bool.true_and];rfl
 ·refine ah ⟨?_,rfl⟩
  rw[TF,hb,Bool.false_and]
def sm (n:Int):Prop:=-1000000000≤n∧n≤1000000000
theorem QR {x y:Int} (hx:sm x) (hy:sm y):ak (.bin .add .int) [iV x,iV y]=some (iV (x + y)):=by
 obtain⟨a,b⟩:=hx
 obtain⟨c,d⟩:=hy
 exact rJ (by omega) (by omega)
theorem Xq {x:Int} (hx:sm x):ak .neg [iV x]=some (iV (-x)):=by
 obtain⟨a,b⟩:=hx
 have h:IntKind.i64.wrap (0 - x)=-x:=by rw[gJ (by omega) (by omega)];omega
 simp only[ak,h]
theorem Qy {H:Heap} {O:Own} {a b:Int} (ha:sm a) (hb:sm b):RetO PP zR [iV a,iV b] H O (iV (a + b)):=by
 refine zZ (vs:=[iV a,iV b]) (by kernel_rfl) ⟨rfl,rfl,trivial⟩ ?_
 simp only[zP]
 refine ab _ (QR ha hb) ?_
 refine ab _ (bK _ _) ?_
 refine ae ?_
 refine ab _ (bK _ _) ?_
 refine ae ?_
 refine ab _ (aT _ _) ?_
 refine ae ?_
 refine ab _ (eR _ _) ?_
 refine ae ?_
 refine ab _ (aT _ _) (ai (fun h=>?_) (fun h=>?_))
 ·exfalso
  have h:((decide (a > 0) && decide (b > 0)) && decide (a + b≤0))=true:=h
  simp only[Bool.and_eq_true,decide_eq_true_eq] at h
  omega
 refine ab _ (aB _ _) ?_
 refine ae ?_
 refine ab _ (aB _ _) ?_
 refine ae ?_
 refine ab _ (aT _ _) ?_
 refine ae ?_
 refine ab _ (cI _ _) ?_
 refine ae ?_
 refine ab _ (aT _ _) (ai (fun h=>?_) (fun h=>?_))
 ·exfalso
  have h:((decide (a < 0) && decide (b < 0)) && decide (a + b ≥ 0))=true:=h
  simp only[Bool.and_eq_true,decide_eq_true_eq] at h
  omega
 exact ah ⟨rfl,rfl⟩
theorem iS {H:Heap} {O:Own} {a b:Int} (ha:sm a) (hb:sm b) (m:Int):RetO PP Ek [iV a,iV b,iV m] H O (iV (bp (a + b) m)):=by
 refine BZ (vs:=[iV a,iV b,iV m]) (by kernel_rfl) ⟨rfl,rfl,rfl,trivial⟩ ?_
 simp only[Ec]
 refine aj (Qy ha hb) rfl ⟨rfl,trivial⟩ fun H1 l1=>?_
 refine aj (Kr (a + b) m) rfl ⟨rfl,trivial⟩ fun H2 l2=>?_
 exact ah ⟨rfl,rfl⟩
theorem LQ {H:Heap} {O:Own} {a b:Int} (ha:sm a) (hb:sm b) (m:Int):RetO PP Jo [iV a,iV b,iV m] H O (iV (bp (a - b) m)):=by
 refine Jy (vs:=[iV a,iV b,iV m]) (by kernel_rfl) ⟨rfl,rfl,rfl,trivial⟩ ?_
 simp only[Jl]
 refine ab _ (ay _ _) (ai (fun h=>?_) (fun h=>?_))
 ·exfalso
  have h:b=-9223372036854775808:=by simpa using h
  obtain⟨c,d⟩:=hb
  omega
 refine ab _ (Xq hb) ?_
 refine aj (iS ha (show sm (-b) by obtain⟨c,d⟩:=hb;constructor <;> omega) m) rfl ⟨rfl,trivial⟩ fun H1 l1=>?_
 rw[show a - b=a + -b by omega]
 exact ah ⟨rfl,rfl⟩
theorem GY {H:Heap} {O:Own} {a b:Int} (ha:sm a) (hb:sm b):RetO PP rP [iV a,iV b] H O (iV (oM a b)):=by
 refine tK (vs:=[iV a,iV b]) (by kernel_rfl) ⟨rfl,rfl,trivial⟩ ?_
 simp only[rL]
 obtain⟨c,d⟩:=ha
 obtain⟨e,f⟩:=hb
 refine ab _ (kQ _ _) (ab _ (kQ _ _) ?_)
 refine aj (iS (a:=max 0 a) (b:=max 0 b) (by constructor <;> omega) (by constructor <;> omega) 99) rfl ⟨rfl,trivial⟩ fun H1 l1=>?_
 refine ah ⟨?_,rfl⟩
 show iV (bp (max 0 a + max 0 b) 99)=iV (oM a b)
 rw[bp,oM]
 congr 1
 omega
def smO (o:Ob):Prop:=sm o.dmg∧sm o.cnt∧sm o.pp∧sm o.pt
theorem WW {H:Heap} {O:Own} {o:Ob} (ho:smO o) {n:Int} (hn:sm n):RetO PP AP [.agg o.row.toArray,iV n] H O (.agg (Ob.row { o with dmg:=oM o.dmg n }).toArray):=by
 refine ED (vs:=o.row++[iV n]) (by kernel_rfl) (ax (bE o) ⟨rfl,trivial⟩) ?_
 simp only[AE]
 refine af fun r0=>af fun r1=>?_
 refine aa ?_
 refine aj (GY ho.1 hn) rfl ⟨rfl,trivial⟩ fun H1 l1=>?_
 refine aa (aa (aa (aa ?_)))
 exact ah ⟨rfl,rfl⟩
theorem SY {H:Heap} {O:Own} {o:Ob} (ho:smO o) {n:Int} (hn:sm n):RetO PP wk [.agg o.row.toArray,iV n] H O (.agg (Ob.row { o with cnt:=oM o.cnt n }).toArray):=by
 refine Be (vs:=o.row++[iV n]) (by kernel_rfl) (ax (bE o) ⟨rfl,trivial⟩) ?_
 simp only[vT]
 refine af fun r0=>af fun r1=>?_
 refine aa ?_
 refine aj (GY ho.2.1 hn) rfl ⟨rfl,trivial⟩ fun H1 l1=>?_
 refine aa (aa (aa (aa ?_)))
 exact ah ⟨rfl,rfl⟩
theorem Wa {H:Heap} {O:Own} {o:Ob} (ho:smO o) {n m:Int} (hn:sm n) (hm:sm m):RetO PP yQ [.agg o.row.toArray,iV n,iV m] H O (.agg (Ob.row { o with pp:=oM o.pp n,pt:=oM o.pt m }).toArray):=by
 refine B6 (vs:=o.row++[iV n,iV m]) (by kernel_rfl) (ax (bE o) ⟨rfl,rfl,trivial⟩) ?_
 simp only[yA]
 refine af fun r0=>af fun r1=>?_
 refine aa (aa ?_)
 refine aj (GY ho.2.2.1 hn) rfl ⟨rfl,trivial⟩ fun H1 l1=>?_
 refine aj (GY ho.2.2.2 hm) rfl ⟨rfl,trivial⟩ fun H2 l2=>?_
 refine aa (aa (aa (aa (aa ?_))))
 exact ah ⟨rfl,rfl⟩
theorem QE {H:Heap} {O:Own} {o:Ob} (ho:smO o) {e:Eff} (hn:sm e.n) (hm:sm e.m):RetO PP qL [.agg o.row.toArray,.agg e.row.toArray] H O (.agg (sW e o).row.toArray):=by
 refine wq (vs:=o.row++e.row) (by kernel_rfl) (ax (bE o) (kU e)) ?_
 simp only[qG]
 refine af fun r0=>af fun r1=>af fun r2=>?_
 refine aa ?_
 refine ab _ (ay _ _) (ai (fun h=>?_) (fun h=>?_))
 ·refine aa (aa (aa (aa ?_)))
  refine ah ⟨?_,rfl⟩
  rw[sW,if_pos (by simpa using h)];rfl
 have n5:e.code ≠ 5:=by simpa using h
 refine ab _ (ay _ _) (ai (fun h=>?_) (fun h=>?_))
 ·refine aa (aa (aa (aa ?_)))
  refine ah ⟨?_,rfl⟩
  rw[sW,if_neg n5,if_pos (by simpa using h)];rfl
 have n11:e.code ≠ 11:=by simpa using h
 refine ab _ (ay _ _) (ai (fun h=>?_) (fun h=>?_))
 ·refine aa (aa (aa ?_))
  refine aj (Wa ho hn hm) rfl (vs:=Ob.row { o with pp:=oM o.pp e.n,pt:=oM o.pt e.m }) (bE _) fun H1 l1=>?_
  refine aa (aa ?_)
  refine ah ⟨?_,rfl⟩
  rw[sW,if_neg n5,if_neg n11,if_pos (by simpa using h)];rfl
 have n8:e.code ≠ 8:=by simpa using h
 refine ab _ (ay _ _) (ai (fun h=>?_) (fun h=>?_))
 ·refine aa (aa ?_)
  refine aj (SY ho hn) rfl (vs:=Ob.row { o with cnt:=oM o.cnt e.n }) (bE _) fun H1 l1=>?_
  refine aa (aa ?_)
  refine ah ⟨?_,rfl⟩
  rw[sW,if_neg n5,if_neg n11,if_neg n8,if_pos (by simpa using h)];rfl
 have n9:e.code ≠ 9:=by simpa using h
 refine aa (aa (aa ?_))
 refine ah ⟨?_,rfl⟩
 rw[sW,if_neg n5,if_neg n11,if_neg n8,if_neg n9];rfl
theorem Lt {t:TypeId} {v:Value}:∀ w,((PrimOp.eqv .neq 113 true).sem [.iface t v,.nilIface]).run PP w=.ok (.value (.bool true)) w:=fun w=>by kernel_rfl
theorem UH:∀ w,((PrimOp.eqv .neq 113 true).sem [.nilIface,.nilIface]).run PP w=.ok (.value (.bool false)) w:=fun w=>by kernel_rfl
theorem RU (v:Value):AN PP "zeitnot/effect.fits" (.iface 151 v) kb v:=⟨_,_,rfl,fun w=>by kernel_rfl⟩
theorem UL (v:Value):AN PP "zeitnot/effect.fits" (.iface 154 v) ib v:=⟨_,_,rfl,fun w=>by kernel_rfl⟩
theorem UJ (v:Value):AN PP "zeitnot/effect.fits" (.iface 156 v) iF v:=⟨_,_,rfl,fun w=>by kernel_rfl⟩
theorem UK (v:Value):AN PP "zeitnot/effect.fits" (.iface 158 v) gq v:=⟨_,_,rfl,fun w=>by kernel_rfl⟩
theorem OE {H:Heap} {R:Rl} {r:Value} (h:Wh H R r):r.oneCell'=true:=by
 cases R with
 | no=>rw[show r=.nilIface from h];rfl
 | bare l=>obtain⟨s,rfl,_⟩:=h;rfl
 | cnt l m=>obtain⟨s,rfl,_⟩:=h;rfl
 | par l m=>obtain⟨s,rfl,_⟩:=h;rfl
 | col l m=>obtain⟨s,rfl,_⟩:=h;rfl
theorem Uw {c:Int} {l:List Int} {m:Int} (h:vF c=.par l m):0≤m:=by
 rw[vF] at h
 repeat' (split at h)
 all_goals first | (injection h with h1 h2;omega) | cases h
theorem zI (e:Eff) (H:Heap):RetO PP lj [.agg e.row.toArray] H [] (.bool (rF e)):=by
 refine Bf (vs:=e.row) (by kernel_rfl) (kU e) ?_
 simp only[vU]
 refine af fun r0=>?_
 refine aa ?_
 refine ar (Xu e.code H) ?_
 rintro r H1 _ ⟨hr,rfl⟩ l1
 refine⟨[r],rfl,⟨OE hr,trivial⟩,?_⟩
 have hpp:=@Uw e.code
 rw[rF]
 generalize vF e.code=R at hr hpp
 cases R with
 | no =>
  rw[show r=.nilIface from hr]
  refine⟨_,fun _=>UH,rfl,ai (fun hd=>by cases hd) (fun _=>?_)⟩
  exact ah ⟨rfl,rfl⟩
 | bare l =>
  obtain⟨s,rfl,hs⟩:=hr
  refine⟨_,fun _=>Lt,rfl,ai (fun _=>?_) (fun hd=>by cases hd)⟩
  refine aa ?_
  exact yk (RU s) (iW lT (by decide)) (zJ (hs.rsl []) e) rfl ⟨rfl,trivial⟩ fun H2 l2=>ah ⟨rfl,rfl⟩
 | cnt l m =>
  obtain⟨s,rfl,hs⟩:=hr
  refine⟨_,fun _=>Lt,rfl,ai (fun _=>?_) (fun hd=>by cases hd)⟩
  refine aa ?_
  exact yk (UL _) (iW lT (by decide)) (Ja (hs.rsl []) m e) rfl ⟨rfl,trivial⟩ fun H2 l2=>ah ⟨rfl,rfl⟩
 | par l m =>
  obtain⟨s,rfl,hs⟩:=hr
  refine⟨_,fun _=>Lt,rfl,ai (fun _=>?_) (fun hd=>by cases hd)⟩
  refine aa ?_
  exact yk (UJ _) (iW lT (by decide)) (Qz (hs.rsl []) (hpp rfl) e) rfl ⟨rfl,trivial⟩ fun H2 l2=>ah ⟨rfl,rfl⟩
 | col l m =>
  obtain⟨s,rfl,hs⟩:=hr
  refine⟨_,fun _=>Lt,rfl,ai (fun _=>?_) (fun hd=>by cases hd)⟩
  refine aa ?_
  exact yk (UK _) (iW lT (by decide)) (QD (hs.rsl []) m e) rfl ⟨rfl,trivial⟩ fun H2 l2=>ah ⟨rfl,rfl⟩
theorem Xt {H:Heap} {O:Own} {cv:Value} {cs:List CdX} (hk:CardsX H cv cs) {v:cn} {b:Bd} (h:BdR H O v b) {id:Int} (hid:i64 id):RetO PP AO [cv,.agg (al v b).toArray,iV id] H O (.bool (onB cs b id)):=by
 refine EC (vs:=cv::(al v b++[iV id])) (by kernel_rfl) ⟨hk.one,ax (am h) ⟨rfl,trivial⟩⟩ ?_
 simp only[AD]
 refine af fun r0=>?_
 refine aa ?_
 refine aj (TO h hid) rfl (vs:=(cY b id).row++[iV (ba b id)]) (ax (bE _) ⟨rfl,trivial⟩) fun H1 l1=>af fun r1=>?_
 refine aa ?_
 refine ab _ (ay _ _) (ai (fun hi=>?_) (fun hi=>?_))
 rotate_left
 ·refine ah ⟨?_,rfl⟩
  rw[onB,show (ba b id == 0)=false from hi,Bool.false_and]
 have hi:(ba b id == 0)=true:=hi
 have hb:(ba b id != 0)=false:=by rw[bne,hi];rfl
 obtain⟨hval,k,o,e1,e2,e3,e4⟩:=nR hb
 have hfo:=rC hb e1 e3
 have hown:=(cV (aM hval).1 e1).2.2.2
 rw[hfo]
 refine aa ?_
 refine aj (FT (hk.le l1).base.kinds o) rfl ⟨rfl,trivial⟩ fun H2 l2=>ai (fun hc=>?_) (fun hc=>?_)
 rotate_left
 ·refine ah ⟨?_,rfl⟩
  rw[onB,hi,Bool.true_and,hfo,show eL (UR cs) o=false from hc,Bool.false_and]
 have h2:=h.le (Heap.le_trans l1 l2)
 have hr:onB cs b id=(ao b o.owner).field.contains id:=by rw[onB,hi,Bool.true_and,hfo,show eL (UR cs) o=true from hc,Bool.true_and]
 rw[hr]
 rcases hown with hown | hown
 ·rw[hown]
  refine aa ?_
  refine⟨.i64,o.owner,rfl,fun _=>?_,fun e=>absurd hown e⟩
  refine aa ?_
  exact aj (fh h2.s0.field id) rfl ⟨rfl,trivial⟩ fun H3 l3=>ah ⟨rfl,rfl⟩
 ·rw[hown]
  refine aa ?_
  refine⟨.i64,o.owner,rfl,fun e=>absurd e (by omega),fun _=>⟨.i64,o.owner,rfl,fun _=>?_,fun e=>absurd hown e⟩⟩
  refine aa ?_
  exact aj (fh h2.s1.field id) rfl ⟨rfl,trivial⟩ fun H3 l3=>ah ⟨rfl,rfl⟩
def QL (r:Nat) (e:Eff):BV:=⟨r,39,e.row⟩
theorem Jf {r:Nat} {e:Eff} {H:Heap} {O:Own} (off m:Nat) (hm:off + m≤5):Reads H ((QL r e).obj::O) (.pointer (some ⟨r,off,none⟩)) m ((e.row.drop off).take m) :=
 .inr ⟨⟨r,off,none⟩,e.row.toArray,39,rfl,rfl,List.mem_cons_self,rfl,by simp[Eff.row];omega⟩
theorem V5 {H:Heap} {o:Ob} (ho:smO o) {e:Eff} (hn:sm e.n) (r:Nat):RetO PP ka [.agg o.row.toArray,.pointer (some ⟨r,0,none⟩)] H [(QL r e).obj] (.agg (Ob.row { o with dmg:=oM o.dmg e.n }).toArray):=by
 refine vx (vs:=o.row++[.pointer (some ⟨r,0,none⟩)]) (by kernel_rfl) (ax (bE o) ⟨rfl,trivial⟩) ?_
 simp only[pg]
 refine af fun r0=>af fun r1=>?_
 refine aa (aw rfl ?_)
 refine ap (vs:=[iV e.n]) (Jf 2 1 (by omega)) rfl ⟨rfl,trivial⟩ ?_
 refine aj (WW ho hn) rfl (vs:=Ob.row { o with dmg:=oM o.dmg e.n }) (bE _) fun H1 l1=>?_
 refine aa (aa ?_)
 exact ah ⟨rfl,rfl⟩
theorem V4 {H:Heap} {o:Ob} (ho:smO o) {e:Eff} (hn:sm e.n) (hm:sm e.m) (r:Nat):RetO PP pB [.agg o.row.toArray,.pointer (some ⟨r,0,none⟩)] H [(QL r e).obj] (.agg (sW e o).row.toArray):=by
 refine vu (vs:=o.row++[.pointer (some ⟨r,0,none⟩)]) (by kernel_rfl) (ax (bE o) ⟨rfl,trivial⟩) ?_
 simp only[pf]
 refine af fun r0=>af fun r1=>?_
 refine aa ?_
 refine ap (vs:=e.row) (Jf 0 5 (by omega)) rfl (kU e) ?_
 refine aj (QE ho hn hm) rfl (vs:=(sW e o).row) (bE _) fun H1 l1=>?_
 refine aa (aa ?_)
 exact ah ⟨rfl,rfl⟩
theorem LR {H:Heap} {v:cn} {b:Bd} (h:BdS H v b) (hB:bdB b) {id:Int} (hid:i64 id) {f:FuncId} {r:Nat} {e:Eff} {g:Ob→Ob} (hok:vA PP f)
  (hf:∀ H',RetO PP f [.agg (cY b id).row.toArray,.pointer (some ⟨r,0,none⟩)] H' [(QL r e).obj] (.agg (g (cY b id)).row.toArray)) (hg:i64 (g (cY b id)).id) (hz:(Ew b (g (cY b id))).2=0) :
  Triple PP sd [.agg (al v b).toArray,iV id,.func (.func f) #[] #[.pointer (some ⟨r,0,none⟩)]] H [(QL r e).obj] fun x _ O'=>∃ X,O'=(QL r e).obj::X∧∃ w,x=.agg (al w (bV b id g)).toArray∧OwnB tys w (bV b id g) X:=by
 refine xt (vs:=al v b++[iV id,.func (.func f) #[] #[.pointer (some ⟨r,0,none⟩)]]) (by kernel_rfl) (ax (am (h.r [])) ⟨rfl,rfl,trivial⟩) ?_
 simp only[rV]
 refine af fun r0=>af fun r1=>?_
 refine aa ?_
 refine aj (TO (h.r _) hid) rfl (vs:=(cY b id).row++[iV (ba b id)]) (ax (bE _) ⟨rfl,trivial⟩) fun H1 l1=>af fun r2=>?_
 have h:=h.le l1
 refine aa (aa (aa ?_))
 refine hJ rfl hok (hf H1) rfl (vs:=(g (cY b id)).row) (bE _) fun H2 l2=>?_
 have h:=h.le l2
 refine ar (WV h hB hg) ?_
 rintro _ H3 O3 ⟨w,rfl,ho⟩ l3
 refine⟨al w (Ew b (g (cY b id))).1++[iV (Ew b (g (cY b id))).2],rfl,ax (aZ H3 ho) ⟨rfl,trivial⟩,af fun r3=>?_⟩
 have ec:bV b id g=(Ew b (g (cY b id))).1:=by rw[bV,if_pos hz]
 rw[ec,hz]
 refine aa ?_
 refine ab _ (aY _ _) (ai (fun hd=>by cases hd) (fun _=>?_))
 refine aa (aa (aa ?_))
 intro hc
 exact⟨H3,(QL r e).obj::O3,Ghost.perm (List.perm_append_comm (l₁:=O3) (l₂:=[(QL r e).obj])),O3,rfl,w,rfl,ho⟩
theorem FX (a b:Int):au (oM a b) 0 99=true:=by
 have h:0≤oM a b∧oM a b≤99:=by simp only[oM];omega
 simp only[au,decide_eq_true_eq];exact h
theorem qb {b:Bd} (hv:an b=true) (q:Int):bb (ao b q)=true:=by
 simp only[an,Bool.and_eq_true] at hv
 rw[ao]
 split
 ·exact hv.2.2.2.2.2.1
 ·exact hv.2.2.2.2.2.2.1
theorem nG {b:Bd} (hv:an b=true) (q:Int):0≤(ao b q).life∧(ao b q).life≤9999:=by
 have h:=qb hv q
 simp only[bb,Bool.and_eq_true,au,decide_eq_true_eq] at h
 exact h.1
theorem dM {b:Bd} (hv:an b=true) (q:Int):sm (ao b q).p0∧sm (ao b q).p1∧sm (ao b q).p2∧sm (ao b q).p3:=by
 have h:=qb hv q
 simp only[bb,Bool.and_eq_true,au,decide_eq_true_eq,List.all_cons,List.all_nil] at h
 obtain⟨_,⟨⟨a1,a2⟩,⟨a3,a4⟩,⟨a5,a6⟩,⟨a7,a8⟩,_⟩,_⟩:=h
 refine⟨?_,?_,?_,?_⟩ <;> constructor <;> omega
theorem nB {o:Ob} (h:aW o=true):smO o:=by
 simp only[aW,Bool.and_eq_true,List.all_cons,List.all_nil,au,decide_eq_true_eq] at h
 obtain⟨⟨⟨_,_,a,b,c,d,_⟩,_⟩,_⟩:=h
 refine⟨?_,?_,?_,?_⟩ <;> constructor <;> omega
theorem dD {b:Bd} {id:Int} (hi:ba b id=0):∃ k,b.objs[k]?=some (cY b id)∧(cY b id).id=id∧eY b id=(k:Nat)∧aW (cY b id)=true∧((cY b id).owner=0∨(cY b id).owner=1):=by
 have hb:(ba b id != 0)=false:=by rw[hi];rfl
 obtain⟨hval,k,o,e1,e2,e3,_⟩:=nR hb
 have hfo:=rC hb e1 e3
 obtain⟨h1,_,_,h4⟩:=cV (aM hval).1 e1
 rw[hfo]
 exact⟨k,e1,e2,e3,h1,h4⟩
theorem HH {b:Bd} {id:Int} (hi:ba b id=0) {o:Ob} (h1:o.id=id) (h2:o.card=(cY b id).card) (h3:o.owner=(cY b id).owner) (hvo:aW o=true):Ew b o=(bT b (eY b id).toNat o,0):=by
 rw[Ew,if_pos hvo,h1,if_neg (by rw[hi];simp),if_neg (by rw[h2,h3];simp)]
theorem jL (e:Eff) (o:Ob):(sW e o).id=o.id∧(sW e o).card=o.card∧(sW e o).owner=o.owner:=by
 simp only[sW]
 repeat' split
 all_goals exact⟨rfl,rfl,rfl⟩
theorem jK {e:Eff} {o:Ob} (h:aW o=true):aW (sW e o)=true:=by
 have ha:=FX
 simp only[aW,Bool.and_eq_true,List.all_cons,List.all_nil] at h ⊢
 simp only[sW]
 obtain⟨⟨⟨a,b,c,d,f,g,k⟩,q⟩,r⟩:=h
 repeat' split
 all_goals first
  | exact⟨⟨⟨a,b,c,d,f,g,k⟩,q⟩,r⟩
  | exact⟨⟨⟨a,b,c,d,ha _ _,ha _ _,k⟩,q⟩,r⟩
  | exact⟨⟨⟨a,b,c,ha _ _,f,g,k⟩,q⟩,r⟩
theorem yg {o:Ob} (h:aW o=true) (n:Int):aW { o with dmg:=oM o.dmg n }=true:=by
 have ha:=FX
 simp only[aW,Bool.and_eq_true,List.all_cons,List.all_nil] at h ⊢
 obtain⟨⟨⟨a,b,c,d,f,g,k⟩,q⟩,r⟩:=h
 exact⟨⟨⟨a,b,ha _ _,d,f,g,k⟩,q⟩,r⟩
theorem jF {e:Eff} (h:rF e=true):0≤e.n∧e.n≤99∧0≤e.m∧e.m≤99∧0≤e.colour∧e.colour≤3:=by
 have hB:∀ {l:List Int} {e:Eff},TG l e=true→e.n=0∧e.m=0∧e.colour=0:=fun h=>by
  simp only[TG,Bool.and_eq_true,beq_iff_eq] at h
  exact⟨h.1.1.2,h.1.2,h.2⟩
 have hC:∀ {l:List Int} {k:Int} {e:Eff},k≤99→SG l k e=true→0≤e.n∧e.n≤99∧e.m=0∧e.colour=0:=fun hk h=>by
  simp only[SG,inR,Bool.and_eq_true,beq_iff_eq,decide_eq_true_eq] at h
  obtain⟨_,h2,h3⟩:=hB h.2
  exact⟨by omega,by omega,h2,h3⟩
 rw[rF] at h
 have hR:∀ {R:Rl},(match R with | .cnt _ m=>m≤99 | .col _ m=>m≤99 | .par _ m=>0≤m | _=>True)→R.fits e=true→0≤e.n∧e.n≤99∧0≤e.m∧e.m≤99∧0≤e.colour∧e.colour≤3:=by
  intro R hm h
  cases R with
  | no=>cases h
  | bare l=>obtain⟨a,b,c⟩:=hB h;omega
  | cnt l m=>obtain⟨a,b,c,d⟩:=hC hm h;omega
  | par l m =>
   have h:SE l m e=true:=h
   have hm:0≤m:=hm
   simp only[SE,inR,Bool.and_eq_true,beq_iff_eq,decide_eq_true_eq] at h
   have h3:e.colour=0:=(hB h.2).2.2
   omega
  | col l m =>
   have h:TF l m e=true:=h
   simp only[TF,inR,Bool.and_eq_true,beq_iff_eq,decide_eq_true_eq] at h
   obtain⟨a,b,c,_⟩:=hC hm h.2
   have a:0≤e.n:=a
   have b:e.n≤99:=b
   have c:e.m=0:=c
   omega
 refine hR ?_ h
 rw[vF]
 repeat' split
 all_goals first | trivial | (rename_i hh;revert hh;repeat' split) 
 all_goals first | (intro hh;cases hh;omega) | (intro hh;injection hh;omega) | (intro hh;cases hh) | trivial
end Go.Proofs.YtdhobpmnkfmcfaaGreatDoor
