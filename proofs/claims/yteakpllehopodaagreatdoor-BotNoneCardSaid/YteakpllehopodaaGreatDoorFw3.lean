/- My framework, part 3: a function's code is reckoned to a tree; what the tree says, the function does. Generic: no program in sight. -/
import Derived.Laws.BytesArg
import Derived.Laws.IdiomStrings
import Derived.Test.YteakpllehopodaaGreatDoorFw2
namespace Go.Sx
open Go
variable {P:Program}
theorem yu {hi:Nat} {F:Own} {x:CS} {H:Heap} {O:Own} {a:Act} {w:World} {dst:Option Tmp} {v:Value} {sv:SV} (hM:BG x.h.ms O)
  (hc:Conc F x.s H O a w) (hd:∀ d,dst=some d→d < x.s.sz) (hrel:sv.rel v) (hsok:sv.ok) (hf:∀ n,x.s.next≤n→x.s.mem n=none) (hn:hi≤x.s.next) :
  CC hi F (x.app dst ⟨some (jh sv),[],none⟩) H (a.put dst v) w:=by
 have h:=zW (dst:=dst) hM hc hd hrel hsok hf hn
 exact h
theorem Q9 {hi:Nat} {F:Own} {x:CS} {H:Heap} {O L':Own} {a:Act} {w w':World} {dst:Option Tmp} {v:Value} {sv:SV} {val:Option SV} {n:Nat} {b:Bx} {cs:List At} {vs':List Value} (hM:BG x.h.ms O)
  (hc:Conc F x.s H O a w) (hd:∀ d,dst=some d→d < x.s.sz) (hrel:sv.rel v) (hsok:sv.ok) (hval:dst=none∨val=some (jh sv)) (hf:∀ n,x.s.next≤n→x.s.mem n=none) (hn:hi≤x.s.next)
  (hb:x.s.mem n=some b) (hB:Boxes (fun k=>if k=n then none else x.s.mem k) L') (hm:Models w' H ((b.r,.cells vs'.toArray b.T (0,0))::(L'++(O++F)))) (hv:CellsRel cs vs') (hok:∀ a ∈ cs,a.ok) :
  CC hi F (x.app dst ⟨val,[(n,some { b with cs:=cs })],none⟩) H (a.put dst v) w':=by
 have hB2:=hB.put (n:=n) (b:={ b with cs:=cs }) (by simp) hv
 rw[EO] at hB2
 have hmem:∀ k,(x.app dst ⟨val,[(n,some { b with cs:=cs })],none⟩).s.mem k=if k=n then some { b with cs:=cs } else x.s.mem k:=by
  intro k
  rw[CS.app_mem]
  by_cases e:k=n <;> simp[ge,e]
 have hx:x.app dst ⟨val,[(n,some { b with cs:=cs })],none⟩=x.app dst ⟨val,[(n,some { b with cs:=cs })],some (x.s.next,x.h)⟩:=rfl
 rw[hx]
 have hnn:n < x.s.next:=by
  rcases Nat.lt_or_ge n x.s.next with h | h
  ·exact h
  ·have:=hf n h;rw[hb] at this;cases this
 refine vJ (sv:=sv) (L':=(b.r,.cells vs'.toArray b.T (0,0))::L') hc hd hrel hsok hval rfl ?_ ?_ hM (by simpa using hm) ?_ hn
 ·intro k b' hb' a' ha'
  have hb'':=hmem k
  rw[hx] at hb''
  rw[hb''] at hb'
  split at hb'
  ·simp only[Option.some.injEq] at hb'
   subst hb'
   exact hok a' ha'
  ·exact hc.ok.2 k b' hb' a' ha'
 ·refine (congrArg (fun m=>Boxes m _) (funext fun k=>?_)).mpr hB2
  exact hmem k
 ·intro k hk'
  have hb'':=hmem k
  rw[hx] at hb''
  rw[hb'',if_neg (by omega)]
  exact hf k hk'
theorem yN {t t2 ty e:TypeId} {i:TypeInfo} (ht:P.underlying t=some (.slice e)) (hi:P.info? e=some i) {w:World} {r off dLen dCap:Nat} {vs:List Value} {T:TypeId} (hr:w.heap[r]?=some (.cells vs.toArray T (0,0)))
  {x:Value} {k m:Nat} {cs:List Value} (hl:∀ w':World,(Builtin.lenOf x).run P w'=.ok m w') (hk:k=min m dLen) (hcells:(Builtin.firstCells i.size k x).run P w=.ok cs.toArray w) (hfit:off + cs.length≤vs.length) (h1:∀ v ∈ cs,v.oneCell'=true) :
  (Builtin.copy_ #[t,t2] ty #[.slice (some ⟨r,off,none⟩) dLen dCap,x]).run P w=.ok (goInt k) (w.setRow r (vs.take off++cs++vs.drop (off + cs.length)).toArray):=by
 have hst:=run_storeCells_at P r off T cs 0 vs.toArray w hr (by simpa using hfit) h1
 simp only[Nat.add_zero] at hst
 have hk':m.min dLen=k:=hk.symm
 simp[Builtin.copy_,run_underlying ht,sizeOf,typeInfo,hi,hl,hk',hcells,hst]
theorem DI {t t2 ty e:TypeId} {i:TypeInfo} (ht:P.underlying t=some (.slice e)) (hi:P.info? e=some i) {w:World} {base:Option Addr} {dCap:Nat}
  {x:Value} {m:Nat} (hl:∀ w':World,(Builtin.lenOf x).run P w'=.ok m w') (hcells:(Builtin.firstCells i.size 0 x).run P w=.ok #[] w) :
  (Builtin.copy_ #[t,t2] ty #[.slice base 0 dCap,x]).run P w=.ok (goInt 0) w:=by
 cases base <;> simp[Builtin.copy_,run_underlying ht,sizeOf,typeInfo,hi,hl,hcells,storeCells]
theorem yC {F:Own} {x:CS} {H:Heap} {O:Own} {a:Act} {w:World} (hc:Conc F x.s H O a w) {size:Nat} {ya:At} {news:List At} {m:Nat} {ck:List Ck} {rd:List Nat}
  (h:yD x size ya=some (news,m,ck,rd)) (hck:AllCk ck) {k:Nat} (hk:k≤m):(∀ w':World,(Builtin.lenOf ya.den).run P w'=.ok m w')∧(Builtin.firstCells size k ya.den).run P w=.ok ((news.take (k * size)).map At.den).toArray w:=by
 unfold yD at h
 split at h
 ·rename_i n r off len cap
  split at h
  ·rename_i b hb
   simp only[] at h
   split at h
   ·rename_i hcond
    simp only[Bool.and_eq_true,beq_iff_eq] at hcond
    simp only[Option.some.injEq,Prod.mk.injEq] at h
    obtain⟨rfl,rfl,rfl,rfl⟩:=h
    have hr:r=b.r:=hck.1
    subst hr
    obtain⟨h1,h2⟩:=EN hc hb hcond.1 hcond.2
    refine⟨fun _=>rfl,run_firstCells_some w size k _ len cap _ ?_ ?_⟩
    ·rw[List.length_map,List.length_take,hcond.1]
     exact Nat.min_eq_left (Nat.mul_le_mul_right _ hk)
    ·intro j v hj
     refine h1 j v ?_
     rw[List.map_take,List.getElem?_take] at hj
     split at hj
     ·exact hj
     ·cases hj
   ·simp at h
  ·simp at h
 ·rename_i va vc
  simp only[Option.some.injEq,Prod.mk.injEq] at h
  obtain⟨rfl,rfl,rfl,rfl⟩:=h
  have:k=0:=Nat.le_zero.1 hk
  subst this
  refine⟨fun _=>rfl,?_⟩
  cases va with
  | none=>simpa [At.den] using run_firstCells_none (P:=P) w size 0 0 vc
  | some ad=>simpa [At.den] using run_firstCells_some (P:=P) w size 0 ad 0 vc [] (by simp) (by simp)
 ·rename_i va vc
  simp only[Option.some.injEq,Prod.mk.injEq] at h
  obtain⟨rfl,rfl,rfl,rfl⟩:=h
  have:k=0:=Nat.le_zero.1 hk
  subst this
  refine⟨fun _=>rfl,?_⟩
  cases va with
  | none=>simpa [At.den] using run_firstCells_none (P:=P) w size 0 0 vc
  | some ad=>simpa [At.den] using run_firstCells_some (P:=P) w size 0 ad 0 vc [] (by simp) (by simp)
 ·simp at h
theorem zL {sa:At} (h:vD sa=true):∃ base,sa.den=.slice base 0 0:=by
 unfold vD at h
 split at h
 ·exact⟨_,rfl⟩
 ·exact⟨_,rfl⟩
 ·cases h
theorem Ih {ops:Array Oper} {o:Oper} {x:CS} {c:Call} {e:Ef} (hop:o.op=.call c) (hcal:c.callee=.builtin .copy) (hg:aI (bo ops) x.s o=.go []) (hd:∀ d,o.dst=some d→d < x.s.sz)
  (he:Qk P x c.argTypes c.args.toList=some e) {hi:Nat} {F:Own} {H:Heap} {a:Act} {w:World} {K:CS→Prop} {Q:Exit→Act→World→Prop} (hC:CC hi F x H a w) (hr:e.run hi o.dst x K) :
  wp1 P ops Q o (fun a' w'=>∃ x',CC hi F x' H a' w'∧K x') a w:=by
 obtain⟨⟨O,hM,hc⟩,hf,hn⟩:=hC
 unfold Qk at he
 split at he
 ·rename_i t t2 da ya cs hts hops
  split at he
  ·rename_i el hu
   simp only[Option.bind_eq_some_iff] at he
   obtain⟨size,hsize,he⟩:=he
   split at he
   ·cases he
   ·rename_i happ
    simp only[Bool.or_eq_true,not_or,bne_iff_ne,ne_eq,Decidable.not_not,Bool.not_eq_true'] at happ
    obtain⟨htt,happ⟩:=happ
    have happ:rn P t el size=true:=by simpa using happ
    subst htt
    simp only[Option.bind_eq_some_iff] at he
    obtain⟨⟨news,m,ck,rd⟩,hsrc,he⟩:=he
    simp only[] at he
    obtain⟨_,i,z,hinf,hsz,hzz,hzs,h0,hby⟩:=vO happ
    have hts':c.argTypes=#[t,t]:=by apply Array.ext';simpa using hts
    have main:∀ (v:Value) (w':World),AllCk cs→(Builtin.copy_ #[t,t] o.type #[da.den,ya.den]).run P w=.ok v w'→(∃ x',CC hi F x' H (a.put o.dst v) w'∧K x')→wp1 P ops Q o (fun a' w'=>∃ x',CC hi F x' H a' w'∧K x') a w:=by
     intro v w' hcs hrun hk
     refine nr hc hg (w':=w') (v:=v) (yw (ops:=ops) hop hcal (by simp) (by simp) (vs:=[da.den,ya.den]) ?_ ?_) hk
     ·have:=eZ hc hops hcs trivial
      simpa using this
     ·rw[hts']
      simp only[builtin,Sem.run_bind]
      rw[hrun];rfl
    split at he
    ·rename_i n r off len cap
     split at he
     ·cases he
     ·rename_i b hb
      split at he
      ·cases he
      ·rename_i hold
       simp only[bne_iff_ne,ne_eq,Decidable.not_not] at hold
       simp only[Option.some.injEq] at he
       subst he
       obtain⟨⟨hrb,hcs⟩,_,hk⟩:=hr
       have hrb:r=b.r:=hrb
       subst hrb
       have hcs:=AllCk.append.1 hcs
       obtain⟨hS,hnl,hnk,hno⟩:=E8 hc hu hsrc hcs.1
       obtain⟨hl1,hl2⟩:=yC (P:=P) hc hsrc hcs.1 (k:=min m len) (Nat.min_le_left _ _)
       obtain⟨L,hB,hmo⟩:=hc.mm
       obtain⟨vs,L',hv,hp,hB'⟩:=hB.take hb
       have hmo':Models w H ((b.r,.cells vs.toArray b.T (0,0))::(L'++(O++F))):=hmo.perm (by simpa using hp.append_right (O++F))
       have hrow:w.heap[b.r]?=some (.cells vs.toArray b.T (0,0)):=(hmo'.own (b.r,.cells vs.toArray b.T (0,0)) (by simp)).1
       have hll:((news.take (min m len * size)).map At.den).length=min m len * size:=by
        rw[List.length_map,List.length_take,hnl]
        exact Nat.min_eq_left (Nat.mul_le_mul_right _ (Nat.min_le_left _ _))
       have hfit:off + min m len * size≤vs.length∨min m len * size=0:=by
        rw[← hv.length]
        rw[List.length_take,List.length_drop] at hold
        omega
       have hrun:(Builtin.copy_ #[t,t] o.type #[.slice (some ⟨b.r,off,none⟩) len cap,ya.den]).run P w=.ok (goInt ((min m len:Nat):Int)) (w.setRow b.r (vs.take off++(news.take (min m len * size)).map At.den++vs.drop (off + ((news.take (min m len * size)).map At.den).length)).toArray):=by
        rcases hfit with hfit | h00
        ·exact yN (t:=t) (t2:=t) hu hinf hrow hl1 rfl (by rw[hsz];exact hl2) (by rw[hll];exact hfit) (by
          intro v hv'
          obtain⟨a',ha',rfl⟩:=List.mem_map.1 hv'
          have ha2:=List.mem_of_mem_take ha'
          exact At.fit_one ((tX hnk).2 a' ha2) (hno a' ha2))
        ·have hm0:min m len=0:=(Nat.mul_eq_zero.1 h00).resolve_right (by omega)
         have hem:((news.take (min m len * size)).map At.den)=[]:=by rw[hm0];simp
         rw[hem]
         simp only[List.append_nil,List.length_nil,Nat.add_zero,List.take_append_drop]
         rw[setRow_self w b.r vs.toArray b.T (0,0) hrow]
         have hcl:=hl2
         rw[hem,hm0] at hcl
         rw[hm0]
         have hk':m.min len=0:=hm0
         simp[Builtin.copy_,run_underlying hu,sizeOf,typeInfo,hinf,hl1,hk',hsz,hcl,storeCells]
       refine main _ _ hcs.2 hrun ⟨_,?_,hk⟩
       have hm2:=j6 (vs':=vs.take off++(news.take (min m len * size)).map At.den++vs.drop (off + ((news.take (min m len * size)).map At.den).length)) hmo'
       refine Q9 (sv:=.s (.at (.k (goInt ((min m len:Nat):Int))))) (vs':=vs.take off++(news.take (min m len * size)).map At.den++vs.drop (off + ((news.take (min m len * size)).map At.den).length)) hM hc hd rfl (EZ _) (.inr rfl) hf hn hb hB' hm2 ?_ ?_
       ·rw[List.length_map];exact hv.fill _ _
       ·intro a' ha'
        rcases vA ha' with h | h
        ·exact hc.ok.2 n b hb a' h
        ·exact hno a' (List.mem_of_mem_take h)
    ·split at he
     ·rename_i hemp
      simp only[Option.some.injEq] at he
      subst he
      obtain⟨hcs,_,hk⟩:=hr
      rw[AllCk.append] at hcs
      obtain⟨hl1,hl2⟩:=yC (P:=P) hc hsrc hcs.1 (k:=0) (Nat.zero_le _)
      obtain⟨base,hden⟩:=zL hemp
      refine main (goInt 0) w hcs.2 ?_ ⟨_,?_,hk⟩
      ·rw[hden]
       exact DI hu hinf hl1 (by rw[hsz,hl2];simp)
      ·exact yu (sv:=.s (.at (.k (goInt 0)))) hM hc hd rfl (EZ _) hf hn
     ·cases he
  ·cases he
 ·cases he
theorem vV {t ty e:TypeId} {z:Value} (ht:P.underlying t=some (.slice e)) (hz:∀ w,(zeroValue e).run P w=.ok z w) {w:World} {r off n cap:Nat} {vs:List Value} {T:TypeId} (hr:w.heap[r]?=some (.cells vs.toArray T (0,0)))
  (hfit:off + n * z.cells.size≤vs.length) (h1:∀ v ∈ (Builtin.zeroCells z.cells n).toList,v.oneCell'=true) :
  (Builtin.clear_ #[t] ty #[.slice (some ⟨r,off,none⟩) n cap]).run P w=.ok (.tuple #[]) (w.setRow r (vs.take off++(Builtin.zeroCells z.cells n).toList++vs.drop (off + (Builtin.zeroCells z.cells n).toList.length)).toArray):=by
 cases n with
 | zero =>
  have e0:(Builtin.zeroCells z.cells 0).toList=[]:=by simp[Builtin.zeroCells]
  rw[e0]
  simp only[List.append_nil,List.length_nil,Nat.add_zero,List.take_append_drop]
  rw[setRow_self w r vs.toArray T (0,0) hr]
  simp[Builtin.clear_,run_underlying ht]
 | succ n =>
  have hst:=run_storeCells_at P r off T (Builtin.zeroCells z.cells (n + 1)).toList 0 vs.toArray w hr (by simpa [size_zeroCells] using hfit) h1
  simp only[Nat.add_zero] at hst
  simp[Builtin.clear_,run_underlying ht,hz,hst]
theorem GF {ops:Array Oper} {o:Oper} {x:CS} {c:Call} {e:Ef} (hop:o.op=.call c) (hcal:c.callee=.builtin .clear) (hg:aI (bo ops) x.s o=.go []) (hdst:o.dst=none)
  (he:Js P x c.argTypes c.args.toList=some e) {hi:Nat} {F:Own} {H:Heap} {a:Act} {w:World} {K:CS→Prop} {Q:Exit→Act→World→Prop} (hC:CC hi F x H a w) (hr:e.run hi o.dst x K) :
  wp1 P ops Q o (fun a' w'=>∃ x',CC hi F x' H a' w'∧K x') a w:=by
 obtain⟨⟨O,hM,hc⟩,hf,hn⟩:=hC
 unfold Js at he
 split at he
 ·rename_i t sa cs hts hops
  split at he
  ·rename_i el hu
   simp only[Option.bind_eq_some_iff] at he
   obtain⟨size,hsize,z,hz,he⟩:=he
   split at he
   ·cases he
   ·rename_i hcond
    simp only[Bool.or_eq_true,not_or,bne_iff_ne,ne_eq,Decidable.not_not,beq_iff_eq,Bool.not_eq_true',Bool.not_eq_false] at hcond
    obtain⟨⟨hzl,hs0⟩,hzf⟩:=hcond
    obtain⟨zv,hzr,hzc,hzk,hzo⟩:=j0 hz
    have hts':c.argTypes=#[t]:=by apply Array.ext';simpa using hts
    have main:∀ (w':World),AllCk cs→(Builtin.clear_ #[t] o.type #[sa.den]).run P w=.ok (.tuple #[]) w'→(∃ x',CC hi F x' H (a.put o.dst (.tuple #[])) w'∧K x')→wp1 P ops Q o (fun a' w'=>∃ x',CC hi F x' H a' w'∧K x') a w:=by
     intro w' hcs hrun hk
     refine nr hc hg (w':=w') (v:=.tuple #[]) (yw (ops:=ops) hop hcal (by simp) (by simp) (vs:=[sa.den]) ?_ ?_) hk
     ·have:=eZ hc hops hcs trivial
      simpa using this
     ·rw[hts']
      simp only[builtin,Sem.run_bind]
      rw[hrun];rfl
    rw[hdst] at hr main
    split at he
    ·rename_i n r off len cap
     split at he
     ·cases he
     ·rename_i b hb
      split at he
      ·rename_i hfit
       simp only[Option.some.injEq] at he
       subst he
       obtain⟨⟨hrb,hcs⟩,_,hk⟩:=hr
       have hrb:r=b.r:=hrb
       subst hrb
       obtain⟨L,hB,hmo⟩:=hc.mm
       obtain⟨vs,L',hv,hp,hB'⟩:=hB.take hb
       have hmo':Models w H ((b.r,.cells vs.toArray b.T (0,0))::(L'++(O++F))):=hmo.perm (by simpa using hp.append_right (O++F))
       have hrow:w.heap[b.r]?=some (.cells vs.toArray b.T (0,0)):=(hmo'.own (b.r,.cells vs.toArray b.T (0,0)) (by simp)).1
       have hzc':zv.cells=(z.map At.den).toArray:=by rw[← hzc]
       have hzz:(Builtin.zeroCells zv.cells len).toList=(cE z len).map At.den:=by
        have:=ib (z.map At.den) (by rw[List.length_map,hzl];exact hs0) len
        rw[kS,← this]
        simp only[Builtin.zeroCells,hzc',List.size_toArray]
       have hzz2:zv.cells.size=size:=by rw[hzc'];simp[hzl]
       have hrl:(cE z len).length=len * size:=by
        have:=congrArg List.length hzz
        rw[Array.length_toList,size_zeroCells,hzz2,List.length_map] at this
        exact this.symm
       have hrun:=vV (ty:=o.type) (cap:=cap) (n:=len) (off:=off) hu hzr hrow (by rw[hzz2,← hv.length];exact hfit) (by
        rw[hzz]
        intro v hv'
        obtain⟨a',ha',rfl⟩:=List.mem_map.1 hv'
        have ha2:=jg ha'
        exact At.fit_one ((tX hzf).2 a' ha2) (hzo a' ha2))
       rw[hzz] at hrun
       refine main _ hcs hrun ⟨_,?_,hk⟩
       have hm2:=j6 (vs':=vs.take off++(cE z len).map At.den++vs.drop (off + ((cE z len).map At.den).length)) hmo'
       refine Q9 (dst:=none) (sv:=.s (.at (.k (.tuple #[])))) (v:=.tuple #[]) (vs':=vs.take off++(cE z len).map At.den++vs.drop (off + ((cE z len).map At.den).length)) hM hc (by simp) rfl (EZ _) (.inl rfl) hf hn hb hB' hm2 ?_ ?_
       ·rw[List.length_map];exact hv.fill _ _
       ·intro a' ha'
        rcases vA ha' with h | h
        ·exact hc.ok.2 n b hb a' h
        ·exact hzo a' (jg h)
      ·cases he
    ·split at he
     ·rename_i hemp
      simp only[Option.some.injEq] at he
      subst he
      obtain⟨hcs,_,hk⟩:=hr
      obtain⟨base,hden⟩:=zL hemp
      refine main w hcs ?_ ⟨_,?_,hk⟩
      ·rw[hden]
       cases base <;> simp[Builtin.clear_,run_underlying hu]
      ·exact yu (dst:=none) (v:=.tuple #[]) (sv:=.s (.at (.k (.tuple #[])))) hM hc (by simp) rfl (EZ _) hf hn
     ·cases he
  ·cases he
 ·cases he
variable {P:Program}
theorem qM:∀ {ms:List (Nat × MB)} {O:Own} {n:Nat} {b:MB},BG ms O→zo ms n=some b →
  ∃ p O1 O2,O=O1++p::O2∧b.is p∧∀ b' p',b'.is p'→BG (JP ms n b') (O1++p'::O2)
 | [],O,n,b,_,h=>by simp[zo] at h
 | (k,m)::r,O,n,b,hM,h=>by
  obtain⟨p,O',rfl,hp,hr⟩:=hM
  simp only[zo] at h
  split at h
  ·rename_i e
   simp only[Option.some.injEq] at h
   subst h
   refine⟨p,[],O',rfl,hp,fun b' p' hb'=>?_⟩
   simp only[JP,e,if_true]
   exact⟨p',O',rfl,hb',hr⟩
  ·rename_i e
   obtain⟨q,O1,O2,rfl,hq,hs⟩:=qM hr h
   refine⟨q,p::O1,O2,rfl,hq,fun b' p' hb'=>?_⟩
   simp only[JP,e,if_false]
   exact⟨p,O1++p'::O2,rfl,hp,hs b' p' hb'⟩
theorem MB.omap {b:MB} {p:Nat × Obj} (h:b.is p):OMap b.kd (.map (some b.r)) b.m [p]:=by
 obtain⟨es,clock,rfl,he⟩:=h
 exact⟨b.r,es,clock,rfl,rfl,he⟩
theorem wb {t et:TypeId} {k:IntKind} (h:zx P t=some (et,some k)):∃ kt,P.underlying t=some (.map kt et)∧P.underlying kt=some (.int k):=by
 unfold zx at h
 split at h
 ·rename_i kt et' hu
  simp only[Option.some.injEq,Prod.mk.injEq] at h
  obtain⟨rfl,h⟩:=h
  split at h
  ·rename_i k' hk
   simp only[Option.some.injEq] at h
   subst h
   exact⟨kt,hu,hk⟩
  ·cases h
 ·cases h
theorem JG {t:TypeId} {v:Value} (h:Rr P t=some v):∀ w,(zeroValue t).run P w=.ok v w:=by
 unfold Rr at h
 simp only[Option.bind_eq_some_iff] at h
 obtain⟨i,hi,hz⟩:=h
 intro w
 simp[zeroValue,typeInfo,hi,hz]
theorem By {ops:Array Oper} {o:Oper} {x:CS} {t:TypeId} {e:Ef} (hop:o.op=.makeMap t none) (hg:aI (bo ops) x.s o=.go []) (hd:∀ d,o.dst=some d→d < x.s.sz)
  (he:yl P x t=some e) {hi:Nat} {F:Own} {H:Heap} {a:Act} {w:World} {K:CS→Prop} {Q:Exit→Act→World→Prop} (hC:CC hi F x H a w) (hr:e.run hi o.dst x K) :
  wp1 P ops Q o (fun a' w'=>∃ x',CC hi F x' H a' w'∧K x') a w:=by
 obtain⟨⟨O,hM,hc⟩,hf,hn⟩:=hC
 unfold yl at he
 simp only[Option.bind_eq_some_iff] at he
 obtain⟨⟨et,k⟩,hk,he⟩:=he
 simp only[Option.some.injEq] at he
 subst he
 obtain⟨_,hr⟩:=hr
 obtain⟨_,hk⟩:=hr w.heap.size
 have hrun:(execOp a.eval o).run P w=.ok (.value (.map (some w.heap.size))) { w with heap:=w.heap.push (.map #[] 0) }:=by
  simp only[execOp,hop,Instr.makeMap,Sem.run_bind,Sem.run_pure,Result.andThen_ok,run_newObj,Option.map_none]
 refine nr hc hg hrun ⟨_,?_,hk⟩
 obtain⟨L,hB,hmo⟩:=hc.mm
 refine vJ (sv:=.s (.at (.mp x.s.next w.heap.size))) (L':=L) (O':=(w.heap.size,.map #[] 0)::O) (h':={ x.h with ms:=(x.s.next,⟨w.heap.size,k.getD .i64,[]⟩)::x.h.ms }) (nx:=x.s.next + 1) hc hd rfl (gq trivial) (.inr rfl) rfl hc.ok.2 hB ?_ ?_ ?_ (by omega)
 ·exact⟨_,O,rfl,⟨#[],0,rfl,rfl⟩,hM⟩
 ·exact (hmo.push (.map #[] 0)).perm (List.perm_middle.symm)
 ·intro n h;exact hf n (by omega)
theorem HL {ops:Array Oper} {o:Oper} {x:CS} {c:Call} {e:Ef} (hop:o.op=.call c) (hcal:c.callee=.builtin .len) (hg:aI (bo ops) x.s o=.go []) (hd:∀ d,o.dst=some d→d < x.s.sz)
  (he:Px P x c.argTypes c.args.toList=some e) {hi:Nat} {F:Own} {H:Heap} {a:Act} {w:World} {K:CS→Prop} {Q:Exit→Act→World→Prop} (hC:CC hi F x H a w) (hr:e.run hi o.dst x K) :
  wp1 P ops Q o (fun a' w'=>∃ x',CC hi F x' H a' w'∧K x') a w:=by
 obtain⟨⟨O,hM,hc⟩,hf,hn⟩:=hC
 unfold Px at he
 split at he
 ·rename_i t n r cs hts hops
  split at he
  ·rename_i kt et b hu hb
   simp only[Option.some.injEq] at he
   subst he
   obtain⟨⟨hrb,hcs⟩,_,hk⟩:=hr
   have hrb:r=b.r:=hrb
   subst hrb
   obtain⟨p,O1,O2,rfl,hp,_⟩:=qM hM hb
   obtain⟨es,clock,rfl,hes⟩:=hp
   obtain⟨L,hB,hmo⟩:=hc.mm
   have hrow:=(hmo.own (b.r,.map es clock) (by simp)).1
   have hts':c.argTypes=#[t]:=by apply Array.ext';simpa using hts
   have hg':(getObj b.r).run P w=.ok (.map es clock) w:=by simp[getObj,Sem.run,hrow]
   have hlen:es.size=b.m.length:=by
    have:=congrArg List.length hes
    simpa using this
   refine nr hc hg (v:=goInt b.m.length) (w':=w) (yw (ops:=ops) hop hcal (by simp) (by simp) (vs:=[(At.mp n b.r).den]) ?_ ?_) ⟨_,?_,hk⟩
   ·have:=eZ hc hops hcs trivial
    simpa using this
   ·rw[hts']
    simp only[builtin,Sem.run_bind]
    have:(Builtin.len_ #[t] o.type #[(At.mp n b.r).den]).run P w=.ok (goInt b.m.length) w:=by
     simp only[Builtin.len_,At.den]
     simp[run_underlying hu,hg',hlen]
    rw[this];rfl
   ·exact zW (sv:=.s (.at (.k (goInt b.m.length)))) hM hc hd rfl (EZ _) hf hn
  ·cases he
 ·cases he
theorem Ed {ops:Array Oper} {o:Oper} {x:CS} {t:TypeId} {m k:Operand} {ok:Bool} {e:Ef} (hop:o.op=.lookup t m k ok) (hg:aI (bo ops) x.s o=.go []) (hd:∀ d,o.dst=some d→d < x.s.sz)
  (he:Ee P x t m k ok=some e) {hi:Nat} {F:Own} {H:Heap} {a:Act} {w:World} {K:CS→Prop} {Q:Exit→Act→World→Prop} (hC:CC hi F x H a w) (hr:e.run hi o.dst x K) :
  wp1 P ops Q o (fun a' w'=>∃ x',CC hi F x' H a' w'∧K x') a w:=by
 obtain⟨⟨O,hM,hc⟩,hf,hn⟩:=hC
 unfold Ee at he
 simp only[Option.bind_eq_some_iff] at he
 obtain⟨⟨et,kk⟩,hkk,z,hz,he⟩:=he
 simp only at he
 split at he
 ·rename_i kd0
  obtain⟨kt,hu,hkt⟩:=wb hkk
  split at he
  ·rename_i n r cm ka ck hm hk
   split at he
   ·rename_i kd i b hlit hb
    split at he
    ·rename_i hkd
     subst hkd
     split at he
     ·rename_i hone
      simp only[Option.some.injEq] at he
      subst he
      obtain⟨⟨hrb,hcs⟩,_,hK⟩:=hr
      have hrb:r=b.r:=hrb
      subst hrb
      have hcs:=AllCk.append.1 hcs
      obtain⟨p,O1,O2,rfl,hp,_⟩:=qM hM hb
      obtain⟨L,hB,hmo⟩:=hc.mm
      have em:a.eval m=.map (some b.r):=aP hc hm hcs.1 trivial
      have ek:a.eval k=.int b.kd i:=(aP hc hk hcs.2 trivial).trans (Eg hlit)
      have hl:=lX hu hkt (JG hz) (MB.omap hp) (O:=L++(O1++p::O2)) (by simp) (H:=H) (w:=w) (F:=F) (by simpa using hmo) i ok
      have hrun:(execOp a.eval o).run P w=.ok (.value (if ok then .tuple #[(bH b.m i).getD z,.bool (bH b.m i).isSome] else (bH b.m i).getD z)) w:=by
       rw[← hl]
       simp only[execOp,hop,PrimOp.sem,em,ek]
      refine nr hc hg hrun ⟨_,?_,hK⟩
      cases ok with
      | true =>
       refine zW (sv:=.tup [.at (.v ((bH b.m i).getD z)),.at (.k (.bool (bH b.m i).isSome))]) hM hc hd ?_ ?_ hf hn
       ·simp[SV.rel,S1.den,At.den]
       ·intro y hy
        simp only[List.mem_cons,List.not_mem_nil,or_false] at hy
        rcases hy with rfl | rfl
        ·exact gq hone
        ·exact EZ _
      | false =>
       exact zW (sv:=.s (.at (.v ((bH b.m i).getD z)))) hM hc hd (fV rfl) (gq hone) hf hn
     ·cases he
    ·cases he
   ·cases he
  ·cases he
 ·cases he
theorem s9 {ops:Array Oper} {o:Oper} {x:CS} {t:TypeId} {m k v:Operand} {e:Ef} (hop:o.op=.mapUpdate t m k v∨o.op=.insert t m k v) (hg:aI (bo ops) x.s o=.go []) (hdst:o.dst=none)
  (he:yy P x t m k v=some e) {hi:Nat} {F:Own} {H:Heap} {a:Act} {w:World} {K:CS→Prop} {Q:Exit→Act→World→Prop} (hC:CC hi F x H a w) (hr:e.run hi o.dst x K) :
  wp1 P ops Q o (fun a' w'=>∃ x',CC hi F x' H a' w'∧K x') a w:=by
 obtain⟨⟨O,hM,hc⟩,hf,hn⟩:=hC
 unfold yy at he
 simp only[Option.bind_eq_some_iff] at he
 obtain⟨⟨et,kk⟩,hkk,he⟩:=he
 simp only at he
 split at he
 ·rename_i kd0
  obtain⟨kt,hu,hkt⟩:=wb hkk
  split at he
  ·rename_i n r cm ka va ck hm hk
   split at he
   ·rename_i kd i u b hlit hlu hb
    split at he
    ·rename_i hkd
     simp only[Bool.and_eq_true,decide_eq_true_eq] at hkd
     obtain⟨hkd,hone⟩:=hkd
     subst hkd
     simp only[Option.some.injEq] at he
     subst he
     obtain⟨⟨hrb,hcs⟩,_,hK⟩:=hr
     have hrb:r=b.r:=hrb
     subst hrb
     have hcs:=AllCk.append.1 hcs
     obtain⟨p,O1,O2,rfl,hp,hset⟩:=qM hM hb
     obtain⟨L,hB,hmo⟩:=hc.mm
     have em:a.eval m=.map (some b.r):=aP hc hm hcs.1 trivial
     have ekv:=eZ hc hk hcs.2 trivial
     simp only[List.map_cons,List.map_nil,List.cons.injEq,and_true] at ekv
     have ek:a.eval k=.int b.kd i:=ekv.1.trans (Eg hlit)
     have ev:a.eval v=u:=ekv.2.trans (Eg hlu)
     have hperm:Models w H ([p]++(L++(O1++O2)++F)):=hmo.perm (by
      simp only[List.append_assoc,List.cons_append,List.nil_append]
      exact (List.perm_append_left_iff (L++O1)).2 (List.Perm.refl (p::(O2++F))) |> fun h=>by
       simp only[List.append_assoc] at h ⊢
       rw[← List.append_assoc,← List.append_assoc L O1]
       exact List.perm_middle)
     obtain⟨v',w',H',O',h1,⟨rfl,h3⟩,h4,h5⟩:=s8 hu hkt (MB.omap hp) H i u w _ hperm
     have hex:(execOp a.eval o).run P w=.ok .skip w':=by
      have hs:((PrimOp.mapUpdate t).sem [.map (some b.r),.int b.kd i,u]).run P w=((Instr.mapUpdate t (.map (some b.r)) (.int b.kd i) u).run P w).andThen fun _ w'=>.ok (.value (.bool false)) w':=by
       simp only[PrimOp.sem,Sem.run_bind,Sem.run_pure]
      rw[hs] at h1
      cases hmu:(Instr.mapUpdate t (.map (some b.r)) (.int b.kd i) u).run P w with
      | ok y w1 =>
       rw[hmu] at h1
       simp only[Result.andThen_ok,Result.ok.injEq] at h1
       obtain⟨_,rfl⟩:=h1
       rcases hop with hop | hop
       ·simp only[execOp,hop,Sem.run_bind,Sem.run_pure,em,ek,ev,hmu,Result.andThen_ok]
       ·simp only[execOp,hop,Sem.run_bind,Sem.run_pure,em,ek,ev,hmu,Result.andThen_ok]
      | halt y w1=>rw[hmu] at h1;simp at h1
     refine OD hc hg hex ⟨_,?_,hK⟩
     rw[hdst]
     obtain⟨r',es',clock',hv',rfl,hes'⟩:=h3
     simp only[Value.map.injEq,Option.some.injEq] at hv'
     subst hv'
     refine vJ (dst:=none) (v:=undef) (sv:=.s (.at (.k undef))) (L':=L) (O':=O1++(b.r,.map es' clock')::O2) (nx:=x.s.next) (h':={ x.h with ms:=JP x.h.ms n { b with m:=vR b.m i u } }) hc (by simp) rfl (EZ _) (.inl rfl) rfl hc.ok.2 hB ?_ ?_ hf hn
     ·exact hset _ _ ⟨es',clock',rfl,hes'⟩
     ·refine h5.perm ?_
      simp only[List.append_assoc,List.cons_append,List.nil_append]
      rw[← List.append_assoc,← List.append_assoc L O1]
      exact List.perm_middle.symm
    ·cases he
   ·cases he
  ·cases he
 ·cases he
theorem wz:∀ {l:List At} {bs:List UInt8},sX l=some bs→l.map At.den=bs.map fun b=>Value.int .u8 (b.toNat:Int)
 | [],bs,h=>by simp only[sX,Option.some.injEq] at h;subst h;rfl
 | a::r,bs,h=>by
  unfold sX at h
  split at h
  ·rename_i e;cases e
  ·rename_i n r' e
   simp only[List.cons.injEq] at e
   obtain⟨rfl,rfl⟩:=e
   split at h
   ·rename_i hn
    simp only[Option.map_eq_some_iff] at h
    obtain⟨bs',hb,rfl⟩:=h
    rw[List.map_cons,List.map_cons,wz hb]
    congr 1
    simp only[At.den]
    congr 1
    have:n.toNat < 256:=by omega
    simp[Nat.mod_eq_of_lt this]
    omega
   ·cases h
  ·cases h
theorem Ii {ops:Array Oper} {o:Oper} {x:CS} {ta tb:TypeId} {y:Operand} {e:Ef} (hop:o.op=.convert ta tb y) (hg:aI (bo ops) x.s o=.go []) (hd:∀ d,o.dst=some d→d < x.s.sz)
  (he:Ql P x ta tb y=some e) {hi:Nat} {F:Own} {H:Heap} {a:Act} {w:World} {K:CS→Prop} {Q:Exit→Act→World→Prop} (hC:CC hi F x H a w) (hr:e.run hi o.dst x K) :
  wp1 P ops Q o (fun a' w'=>∃ x',CC hi F x' H a' w'∧K x') a w:=by
 obtain⟨⟨O,hM,hc⟩,hf,hn⟩:=hC
 unfold Ql at he
 split at he
 ·rename_i el ya cs hs hdt hy
  split at he
  ·rename_i hel
   simp only[Option.bind_eq_some_iff] at he
   obtain⟨⟨l,m,ck,rd⟩,hsrc,bs,hbs,he⟩:=he
   simp only[Option.some.injEq] at he
   subst he
   obtain⟨hcs,_,hk⟩:=hr
   have hcs:=AllCk.append.1 hcs
   have ey:=aP hc hy hcs.2 trivial
   have hbd:=wz hbs
   have hrun:(execOp a.eval o).run P w=.ok (.value (.string ⟨bs.toArray⟩)) w:=by
    have hcv:(Go.convert ta tb ya.den).run P w=.ok (.string ⟨bs.toArray⟩) w:=by
     unfold yD at hsrc
     split at hsrc
     ·rename_i n r off len cap
      split at hsrc
      ·rename_i b hb
       simp only[] at hsrc
       split at hsrc
       ·rename_i hcond
        simp only[Bool.and_eq_true,beq_iff_eq] at hcond
        simp only[Option.some.injEq,Prod.mk.injEq] at hsrc
        obtain⟨rfl,rfl,rfl,rfl⟩:=hsrc
        have hr:r=b.r:=hcs.1
        subst hr
        obtain⟨h1,_⟩:=EN hc hb hcond.1 hcond.2
        have hlen:bs.length=len:=by
         have:=congrArg List.length hbd
         rw[List.length_map,List.length_map,hcond.1,Nat.mul_one] at this
         exact this.symm
        subst hlen
        refine run_convert_bytes_back w ta tb el ⟨b.r,off,none⟩ cap bs hs hel hdt ?_
        intro j hj
        refine h1 j _ ?_
        rw[hbd,List.getElem?_map,List.getElem?_eq_getElem hj]
        rfl
       ·cases hsrc
      ·cases hsrc
     ·rename_i va vc
      simp only[Option.some.injEq,Prod.mk.injEq] at hsrc
      obtain⟨rfl,rfl,rfl,rfl⟩:=hsrc
      simp only[sX,Option.some.injEq] at hbs
      subst hbs
      cases va with
      | none=>exact run_convert_bytes_nil w ta el hs hel 0 vc tb hdt
      | some ad=>exact run_convert_bytes_back w ta tb el ad vc [] hs hel hdt (by simp)
     ·rename_i va vc
      simp only[Option.some.injEq,Prod.mk.injEq] at hsrc
      obtain⟨rfl,rfl,rfl,rfl⟩:=hsrc
      simp only[sX,Option.some.injEq] at hbs
      subst hbs
      cases va with
      | none=>exact run_convert_bytes_nil w ta el hs hel 0 vc tb hdt
      | some ad=>exact run_convert_bytes_back w ta tb el ad vc [] hs hel hdt (by simp)
     ·cases hsrc
    simp only[execOp,hop,Sem.run_bind,ey,hcv,Result.andThen_ok,Sem.run_pure]
   refine nr hc hg hrun ⟨_,?_,hk⟩
   exact yu (sv:=.s (.at (.k (.string ⟨bs.toArray⟩)))) hM hc hd rfl (EZ _) hf hn
  ·cases he
 ·cases he
variable {P:Program}
theorem OE {ops:Array Oper} {Q:Exit→Act→World→Prop} {o o':Oper} {K:Act→World→Prop} {a:Act} {w:World} (hg:o.guard=o'.guard) (hd:o.dst=o'.dst) (he:execOp a.eval o=execOp a.eval o')
  (h:wp1 P ops Q o' K a w):wp1 P ops Q o K a w:=by
 have hw:Region.wanted o (yielded ops a.tmps)=Region.wanted o' (yielded ops a.tmps):=by unfold Region.wanted;rw[hg]
 unfold wp1 at h ⊢
 rw[hw]
 have h1:o.wp P a w K Q=o'.wp P a w K Q:=by
  unfold Oper.wp Oper.upon
  rw[he,hd]
 have h2:o.asks P a w=o'.asks P a w:=by unfold Oper.asks;rw[he]
 rw[h1,h2,hd]
 exact h
theorem Kp {c:Cfg} {ops:Array Oper} {o:Oper} {x:CS} {name:Nat} {t:TypeId} {l k:Operand} {e:Ef} (hop:o.op=.makeSlice t l k)
  (he:Vd c ops name o x t l k=some e) {hi:Nat} {F:Own} {H:Heap} (hgl:GlobOk c.glob H) {a:Act} {w:World} {K:CS→Prop} {Q:Exit→Act→World→Prop} (hC:CC hi F x H a w) (hr:e.run hi o.dst x K) :
  wp1 c.P ops Q o (fun a' w'=>∃ x',CC hi F x' H a' w'∧K x') a w:=by
 unfold Vd at he
 split at he
 ·rename_i lv cl kv ck hl hk
  simp only[Option.bind_eq_some_iff] at he
  obtain⟨⟨y,fp⟩,hy,he⟩:=he
  have hc:=hC.1.choose_spec.2
  have ecl:=tN hl
  have eck:=tN hk
  subst ecl;subst eck
  have el:a.eval l=lv:=aP hc hl trivial trivial
  have ek:a.eval k=kv:=aP hc hk trivial trivial
  have:=zr (o:={ o with op:=.makeSlice t (.const lv) (.const kv) }) (fun _ h=>by cases h) hy he hgl (Q:=Q) hC hr
  refine OE (o':={ o with op:=.makeSlice t (.const lv) (.const kv) }) rfl rfl ?_ this
  simp only[execOp,hop,el,ek]
  rfl
 ·cases he
theorem qH {x x':CS} {size:Nat} {a:At} {l:List At} {m:Nat} {ck:List Ck} {rd:List Nat} (h:yD x size a=some (l,m,ck,rd)) (hm:∀ n ∈ rd,x'.s.mem n=x.s.mem n):yD x' size a=some (l,m,ck,rd):=by
 unfold yD at h ⊢
 split at h
 ·rename_i n r off len cap
  split at h
  ·rename_i b hb
   have h0:=h
   simp only[] at h
   split at h
   ·simp only[Option.some.injEq,Prod.mk.injEq] at h
    obtain⟨rfl,rfl,rfl,rfl⟩:=h
    simp only
    rw[hm n (by simp),hb]
    exact h0
   ·cases h
  ·cases h
 ·exact h
 ·exact h
 ·cases h
theorem Ly {x x':CS} {size:Nat} {t:TypeId} {a:At} {l:List At} {m:Nat} {ck:List Ck} {rd:List Nat} (h:TS P x size t a=some (l,m,ck,rd)) (hm:∀ n ∈ rd,x'.s.mem n=x.s.mem n):TS P x' size t a=some (l,m,ck,rd):=by
 unfold TS at h ⊢
 split at h
 ·exact qH h hm
 ·exact h
 ·cases h
theorem Ai {x:CS} {e:TypeId} {size:Nat} {sa:At} {news:List At} {m:Nat} {ck:List Ck} {rd:List Nat} {f:Ef} (h:lr P x e size sa news m ck rd=some f) :
  f.lo.isSome=true∧(∀ k ∈ rd,k ∈ f.rd)∧(m ≠ 0→∀ n r off len cap,sa=.sl n r off len cap→n ∈ f.rd):=by
 unfold lr at h
 split at h
 ·rename_i hm0
  split at h
  ·split at h
   ·simp only[Option.some.injEq] at h;subst h;exact⟨rfl,fun _ h=>h,fun h=>absurd hm0 h⟩
   ·cases h
  ·cases h
 ·split at h
  ·rename_i n r off len cap
   simp only[] at h
   split at h
   ·cases h
   ·split at h
    ·cases h
    ·split at h
     ·cases h
     ·have fin:∀ {f:Ef} {cs:List Ck} {G:G Upd} {wr:List Nat},some (Ef.mk cs G (n::rd) wr (some x.s.next))=some f→f.lo.isSome=true∧(∀ k ∈ rd,k ∈ f.rd)∧(m ≠ 0→∀ n' r' off' len' cap',At.sl n r off len cap=.sl n' r' off' len' cap'→n' ∈ f.rd):=by
       intro f cs G wr h
       simp only[Option.some.injEq] at h
       subst h
       refine⟨rfl,fun k hk=>List.mem_cons_of_mem _ hk,fun _ n' r' off' len' cap' he=>?_⟩
       simp only[At.sl.injEq] at he
       rw[← he.1];simp
      split at h
      ·split at h
       ·split at h
        ·exact fin h
        ·cases h
       ·exact fin h
      ·split at h
       ·split at h
        ·split at h
         ·exact fin h
         ·cases h
        ·cases h
       ·split at h
        ·exact fin h
        ·cases h
  ·rename_i hns
   split at h
   ·split at h
    ·cases h
    ·simp only[Option.some.injEq] at h
     subst h
     exact⟨rfl,fun _ h=>h,fun _ n r off len cap he=>absurd he (hns n r off len cap)⟩
   ·cases h
theorem EQ {x x':CS} {e:TypeId} {size:Nat} {sa:At} {news:List At} {m:Nat} {ck:List Ck} {rd:List Nat} {f:Ef} (h:lr P x e size sa news m ck rd=some f)
  (hn:x'.s.next=x.s.next) (hh:x'.h=x.h) (hm:∀ n ∈ f.rd,x'.s.mem n=x.s.mem n):lr P x' e size sa news m ck rd=some f:=by
 obtain⟨_,_,hs⟩:=Ai h
 have hg:∀ need known old,Kw x' e size need known old=Kw x e size need known old:=by
  intro need known old
  unfold Kw
  rw[hn,hh]
 by_cases hm0:m=0
 ·unfold lr at h ⊢
  rw[if_pos hm0] at h ⊢
  rw[hn,hh];exact h
 ·unfold lr at h ⊢
  rw[if_neg hm0] at h ⊢
  cases sa with
  | sl n r off len cap =>
   have hmem:=hm n (hs hm0 n r off len cap rfl)
   simp only[hmem,hn,hh,hg] at h ⊢
   exact h
  | _=>simp only[hn,hh,hg] at h ⊢;exact h
theorem DT {c:Call}:(Op.call c).operands.toList=(match c.callee with | .value f=>[f] | .invoke r _=>[r] | .builtin _=>[])++c.args.toList:=by
 simp only[Op.operands,Call.operands]
 cases c.callee <;> simp
theorem Ia {c:Cfg} {call:mi} {ops:Array Oper} {name:Nat} {o:Oper} {x x':CS} {e:Ef} (hl:(QW c.P o.op).isLight=false) (h:ji c call ops name o x (QW c.P o.op)=some e)
  (hz:x'.s.sz=x.s.sz) (ht:∀ t ∈ o.looksAt ops,x'.s.tmps t=x.s.tmps t) (hm:∀ n ∈ e.rd,x'.s.mem n=x.s.mem n) (hh:e.lo.isSome=true→x'.s.next=x.s.next∧x'.h=x.h) :
  ji c call ops name o x' (QW c.P o.op)=some e:=by
 have hx:∀ y ∈ o.op.operands.toList,Ea x.s x'.s y:=by
  rintro y hy t rfl
  refine ht t ?_
  simp only[Oper.looksAt,List.mem_append]
  left
  exact List.mem_filterMap.2 ⟨_,hy,rfl⟩
 unfold QW at h hl ⊢
 split at h
 ·rename_i cl hop
  rw[hop,DT] at hx
  have hargs:∀ y ∈ cl.args.toList,Ea x.s x'.s y:=fun y hy=>hx y (List.mem_append_right _ hy)
  split at h
  ·rename_i f hf
   rw[hf] at hx
   exact KJ (P:=c.P) h (hx f (by simp)) hargs hm hh
  ·
   simp only[ji] at h ⊢
   unfold ES at h ⊢
   rw[bp hargs]
   split at h
   ·split at h
    ·simp only[Option.bind_eq_some_iff] at h
     obtain⟨size,hsz,h⟩:=h
     split at h
     ·cases h
     ·rename_i hk
      simp only[Option.bind_eq_some_iff] at h
      obtain⟨⟨news,m,ck,rd⟩,hs,h⟩:=h
      simp only[] at h
      split at h
      ·rename_i hfit
       obtain⟨h1,h2,_⟩:=Ai h
       obtain⟨e1,e2⟩:=hh h1
       have hs':=Ly hs fun n hn=>hm n (h2 n hn)
       have h':=EQ h e1 e2 hm
       simp only[hsz,Option.bind_some,if_neg hk,hs',hfit,if_true]
       exact h'
      ·cases h
    ·cases h
   ·cases h
  ·
   simp only[ji] at h ⊢
   split at h
   ·rename_i hdst
    simp only[hdst,if_true]
    unfold Js at h ⊢
    rw[bp hargs]
    split at h
    ·split at h
     ·simp only[Option.bind_eq_some_iff] at h
      obtain⟨size,hsz,z,hz',h⟩:=h
      split at h
      ·cases h
      ·rename_i hk
       simp only[hsz,hz',Option.bind_some,if_neg hk]
       split at h
       ·rename_i n r off len cap _
        split at h
        ·cases h
        ·rename_i b hb
         split at h
         ·rename_i hfit
          simp only[Option.some.injEq] at h
          subst h
          rw[hm n (by simp),hb]
          simp only[hfit,if_true]
         ·cases h
       ·split at h
        ·rename_i hem
         simp only[hem,if_true]
         exact h
        ·cases h
     ·cases h
    ·cases h
   ·cases h
  ·
   split at h
   ·rename_i hmt
    rw[if_pos hmt]
    simp only[ji] at h ⊢
    unfold Px at h ⊢
    rw[bp hargs]
    split at h
    ·split at h
     ·rename_i kt et b hu hb
      simp only[Option.some.injEq] at h
      subst h
      obtain⟨e1,e2⟩:=hh rfl
      simp only[hu,e2,hb,e1]
     ·cases h
    ·cases h
   ·cases h
  ·
   simp only[ji] at h ⊢
   unfold Qk at h ⊢
   rw[bp hargs]
   split at h
   ·split at h
    ·simp only[Option.bind_eq_some_iff] at h
     obtain⟨size,hsz,h⟩:=h
     split at h
     ·cases h
     ·rename_i hk
      simp only[Option.bind_eq_some_iff] at h
      obtain⟨⟨news,m,ck,rd⟩,hs,h⟩:=h
      simp only[] at h
      split at h
      ·rename_i n r off len cap _
       split at h
       ·cases h
       ·rename_i b hb
        split at h
        ·cases h
        ·rename_i hold
         simp only[Option.some.injEq] at h
         subst h
         have hs':=qH hs fun n hn=>hm n (List.mem_cons_of_mem _ hn)
         simp only[hsz,Option.bind_some,if_neg hk,hs']
         rw[hm n (by simp),hb]
         simp only[if_neg hold]
      ·split at h
       ·rename_i hem
        simp only[Option.some.injEq] at h
        subst h
        have hs':=qH hs fun n hn=>hm n hn
        simp only[hsz,Option.bind_some,if_neg hk,hs',hem,if_true]
       ·cases h
    ·cases h
   ·cases h
  ·cases h
 ·
  simp only[ji] at h ⊢
  unfold yl at h ⊢
  simp only[Option.bind_eq_some_iff] at h
  obtain⟨⟨et,k⟩,hk,h⟩:=h
  simp only[Option.some.injEq] at h
  subst h
  obtain⟨e1,e2⟩:=hh rfl
  simp only[hk,Option.bind_some,e1,e2]
 ·rename_i t m k ok hop
  rw[hop] at hx
  simp only[ji] at h ⊢
  unfold Ee at h ⊢
  rw[aR (hx m (by simp[Op.operands])),aR (hx k (by simp[Op.operands]))]
  have h0:=h
  simp only[Option.bind_eq_some_iff] at h
  obtain⟨⟨et,kk⟩,hkk,z,hz',h⟩:=h
  have hlo:e.lo.isSome=true:=by
   split at h
   ·split at h
    ·split at h
     ·split at h
      ·split at h
       ·simp only[Option.some.injEq] at h;subst h;rfl
       ·cases h
      ·cases h
     ·cases h
    ·cases h
   ·cases h
  obtain⟨e1,e2⟩:=hh hlo
  rw[e1,e2];exact h0
 ·rename_i t m k v hop
  rw[hop] at hx
  simp only[ji] at h ⊢
  split at h
  ·rename_i hdst
   simp only[hdst,if_true]
   unfold yy at h ⊢
   rw[aR (hx m (by simp[Op.operands])),bp (xs:=[k,v]) (fun y hy=>hx y (by simp only[List.mem_cons,List.not_mem_nil,or_false] at hy;rcases hy with rfl | rfl <;> simp[Op.operands]))]
   have h0:=h
   simp only[Option.bind_eq_some_iff] at h
   obtain⟨⟨et,kk⟩,hkk,h⟩:=h
   have hlo:e.lo.isSome=true:=by
    split at h
    ·split at h
     ·split at h
      ·split at h
       ·simp only[Option.some.injEq] at h;subst h;rfl
       ·cases h
      ·cases h
     ·cases h
    ·cases h
   obtain⟨e1,e2⟩:=hh hlo
   rw[e1,e2];exact h0
  ·cases h
 ·rename_i t m k v hop
  rw[hop] at hx
  simp only[ji] at h ⊢
  split at h
  ·rename_i hdst
   simp only[hdst,if_true]
   unfold yy at h ⊢
   rw[aR (hx m (by simp[Op.operands])),bp (xs:=[k,v]) (fun y hy=>hx y (by simp only[List.mem_cons,List.not_mem_nil,or_false] at hy;rcases hy with rfl | rfl <;> simp[Op.operands]))]
   have h0:=h
   simp only[Option.bind_eq_some_iff] at h
   obtain⟨⟨et,kk⟩,hkk,h⟩:=h
   have hlo:e.lo.isSome=true:=by
    split at h
    ·split at h
     ·split at h
      ·split at h
       ·simp only[Option.some.injEq] at h;subst h;rfl
       ·cases h
      ·cases h
     ·cases h
    ·cases h
   obtain⟨e1,e2⟩:=hh hlo
   rw[e1,e2];exact h0
  ·cases h
 ·
  rename_i t l k hop
  have hx':=hx
  rw[hop] at hx
  simp only[ji] at h ⊢
  unfold Vd at h ⊢
  rw[aR (hx l (by simp[Op.operands])),aR (hx k (by simp[Op.operands]))]
  split at h
  ·rename_i lv cl kv ck h1 h2
   simp only[Option.bind_eq_some_iff] at h
   obtain⟨⟨y,fp⟩,hy,h⟩:=h
   have hrd:=(ME h).2
   have hy':=D9 (s':=x'.s) hy hz (fun t ht'=>ht t (by
    simp only[Oper.looksAt,List.mem_append] at ht' ⊢
    rcases ht' with ht' | ht'
    ·simp[Op.operands] at ht'
    ·exact .inr ht')) (fun n hn=>hm n (by rw[hrd];exact hn))
   simp only[hy',Option.bind_some]
   exact h
  ·cases h
 ·
  rename_i ta tb y hop
  rw[hop] at hx
  split at h
  ·cases h
  ·rename_i hnl
   simp only[if_neg hnl]
   simp only[ji] at h ⊢
   unfold Ql at h ⊢
   rw[aR (hx y (by simp[Op.operands]))]
   split at h
   ·split at h
    ·rename_i hel
     simp only[Option.bind_eq_some_iff] at h
     obtain⟨⟨l,m,ck,rd⟩,hs,bs,hb,h⟩:=h
     simp only[Option.some.injEq] at h
     subst h
     have hs':=qH hs fun n hn=>hm n hn
     simp only[hel,hs',Option.bind_some,hb]
    ·cases h
   ·cases h
 ·cases h
theorem Gn {c:Cfg} (hokf:∀ f,c.ok f=true→mc c.P f) {call:mi} {H:Heap} (hcall:qD c.P c.ok H call) (hgl:GlobOk c.glob H) {ops:Array Oper} {name:Nat} {o:Oper} {x:CS} {e:Ef}
  (hg:aI (bo ops) x.s o=.go []) (hd:∀ d,o.dst=some d→d < x.s.sz) (he:ji c call ops name o x (QW c.P o.op)=some e)
  {hi:Nat} {F:Own} {a:Act} {w:World} {K:CS→Prop} {Q:Exit→Act→World→Prop} (hC:CC hi F x H a w) (hr:e.run hi o.dst x K):wp1 c.P ops Q o (fun a' w'=>∃ x',CC hi F x' H a' w'∧K x') a w:=by
 unfold QW at he
 split at he
 ·rename_i cl hop
  split at he
  ·rename_i f hf
   exact Ip hokf hcall hop hf hg hd he hC hr
  ·rename_i hf
   exact ER hop hf hg hd he hC hr
  ·rename_i hf
   simp only[ji] at he
   split at he
   ·rename_i hdst
    exact GF hop hf hg (by simpa using hdst) he hC hr
   ·cases he
  ·rename_i hf
   split at he
   ·exact HL hop hf hg hd he hC hr
   ·cases he
  ·rename_i hf
   exact Ih hop hf hg hd he hC hr
  ·cases he
 ·rename_i t hop
  exact By hop hg hd he hC hr
 ·rename_i t m k ok hop
  exact Ed hop hg hd he hC hr
 ·rename_i t m k v hop
  simp only[ji] at he
  split at he
  ·rename_i hdst
   exact s9 (.inl hop) hg (by simpa using hdst) he hC hr
  ·cases he
 ·rename_i t m k v hop
  simp only[ji] at he
  split at he
  ·rename_i hdst
   exact s9 (.inr hop) hg (by simpa using hdst) he hC hr
  ·cases he
 ·rename_i t l k hop
  exact Kp hop he hgl hC hr
 ·rename_i ta tb y hop
  split at he
  ·cases he
  ·exact Ii hop hg hd he hC hr
 ·cases he
theorem VQ {c:Cfg} (hokf:∀ f,c.ok f=true→mc c.P f) {H:Heap} (hgl:GlobOk c.glob H) (call:mi) (hcall:qD c.P c.ok H call):NOk c.P (cN c call) H:=by
 constructor
 ·intro ops base i o x x' e h hz ht hm hh
  unfold cN at h ⊢
  simp only[] at h ⊢
  split at h
  ·rename_i hl
   rw[if_pos hl]
   simp only[Option.bind_eq_some_iff] at h
   obtain⟨⟨y,fp⟩,hy,he⟩:=h
   have hrd:=(ME he).2
   have:=D9 (s':=x'.s) hy hz ht (fun n hn=>hm n (by rw[hrd];exact hn))
   simp only[this,Option.bind_some]
   exact he
  ·rename_i hl
   rw[if_neg hl]
   have hd:xZ x'.s o.dst=xZ x.s o.dst:=by unfold xZ;rw[hz]
   have hg:aI (bo ops) x'.s o=aI (bo ops) x.s o:=by
    refine tV fun j want t h1 h2=>ht t ?_
    simp only[Oper.looksAt,h1,List.mem_append]
    right
    unfold bo at h2
    simp[h2]
   rw[hd,hg]
   split at h
   ·cases h
   ·rename_i hdo
    rw[if_neg hdo]
    split at h
    ·exact h
    ·exact Ia (by simpa using hl) h hz ht hm hh
    ·cases h
 ·intro ops base tab i o x e ho he F a w K Q hC hr
  simp only at ho he hC hr ⊢
  unfold cN at he
  simp only[] at he
  split at he
  ·simp only[Option.bind_eq_some_iff] at he
   obtain⟨⟨y,fp⟩,hy,he⟩:=he
   exact zr (fun _ h=>by cases h) hy he hgl hC hr
  ·split at he
   ·cases he
   ·rename_i hdo
    have hd:∀ d,o.dst=some d→d < x.s.sz:=by
     intro d hd
     simp only[hd,xZ,Bool.not_eq_true',decide_eq_false_iff_not,Decidable.not_not] at hdo
     exact hdo
    split at he
    ·rename_i hg
     simp only[Option.some.injEq] at he
     subst he
     obtain⟨⟨O,hM,hc⟩,hf,hn⟩:=hC
     obtain⟨_,_,hk⟩:=hr
     unfold wp1
     rw[if_neg (by simp[Ce hc hg])]
     exact⟨_,yu (sv:=.s (.at (.k undef))) hM hc hd rfl (EZ _) hf hn,hk⟩
    ·rename_i hg
     exact Gn hokf hcall hgl hg hd he hC hr
    ·cases he
end Go.Sx
namespace Go.Sx
open Go Go.ChangeShapes Go.WideShapes
variable {P:Program}
theorem JW {H:Heap} {g:Nat} {cs:List Value} (h:∀ i v,cs[i]?=some v→H.cell? ⟨g,i,none⟩=some v) {off m:Nat} (hle:off + m≤cs.length):H.read (.pointer (some ⟨g,off,none⟩)) m=some ((cs.drop off).take m):=by
 simp only[Heap.read]
 have key:∀ (n i:Nat),i + n=m→(List.range' i n).mapM (fun i=>H.cell? ((⟨g,off,none⟩:Addr).add i))=some (((cs.drop off).drop i).take n):=by
  intro n
  induction n with
  | zero=>intro i _;simp
  | succ n ih =>
   intro i hi
   have hlt:off + i < cs.length:=by omega
   have hc:H.cell? ((⟨g,off,none⟩:Addr).add i)=some cs[off + i]:=by
    rw[bK]
    exact h _ _ (List.getElem?_eq_getElem hlt)
   rw[List.range'_succ,List.mapM_cons,hc,ih (i + 1) (by omega)]
   simp only[Option.pure_def,Option.bind_eq_bind,Option.bind_some]
   congr 1
   rw[show (cs.drop off).drop i=cs[off + i]::(cs.drop off).drop (i + 1) by
    rw[List.drop_drop,List.drop_drop,List.drop_eq_getElem_cons hlt];rfl]
   rfl
 rw[List.range_eq_range']
 simpa using key m 0 (by omega)
def isT (r:SV × CS):Bool:=match r.1 with | .s (.at (.k (.bool b)))=>b | _=>false
structure Ran (c:Cfg) (depth loops:Nat) (f:FuncId):Prop where
 h:(U9 c depth loops f [] [] 0 ⟨[],[]⟩).den fun r=>isT r=true
theorem Ran.reckon {c:Cfg} {depth loops:Nat} {f:FuncId} (n N:Nat) (h:∀ k:Nat→Nat,((G.exN n (U9 c depth loops f [] [] 0 ⟨[],[]⟩) ((List.range N).map k)).x,(G.exN n (U9 c depth loops f [] [] 0 ⟨[],[]⟩) ((List.range N).map k)).fine isT) =
  ((G.exN n (U9 c depth loops f [] [] 0 ⟨[],[]⟩) ((List.range N).map k)).y,true)):Ran c depth loops f:=by
 refine⟨G.reckon (p:=isT) (fun _ h=>h) n N _ ?_⟩
 intro k
 have:=h k
 rw[Prod.mk.injEq] at this
 exact this
variable {P:Program}
theorem Le {H:Heap} {n:Nat} {e:TypeId} (he:P.underlying e=some (.int .i64)):∀ {rows:List (List Value)},(∀ r ∈ rows,Wf P H n e r)→∃ l:List Int,rows=l.map fun n=>[.int .i64 n]
 | [],_=>⟨[],rfl⟩
 | r::rs,h=>by
  obtain⟨l,hl⟩:=Le he (rows:=rs) fun x hx=>h x (by simp[hx])
  have:=h r (by simp)
  cases n with
  | zero=>exact this.elim
  | succ n =>
   unfold Wf at this
   rw[he] at this
   obtain⟨x,rfl,_⟩:=this
   exact⟨x::l,by rw[hl];rfl⟩
end Go.Sx
namespace Go.Sx
open Go
def qS1 (s:SS) (x:Operand):Option S1 :=
 match x with
 | .tmp t =>
  match s.tmps t with
  | .s v=>if v.known then some v else none
  | .tup _=>none
  | .opt _ _=>none
 | .const v=>some (vH v)
 | .global _=>none
 | .func _=>none
def qPl (s:SS) (x:Operand):Option Value :=
 match qS1 s x with
 | some (.at a)=>match a with
  | .k v=>some v
  | _=>none
 | _=>none
abbrev QF:=Program→SS→Option SV
def qNo:QF:=fun _ _=>none
def OZ (x:Operand):QF:=fun _ s=>match qS1 s x with | some v=>some (jh (.s v)) | none=>none
def Vp (op:BinOp):IntKind→Int→Int→Option Value :=
 BinOp.casesOn (motive:=fun _=>IntKind→Int→Int→Option Value) op
  (add:=fun k a b=>some (.int k (k.wrap (a + b)))) (sub:=fun k a b=>some (.int k (k.wrap (a - b)))) (mul:=fun k a b=>some (.int k (k.wrap (a * b))))
  (quo:=fun _ _ _=>none) (rem:=fun _ _ _=>none) (and:=fun _ _ _=>none) (or:=fun _ _ _=>none) (xor:=fun _ _ _=>none) (shl:=fun _ _ _=>none) (shr:=fun _ _ _=>none) (andNot:=fun _ _ _=>none)
  (eql:=fun _ a b=>some (.bool (a == b))) (neq:=fun _ a b=>some (.bool (a != b))) (lss:=fun _ a b=>some (.bool (decide (a < b)))) (leq:=fun _ a b=>some (.bool (decide (a≤b))))
  (gtr:=fun _ a b=>some (.bool (decide (a > b)))) (geq:=fun _ a b=>some (.bool (decide (a ≥ b))))
theorem RV {op:BinOp} {k:IntKind} {a b:Int} {v:Value} (h:Vp op k a b=some v):bq op k a b=some v∧op ≠ .shl∧op ≠ .shr∧y6 (.k v)=some v:=by
 cases op <;> simp only[Vp,bq,reduceCtorEq,Option.some.injEq] at h ⊢ <;> subst h <;> exact⟨rfl,by simp,by simp,rfl⟩
def Uf (op:BinOp) (bk:BK) (u v:Value):Option SV :=
 match bk with
 | .int=>match u with
  | .int k a=>match v with
   | .int k' b=>if k=k' then match Vp op k a b with | some r=>some (.s (.at (.k r))) | none=>none else none
   | _=>none
  | _=>none
 | _=>none
def Vq (op:BinOp) (t:TypeId) (x y:Operand) (_:TypeId):QF:=fun P s =>
 match U4 P t with
 | some bk=>match qPl s x with
  | some u=>match qPl s y with
   | some v=>Uf op bk u v
   | none=>none
  | none=>none
 | none=>none
def qOp (op:Op):QF :=
 Op.casesOn (motive:=fun _=>QF) op (move:=OZ) (assign:=OZ) (pick:=fun _ _ _=>qNo) (alloc:=fun _=>qNo) (box:=fun _ _=>qNo) (build:=fun _ _=>qNo) (buildSlice:=fun _ _ _=>qNo) (insert:=fun _ _ _ _=>qNo)
  (load:=fun _ _=>qNo) (store:=fun _ _ _=>qNo) (ready:=fun _=>qNo) (waits:=fun _=>qNo) (nilCheck:=fun _=>qNo) (binOp:=Vq) (unOp:=fun _ _ _=>qNo) (convert:=fun _ _ _=>qNo) (sliceToArrayPointer:=fun _ _=>qNo)
  (makeInterface:=fun _ _=>qNo) (makeFunc:=fun _ _ _=>qNo) (makeMap:=fun _ _=>qNo) (makeChan:=fun _ _=>qNo) (makeSlice:=fun _ _ _=>qNo) (slice:=fun _ _ _ _ _=>qNo) (fieldAddr:=fun _ _ _=>qNo) (field:=fun _ _ _=>qNo)
  (indexAddr:=fun _ _ _=>qNo) (index:=fun _ _ _=>qNo) (lookup:=fun _ _ _ _=>qNo) (mapUpdate:=fun _ _ _ _=>qNo) (mapEntry:=fun _ _ _=>qNo) (entryStore:=fun _ _ _ _=>qNo) (range:=fun _ _=>qNo) (next:=fun _ _=>qNo) (entry:=fun _=>qNo)
  (typeAssert:=fun _ _ _ _=>qNo) (extract:=fun _ _=>qNo) (call:=fun _=>qNo) (go:=fun _=>qNo) (defer:=fun _=>qNo) (panic:=fun _=>qNo) (send:=fun _ _=>qNo) (recv:=fun _ _ _=>qNo) (select:=fun _ _=>qNo)
def LW (P:Program) (o:Oper) (s:SS):Option (Nat × SV) :=
 match o.guard with
 | some _=>none
 | none=>match o.dst with
  | none=>none
  | some d=>match Nat.blt d s.sz with
   | false=>none
   | true=>match qOp o.op P s with | some v=>some (d,v) | none=>none
def Ho (v:SV):Ef:=⟨[],.done ⟨some v,[],none⟩,[],[],none⟩
theorem QS {s:SS} {x:Operand} {v:S1} (h:qS1 s x=some v):qL s [] x=some (v,[]):=by
 unfold qS1 at h
 unfold qL
 split at h
 ·split at h
  ·rename_i hs
   split at h
   ·rename_i hk
    simp only[Option.some.injEq] at h;subst h
    simp only[hs,hk,if_true]
   ·cases h
  ·cases h
  ·cases h
 ·simp only[Option.some.injEq] at h;subst h;rfl
 ·cases h
 ·cases h
theorem LV {s:SS} {x:Operand} {v:Value} (h:qPl s x=some v):jq s [] x=some (.k v,[]):=by
 unfold qPl at h
 split at h
 ·rename_i hx
  split at h
  ·simp only[Option.some.injEq] at h;subst h
   simp only[jq,QS hx]
  ·cases h
 ·cases h
theorem Ue {P:Program} {op:Op} {s:SS} {v:SV} (h:qOp op P s=some v) (okf:FuncId→Bool) (rules:FuncId→Option (List Nat)) (name:Nat) (o:Oper) (ho:o.op=op) :
  (QW P op).isLight=true∧∃ w:S1,Oz P okf rules false name o [] s=some (.fl [] .sil (fun _=>.s w),{})∧v=jh (.s w):=by
 have mv:∀ x,OZ x P s=some v→∃ w:S1,tQ s [] o.dst false x=some (.fl [] .sil (fun _=>.s w),{})∧v=jh (.s w):=by
  intro x h
  unfold OZ at h
  split at h
  ·rename_i w hw
   simp only[Option.some.injEq] at h
   subst h
   refine⟨w,?_,rfl⟩
   have e:=QS hw
   unfold tQ
   simp only[Bool.false_eq_true,if_false]
   cases x with
   | tmp t =>
    simp only
    unfold qS1 at hw
    simp only at hw
    split at hw
    ·rename_i hs
     rw[hs]
     simp only[e,Option.bind_some,cJ,Bt,List.isEmpty_nil,if_true]
    ·cases hw
    ·cases hw
   | const c=>simp only[e,Option.bind_some,cJ,Bt,List.isEmpty_nil,if_true]
   | global n=>simp[qS1] at hw
   | func n=>simp[qS1] at hw
  ·cases h
 cases op with
 | move x=>obtain⟨w,h1,h2⟩:=mv x h;exact⟨rfl,w,by simp only[Oz,ho];exact h1,h2⟩
 | assign x=>obtain⟨w,h1,h2⟩:=mv x h;exact⟨rfl,w,by simp only[Oz,ho];exact h1,h2⟩
 | binOp b t x y ty =>
  refine⟨rfl,?_⟩
  have h:Vq b t x y ty P s=some v:=h
  unfold Vq at h
  split at h
  ·rename_i bk hbk
   split at h
   ·rename_i u hu
    split at h
    ·rename_i w hw
     unfold Uf at h
     split at h
     ·split at h
      ·rename_i k a
       split at h
       ·rename_i k' c
        split at h
        ·rename_i hk
         subst hk
         split at h
         ·rename_i r hr
          simp only[Option.some.injEq] at h
          subst h
          obtain⟨e1,e2,e3,e4⟩:=RV hr
          refine⟨.at (.k r),?_,rfl⟩
          simp only[Oz,ho,IH,hbk,eO,LV hu,LV hw,Option.bind_some]
          have hf:PZ (.bin b .int) [.k (.int k a),.k (.int k c)]=some r:=by
           simp only[PZ,List.mapM_cons,List.mapM_nil,y6,Option.pure_def,Option.bind_eq_bind,Option.bind_some,al,bA]
           cases b <;> first | exact absurd rfl e2 | exact absurd rfl e3 | simpa using e1
          simp only[fE,hf,Bt,List.isEmpty_nil,if_true]
          rfl
         ·cases h
        ·cases h
       ·cases h
      ·cases h
     ·cases h
    ·cases h
   ·cases h
  ·cases h
 | _=>cases h
theorem RU {c:Cfg} {call:mi} {ops:Array Oper} {base i:Nat} {o:Oper} {x:CS} {t:Nat} {v:SV} (h:LW c.P o x.s=some (t,v)):o.dst=some t∧cN c call ops base i o x=some (Ho v):=by
 unfold LW at h
 split at h
 ·cases h
 ·rename_i hg
  split at h
  ·cases h
  ·rename_i d hd
   split at h
   ·cases h
   ·rename_i hlt
    split at h
    ·rename_i w hw
     simp only[Option.some.injEq,Prod.mk.injEq] at h
     obtain⟨rfl,rfl⟩:=h
     refine⟨hd,?_⟩
     obtain⟨h1,s1,h2,h3⟩:=Ue hw (fun _=>false) (fun _=>none) (base + i) o rfl
     have hlt':d < x.s.sz:=Nat.le_of_ble_eq_true hlt
     have hgd:aI (bo ops) x.s o=.go []:=by unfold aI;rw[hg]
     have hdo:xZ x.s o.dst=true:=by rw[hd];simpa [xZ] using hlt'
     have hnf:nf c.P (fun _=>false) (fun _=>none) (bo ops) false (base + i) o x.s=some (.fl [] .sil (fun _=>.s s1),{}):=by
      unfold nf
      simp only[hdo,hgd,Bool.not_true,Bool.false_eq_true,if_false]
      exact h2
     unfold cN
     simp only[h1,if_true,hnf,Option.bind_some,Si,h3]
     rfl
    ·cases h
def qU (ops:Array Oper) (tab:List (Nat × Nat)):List (Nat × Oper)→List (Nat × Oper)→Bool
 | [],_=>true
 | (i,o)::r,done=>(done.all fun p=>Bo tab p.1 i || Oper.apart ops p.2 o) && qU ops tab r ((i,o)::done)
def Ci (tab:List (Nat × Nat)) (i:Nat) (e:Ef):List K4→Bool
 | []=>true
 | l::r=>(Bo tab l.i i || pD l.e e) && Ci tab i e r
def RX.regQ (c:RX) (d:Bool):List (Nat × Oper)→List K4→CS→G CS
 | [],_,x=>.done x
 | (i,o)::r,flog,x =>
  match LW c.P o x.s with
  | some p=>match p with | (t,v)=>RX.regQ c d r flog (x.appD (some t) ⟨some v,[],none⟩)
  | none =>
  match c.N i o x with
  | none=>.fail (1000 + i)
  | some e =>
   if d && !Ci c.tab i e flog then .fail (2000 + i)
   else G.mchk e.cs (e.body.bind fun u=>if okU c.hi e u then RX.regQ c d r (if d then ⟨i,o,e⟩::flog else flog) (x.appD o.dst u) else .fail (3000 + i))
def qF (e:Ef):Prop:=e.rd=[]∧e.wr=[]∧e.lo=none
theorem B9 {a b:Ef} (h:qF a∨qF b):pD a b=true:=by
 have d1:∀ l:List Nat,Gw [] l=true:=fun l=>rfl
 have d2:∀ l:List Nat,Gw l []=true:=fun l=>by simp[Gw]
 rcases h with ⟨h1,h2,h3⟩ | ⟨h1,h2,h3⟩
 ·unfold pD
  rw[h1,h2,h3]
  simp only[d1,Bool.and_self,Bool.true_and]
  cases b.lo <;> simp
 ·unfold pD
  rw[h1,h2,h3]
  simp only[d2,Bool.and_self,Bool.true_and]
  cases a.lo <;> simp
theorem zE {tab:List (Nat × Nat)} {i:Nat} {e:Ef}:∀ {fl:List K4},Ci tab i e fl=true→∀ l ∈ fl,Bo tab l.i i=true∨pD l.e e=true
 | [],_,l,h=>by cases h
 | x::r,h,l,hl=>by
  simp only[Ci,Bool.and_eq_true,Bool.or_eq_true] at h
  rcases List.mem_cons.1 hl with rfl | hl
  ·exact h.1
  ·exact zE h.2 l hl
theorem Pi {ops:Array Oper} {tab:List (Nat × Nat)} {i:Nat} {o:Oper} {e:Ef} {log fl:List K4} {dn:List (Nat × Oper)} (hin:∀ l ∈ log,l ∈ fl∨qF l.e) (hdn:∀ l ∈ log,(l.i,l.o) ∈ dn)
  (hap:(dn.all fun p=>Bo tab p.1 i || Oper.apart ops p.2 o)=true) (hf:qF e∨Ci tab i e fl=true):mD ops tab i o e log=true:=by
 unfold mD
 rw[List.all_eq_true]
 intro l hl
 have h1:=List.all_eq_true.1 hap (l.i,l.o) (hdn l hl)
 simp only[Bool.or_eq_true] at h1
 simp only[Bool.or_eq_true,Bool.and_eq_true]
 rcases h1 with h1 | h1
 ·exact .inl h1
 ·rcases hf with hf | hf
  ·exact .inr ⟨B9 (.inr hf),h1⟩
  ·rcases hin l hl with h2 | h2
   ·rcases zE hf l h2 with h3 | h3
    ·exact .inl h3
    ·exact .inr ⟨h3,h1⟩
   ·exact .inr ⟨B9 (.inl h2),h1⟩
theorem G.den_bind' {α β:Type} {P:β→Prop} {f:α→G β}:∀ {g:G α},g.den (fun a=>(f a).den P)→(g.bind f).den P
 | .fail _,h=>h
 | .done _,h=>h
 | .box _,h=>fun r=>den_bind' (h r)
 | .chk _ _,h=>⟨h.1,den_bind' h.2⟩
 | .eql _ _ _,h=>⟨h.1,den_bind' h.2⟩
theorem G.den_mchk' {α:Type} {P:α→Prop} {c:List Ck} {g:G α} (h1:AllCk c) (h2:g.den P):(G.mchk c g).den P:=by
 cases c with
 | nil=>exact h2
 | cons x r=>exact⟨h1,h2⟩
theorem RX.regQ_den {c:RX} (hq:∀ i o x t v,LW c.P o x.s=some (t,v)→o.dst=some t∧c.N i o x=some (Ho v)) {d:Bool} {K:CS→Prop}:∀ {l dn:List (Nat × Oper)} {log fl:List K4} {x:CS},
  (d=true→qU c.ops c.tab l dn=true)→(∀ l ∈ log,l ∈ fl∨qF l.e)→(∀ l ∈ log,(l.i,l.o) ∈ dn)→(c.regQ d l fl x).den K→(c.reg d l log x).den K
 | [],_,_,_,_,_,_,_,h=>h
 | (i,o)::r,dn,log,fl,x,ha,hin,hdn,h=>by
  simp only[RX.regQ] at h
  simp only[RX.reg]
  have hokl:∀ e,(qF e∨(d && !Ci c.tab i e fl)=false)→(d && !mD c.ops c.tab i o e log)=false:=by
   intro e he
   cases d with
   | false=>rfl
   | true =>
    have h1:=ha rfl
    simp only[qU,Bool.and_eq_true] at h1
    have:=Pi (e:=e) hin hdn h1.1 (he.imp id fun h=>by simpa using h)
    simp[this]
  have ha':d=true→qU c.ops c.tab r ((i,o)::dn)=true:=fun hd=>by
   have h1:=ha hd
   simp only[qU,Bool.and_eq_true] at h1
   exact h1.2
  split at h
  ·rename_i p hqo
   obtain⟨t,v⟩:=p
   obtain⟨h1,h2⟩:=hq i o x t v hqo
   rw[h2]
   have hl:=hokl (Ho v) (.inl ⟨rfl,rfl,rfl⟩)
   have hok:okU c.hi (Ho v) ⟨some v,[],none⟩=true:=rfl
   simp only[hl,Bool.false_eq_true,if_false]
   rw[show ∀ f:Upd→G CS,G.mchk (Ho v).cs ((Ho v).body.bind f)=f ⟨some v,[],none⟩ from fun f=>rfl,if_pos hok,h1]
   refine RX.regQ_den hq ha' ?_ ?_ h
   ·intro y hy
    cases d with
    | false=>simp only[Bool.false_eq_true,if_false] at hy;exact hin y hy
    | true =>
     simp only[if_true,List.mem_cons] at hy
     rcases hy with rfl | hy
     ·exact .inr ⟨rfl,rfl,rfl⟩
     ·exact hin y hy
   ·intro y hy
    cases d with
    | false=>simp only[Bool.false_eq_true,if_false] at hy;exact List.mem_cons_of_mem _ (hdn y hy)
    | true =>
     simp only[if_true,List.mem_cons] at hy
     rcases hy with rfl | hy
     ·exact List.mem_cons_self
     ·exact List.mem_cons_of_mem _ (hdn y hy)
  ·split at h
   ·exact h.elim
   ·rename_i e he
    rw[he]
    split at h
    ·exact h.elim
    ·rename_i hfl
     have hl:=hokl e (.inr (by simpa using hfl))
     simp only[hl,Bool.false_eq_true,if_false]
     obtain⟨h1,h2⟩:=G.den_mchk h
     refine G.den_mchk' h1 (G.den_bind' (G.den_mono (fun u hu=>?_) (G.den_bind h2)))
     split at hu
     ·rename_i hok
      simp only[hok,if_true]
      refine RX.regQ_den hq ha' ?_ ?_ hu
      ·intro y hy
       cases d with
       | false=>simp only[Bool.false_eq_true,if_false] at hy ⊢;exact hin y hy
       | true =>
        simp only[if_true,List.mem_cons] at hy ⊢
        rcases hy with rfl | hy
        ·exact .inl (.inl rfl)
        ·exact (hin y hy).imp .inr id
      ·intro y hy
       cases d with
       | false=>simp only[Bool.false_eq_true,if_false] at hy;exact List.mem_cons_of_mem _ (hdn y hy)
       | true =>
        simp only[if_true,List.mem_cons] at hy
        rcases hy with rfl | hy
        ·exact List.mem_cons_self
        ·exact List.mem_cons_of_mem _ (hdn y hy)
     ·exact hu.elim
def zS (P:Program) (N:NF1) (ops:Array Oper) (draw:Bool) (x:CS):G CS :=
 let l:=aL 0 ops.toList
 let hi:=x.s.next + ops.size
 let x':CS:=x.bump ops.size
 if draw then
  let l':=eK ops.size 0 l
  let tab:=fm l' []
  if topo ops.size 0 l' && qU ops tab l' [] then RX.regQ ⟨P,ops,tab,hi,N ops x.s.next⟩ true l' [] x' else .fail 3000
 else RX.regQ ⟨P,ops,[],hi,N ops x.s.next⟩ false l [] x'
def NQ (P:Program) (N:NF1):Prop:=∀ ops base i o x t v,LW P o x.s=some (t,v)→o.dst=some t∧N ops base i o x=some (Ho v)
theorem Ez {P:Program} {N:NF1} (hq:NQ P N) {ops:Array Oper} {draw:Bool} {x:CS} {K:CS→Prop} (h:(zS P N ops draw x).den K):(t8 P N ops draw x).den K:=by
 unfold zS at h
 unfold t8
 cases draw with
 | true =>
  simp only[if_true] at h ⊢
  split at h
  ·rename_i ht
   simp only[Bool.and_eq_true] at ht
   rw[if_pos ht.1]
   exact RX.regQ_den (hq ops _) (fun _=>ht.2) (fun _ h=>by cases h) (fun _ h=>by cases h) h
  ·exact h.elim
 | false =>
  simp only[Bool.false_eq_true,if_false] at h ⊢
  exact RX.regQ_den (dn:=[]) (hq ops _) (fun h=>by cases h) (fun _ h=>by cases h) (fun _ h=>by cases h) h
def jt (P:Program) (N:NF1) (n:Nat):Code→CS→G Out
 | .skip,x=>.done (.nrm x)
 | .label _,x=>.done (.nrm x)
 | .region _ ops draw,x=>(zS P N ops draw x).bind fun x'=>.done (.nrm x')
 | .seq a b,x=>(jt P N n a x).bind fun o=>match o with
  | .nrm x'=>jt P N n b x'
  | o=>.done o
 | .cond c a b,x=>match qPl x.s c with
  | some v=>(match v with
   | .bool t=>(match t with | true=>jt P N n a x | false=>jt P N n b x)
   | _=>.fail 905)
  | none=>match jq x.s [] c with
  | some (.k (.bool true),_)=>jt P N n a x
  | some (.k (.bool false),_)=>jt P N n b x
  | _=>.fail 904
 | .block id b,x=>(jt P N n b x).bind fun o=>match o with
  | .ext j x'=>if j=id then .done (.nrm x') else .done (.ext j x')
  | o=>.done o
 | .exit id,x=>.done (.ext id x)
 | .ret,x=>.done (.ret x)
 | .loop b,x=>HO (jt P N n b) n x
 | _,_=>.fail 907
theorem F7 {f g:CS→G Out} (h:∀ (x:CS) (K:Out→Prop),(f x).den K→(g x).den K):∀ (n:Nat) (x:CS) (K:Out→Prop),(HO f n x).den K→(HO g n x).den K
 | 0,_,_,hd=>hd
 | n + 1,x,K,hd=>by
  simp only[HO] at hd ⊢
  refine G.den_bind' (G.den_mono (fun o ho=>?_) (h _ _ (G.den_bind hd)))
  cases o with
  | nrm x'=>exact F7 h n x' K ho
  | ext j x'=>exact ho
  | ret x'=>exact ho
theorem Ie {P:Program} {N:NF1} (hq:NQ P N) {n:Nat}:∀ (c:Code) {x:CS} {K:Out→Prop},(jt P N n c x).den K→(oo P N n c x).den K:=by
 intro c
 induction c with
 | skip=>intro x K h;exact h
 | label l=>intro x K h;exact h
 | region id ops draw =>
  intro x K h
  exact G.den_bind' (Ez hq (G.den_bind h))
 | seq c d ihc ihd =>
  intro x K h
  refine G.den_bind' (G.den_mono (fun o ho=>?_) (ihc (G.den_bind h)))
  cases o with
  | nrm x'=>exact ihd ho
  | ext j x'=>exact ho
  | ret x'=>exact ho
 | cond c d e ihd ihe =>
  intro x K h
  simp only[jt] at h
  simp only[oo]
  split at h
  ·rename_i v hv
   rw[LV hv]
   split at h
   ·split at h
    ·exact ihd h
    ·exact ihe h
   ·exact h.elim
  ·split at h
   ·rename_i cs he;rw[he];exact ihd h
   ·rename_i cs he;rw[he];exact ihe h
   ·exact h.elim
 | block id b ih =>
  intro x K h
  exact G.den_bind' (ih (G.den_bind h))
 | exit id=>intro x K h;exact h
 | ret=>intro x K h;exact h
 | loop b ih =>
  intro x K h
  exact F7 (fun x K h=>ih h) n x K h
 | _=>intro x K h;exact h.elim
def Rb (P:Program) (N:mi→NF1) (loops:Nat):Nat→mi
 | 0,_,_,_,_,_=>.fail 700
 | k + 1,f,args,mem,next,h =>
  match P.funcs[f]? with
  | none=>.fail 701
  | some fn=>match fn.body with
   | none=>.fail 702
   | some c =>
    if args.length≤fn.ntmps then
     (jt P (N (Rb P N loops k)) loops c (pJ fn args mem next h)).bind fun o=>match o with
      | .nrm x=>QR P fn x
      | .ret x=>QR P fn x
      | .ext _ _=>.fail 703
    else .fail 704
variable {P:Program}
def OV (c:Cfg) (depth loops:Nat):mi:=Rb c.P (cN c) loops depth
theorem Wu (c:Cfg) (call:mi):NQ c.P (cN c call):=fun _ _ _ _ _ _ _ h=>RU h
structure RanQ (c:Cfg) (depth loops:Nat) (f:FuncId):Prop where
 h:(OV c depth loops f [] [] 0 ⟨[],[]⟩).den fun r=>isT r=true
theorem RanQ.reckon {c:Cfg} {depth loops:Nat} {f:FuncId} (n N:Nat) (h:∀ k:Nat→Nat,((G.exN n (OV c depth loops f [] [] 0 ⟨[],[]⟩) ((List.range N).map k)).x,(G.exN n (OV c depth loops f [] [] 0 ⟨[],[]⟩) ((List.range N).map k)).fine isT) =
  ((G.exN n (OV c depth loops f [] [] 0 ⟨[],[]⟩) ((List.range N).map k)).y,true)):RanQ c depth loops f:=by
 refine⟨G.reckon (p:=isT) (fun _ h=>h) n N _ ?_⟩
 intro k
 have:=h k
 rw[Prod.mk.injEq] at this
 exact this
variable {P:Program}
abbrev OB:=FuncId→List S1→List (Nat × Option Bx)→HS→Option (List Ck × SV)
def Ju (P:Program) (N:mi→NF1) (loops:Nat) (sum:OB):Nat→mi
 | 0,_,_,_,_,_=>.fail 700
 | k + 1,f,args,mem,next,h =>
  match sum f args mem h with
  | some (cs,sv)=>G.mchk cs (.done (sv,Bv mem next h))
  | none =>
  match P.funcs[f]? with
  | none=>.fail 701
  | some fn=>match fn.body with
   | none=>.fail 702
   | some c =>
    if args.length≤fn.ntmps then
     (jt P (N (Ju P N loops sum k)) loops c (pJ fn args mem next h)).bind fun o=>match o with
      | .nrm x=>QR P fn x
      | .ret x=>QR P fn x
      | .ext _ _=>.fail 703
    else .fail 704
def Ou (P:Program) (ok:FuncId→Bool) (H:Heap) (sum:OB):Prop :=
 ∀ (f:FuncId) (args:List S1) (mem:List (Nat × Option Bx)) (h:HS) (cs:List Ck) (sv:SV),ok f=true→sum f args mem h=some (cs,sv)→AllCk cs→sv.ok ∧
  ∀ (F:Own) (w:World) (next:Nat),(∀ s ∈ args,s.ok)→TQ F (Bv mem next h) H w→Calls P f (args.map S1.den).toArray w fun e w'=>∃ v,e=.returned v∧sv.rel v∧TQ F (Bv mem next h) H w'
theorem wu (hm:P.follows .mixedOrders=true) {ok:FuncId→Bool} {H:Heap} {N:mi→NF1} (hN:∀ call,qD P ok H call→NOk P (N call) H) (hq:∀ call,NQ P (N call)) {loops:Nat} {sum:OB} (hs:Ou P ok H sum):∀ k,qD P ok H (Ju P N loops sum k)
 | 0=>by intro f args mem next h F w K _ hd;exact hd.elim
 | k + 1=>by
  intro f args mem next h F w K hokff hd hargs hmem
  simp only[Ju] at hd
  split at hd
  ·rename_i cs sv hsum
   obtain⟨hck,hk⟩:=G.den_mchk hd
   obtain⟨h1,h2⟩:=hs f args mem h cs sv hokff hsum hck
   refine (h2 F w next hargs hmem).mono ?_
   rintro e w' ⟨v,rfl,hv,hm'⟩
   exact⟨v,sv,_,rfl,hv,h1,hk,hm'⟩
  split at hd
  ·exact hd.elim
  ·rename_i fn hf
   split at hd
   ·exact hd.elim
   ·rename_i c hc
    split at hd
    ·rename_i hle
     refine calls_of_wp hf hc ?_
     obtain⟨L,O,hB,hcok,hM,hmod,hfr⟩:=hmem
     have key:∀ t,(((pJ fn args mem next h).s.tmps t).rel (((args.map S1.den).toArray++Array.replicate (fn.ntmps - (args.map S1.den).toArray.size) undef).getD t undef))∧((pJ fn args mem next h).s.tmps t).ok:=by
      intro t
      simp only[pJ]
      rcases Nat.lt_or_ge t args.length with hlt | hge
      ·rw[List.getElem?_eq_getElem hlt]
       refine⟨?_,hargs _ (List.getElem_mem hlt)⟩
       have:((args.map S1.den).toArray++Array.replicate (fn.ntmps - (args.map S1.den).toArray.size) undef).getD t undef=args[t].den:=by
        rw[Array.getD_eq_getD_getElem?,Array.getElem?_append_left (by simpa using hlt)]
        simp[hlt]
       rw[this];exact fV rfl
      ·rw[List.getElem?_eq_none hge]
       refine⟨?_,EZ undef⟩
       have:((args.map S1.den).toArray++Array.replicate (fn.ntmps - (args.map S1.den).toArray.size) undef).getD t undef=undef:=by
        rw[Array.getD_eq_getD_getElem?,Array.getElem?_append_right (by simpa using hge)]
        rw[Array.getElem?_replicate]
        split <;> rfl
       rw[this]
       exact fV rfl
     have hCC:CC 0 F (pJ fn args mem next h) H { tmps:=(args.map S1.den).toArray++Array.replicate (fn.ntmps - (args.map S1.den).toArray.size) undef,defers:=[] } w :=
      ⟨⟨O,hM,⟨fun t=>(key t).2,hcok⟩,rfl,by simp[pJ];omega,fun t=>(key t).1,L,hB,hmod⟩,hfr,Nat.zero_le _⟩
     refine Qi hm (hN _ (wu hm hN hq hs k)) c (Ie (hq _) c (G.den_bind hd)) hCC ?_
     have back:∀ x a' w',CC 0 F x H a' w'→(QR P fn x).den K→a'.defers=[]∧∃ v,(results fn a'.tmps).run P w'=.ok v w' ∧
       ∃ v' sv y,Ending.returned v=.returned v'∧sv.rel v'∧sv.ok∧K (sv,y)∧TQ F y H w':=by
      rintro x a' w' ⟨⟨O',hM',hC'⟩,hf',_⟩ hret
      unfold QR at hret
      split at hret
      ·exact hret.elim
      ·rename_i l hl
       obtain⟨hck,hk⟩:=G.den_mchk hret
       obtain⟨L',hB',hmod'⟩:=hC'.mm
       have hr:=DL hC' hl hck
       refine⟨hC'.df,V5 l,?_,_,Ud l,x,rfl,?_,?_,hk,L',O',hB',hC'.ok.2,hM',hmod',hf'⟩
       ·rw[BO,Sem.run_bind]
        rw[← Array.toArray_toList (xs:=fn.results),List.mapM_toArray]
        simp only[Sem.run_map]
        rw[hr]
        rcases l with _ | ⟨v,_ | ⟨v',r⟩⟩ <;> simp[V5]
       ·rcases l with _ | ⟨v,_ | ⟨v',r⟩⟩
        ·rfl
        ·exact fV rfl
        ·rfl
       ·have:=FG hC'.ok hl
        rcases l with _ | ⟨v,_ | ⟨v',r⟩⟩
        ·exact this
        ·exact this v (by simp)
        ·exact this
     intro o a' w' hC' hk
     cases o with
     | nrm x=>exact back x a' w' hC' hk
     | ret x=>exact back x a' w' hC' hk
     | ext j x=>exact hk.elim
    ·exact hd.elim
def Fv (c:Cfg) (sum:OB) (depth loops:Nat):mi:=Ju c.P (cN c) loops sum depth
theorem Hv {c:Cfg} (hm:c.P.follows .mixedOrders=true) (hokf:∀ f,c.ok f=true→mc c.P f) {H:Heap} (hgl:GlobOk c.glob H) {sum:OB} (hs:Ou c.P c.ok H sum) {depth loops:Nat} {f:FuncId} {args:List S1} (hf:c.ok f=true) (hargs:∀ s ∈ args,s.ok)
  {K:SV × CS→Prop} (h:(Fv c sum depth loops f args [] 0 ⟨[],[]⟩).den K) :
  Triple c.P f (args.map S1.den) H [] fun v H' O'=>H'=H∧O'=[]∧∃ sv y,sv.rel v∧K (sv,y):=by
 intro w F hw
 have hsound:=wu hm (fun call=>VQ hokf hgl call) (Wu c) (loops:=loops) hs depth
 have hmem:TQ F (Bv [] 0 ⟨[],[]⟩) H w:=⟨[],[],Boxes.none,fun n b h=>by simp[Bv,ge] at h,rfl,by simpa using hw,fun _ _=>rfl⟩
 refine (hsound f args [] 0 ⟨[],[]⟩ F w K hf h hargs hmem).mono ?_
 rintro e w' ⟨v,sv,y,rfl,hrel,_,hk,L,O,_,_,_,hmod,_⟩
 refine⟨v,H,[],rfl,⟨rfl,rfl,sv,y,hrel,hk⟩,Heap.le_refl H,?_⟩
 refine hmod.sub ?_
 simp only[List.nil_append]
 exact (List.sublist_append_right O F).trans (List.sublist_append_right L _)
structure RanS (c:Cfg) (sum:OB) (depth loops:Nat) (f:FuncId):Prop where
 h:(Fv c sum depth loops f [] [] 0 ⟨[],[]⟩).den fun r=>isT r=true
theorem RanS.reckon {c:Cfg} {sum:OB} {depth loops:Nat} {f:FuncId} (n N:Nat) (h:∀ k:Nat→Nat,((G.exN n (Fv c sum depth loops f [] [] 0 ⟨[],[]⟩) ((List.range N).map k)).x,(G.exN n (Fv c sum depth loops f [] [] 0 ⟨[],[]⟩) ((List.range N).map k)).fine isT) =
  ((G.exN n (Fv c sum depth loops f [] [] 0 ⟨[],[]⟩) ((List.range N).map k)).y,true)):RanS c sum depth loops f:=by
 refine⟨G.reckon (p:=isT) (fun _ h=>h) n N _ ?_⟩
 intro k
 have:=h k
 rw[Prod.mk.injEq] at this
 exact this
theorem LH {c:Cfg} (hm:c.P.follows .mixedOrders=true) (hokf:∀ f,c.ok f=true→mc c.P f) {H:Heap} (hgl:GlobOk c.glob H) {sum:OB} (hs:Ou c.P c.ok H sum) {depth loops:Nat} {f:FuncId} (hf:c.ok f=true)
  (h:RanS c sum depth loops f) (O:Own):RetO c.P f [] H O (.bool true):=by
 have:=(Hv hm hokf hgl hs hf (args:=[]) (by simp) h.h).frame O
 refine this.mono ?_
 rintro v H' O' _ ⟨O'',rfl,rfl,rfl,sv,y,hrel,hk⟩
 refine⟨?_,rfl⟩
 unfold isT at hk
 simp only at hk
 split at hk
 ·subst hk;exact hrel
 ·cases hk
theorem Models.less {w:World} {H H':Heap} {O:Own} (h:Models w H' O) (hl:Heap.le H H'):Models w H O :=
 ⟨fun b o hb=>h.pers b o (hl.1 b o hb),fun p hp=>⟨(h.own p hp).1,by
  cases e:H p.1 with
  | none=>rfl
  | some o=>have:=hl.1 _ _ e;rw[(h.own p hp).2] at this;cases this⟩,h.nodup,h.env.trans hl.2⟩
end Go.Sx
