/- pool.New, pool.Find; the reference's Find. -/
import Derived.Test.YteakpllehopodaaGreatDoorM
namespace Go.Proofs.YteakpllehopodaaGreatDoor
open Go Go.Sx
set_option maxRecDepth 100000
set_option maxHeartbeats 1000000
theorem IK {r:List Value} (h:r.length=14):(.agg #[g r 0,g r 1,g r 2,g r 3,g r 4,g r 5,g r 6,g r 7,g r 8,g r 9,g r 10,g r 11,g r 12,g r 13]:Value)=.agg r.toArray:=by
 match r,h with
 | [_,_,_,_,_,_,_,_,_,_,_,_,_,_],_=>rfl
theorem g14 {r:List Value} (h:r.length=14):G14 r 0=r:=by
 match r,h with
 | [_,_,_,_,_,_,_,_,_,_,_,_,_,_],_=>rfl
def BB (cs:List CdF) (k:List UInt8):Option Nat:=cs.findIdx? fun c=>k == c.nm
theorem F8 (k:List UInt8):∀ (cs:List CdF) (o:Nat),oO ((cs.zipIdx o).map fun p=>(p.1.nm,iV (p.2:Nat))) k=(BB cs k).map fun j=>iV ((o + j:Nat):Int)
 | [],o=>rfl
 | c::cs,o=>by
  rw[List.zipIdx_cons,List.map_cons,BB,List.findIdx?_cons]
  by_cases h:k=c.nm
  ·simp[oO,h]
  ·have hb:(k == c.nm)=false:=by simpa using h
   have ih:=F8 k cs (o + 1)
   rw[hb]
   simp only[oO,List.find?_cons,hb] at ih ⊢
   rw[ih,BB]
   cases cs.findIdx? fun c=>k == c.nm with
   | none=>rfl
   | some j=>simp only[Option.map_some,Bool.false_eq_true,if_false];congr 2;omega
theorem HQ (cs:List CdF) (k:List UInt8):oO (ol cs) k=(BB cs k).map fun j:Nat=>iV (j:Int):=by
 rw[ol,F8 k cs 0]
 congr 1
 funext j
 rw[Nat.zero_add]
theorem KA {cs:List CdF} {k:List UInt8}:BB cs k=none ↔ k ∉ cs.map (·.nm):=by
 rw[BB,List.findIdx?_eq_none_iff]
 simp only[List.mem_map,not_exists,not_and,beq_eq_false_iff_ne]
 exact⟨fun h c hc e=>h c hc e.symm,fun h c hc e=>h c hc e.symm⟩
theorem Kz {cs:List CdF} {k:List UInt8} {j:Nat} (h:BB cs k=some j):∃ hj:j < cs.length,cs[j].nm=k:=by
 rw[BB,List.findIdx?_eq_some_iff_getElem] at h
 obtain⟨h1,h2,_⟩:=h
 exact⟨h1,(by simpa using h2:k=cs[j].nm).symm⟩
theorem Ko {cs:List CdF} {i:Nat} (h:i < cs.length):ol (cs.take (i + 1))=ol (cs.take i)++[(cs[i].nm,iV (i:Nat))]:=by
 have hm:(cs.take i).length=i:=by rw[List.length_take];omega
 rw[ol,ol,List.take_add_one,List.getElem?_eq_getElem h,Option.toList_some,List.zipIdx_append,List.map_append,hm]
 simp
theorem Uk:PP.underlying 278=some (.map Hh aQ):=by kernel_rfl
theorem V2:PP.underlying Hh=some .string:=by kernel_rfl
theorem TY:∀ w,(zeroValue aQ).run PP w=.ok (iV 0) w:=by
 intro w
 have:(PP.info? aQ).bind (·.zero)=some (iV 0):=by kernel_rfl
 simp only[Option.bind_eq_some_iff] at this
 obtain⟨i,hi,hz⟩:=this
 simp[zeroValue,typeInfo,hi,hz]
def Ww (cs:List CdF) (V:Nat→Bool→Prop) (r:Value) (H':Heap) (O':Go.Sx.Own):Prop :=
 (∃ r1 T x mv rows Om Ox,r=.tuple #[.pointer (some ⟨r1,0,none⟩),iV 0]∧H' r1=some (.cells #[x,mv] T (0,0))∧OMapS mv (ol cs) Om∧OSl ef 14 x rows Ox∧RowsF H' rows cs∧(cs.map (·.nm)).Nodup∧O'.Perm (Om++Ox)∧∀ j,j < cs.length→V j true) ∨
 (∃ e,r=.tuple #[.pointer none,iV e]∧e ≠ 0∧(400 < cs.length∨(∃ i,i < cs.length∧V i false)∨¬ (cs.map (·.nm)).Nodup))
def Wx (cs:List CdF) (V:Nat→Bool→Prop) (r:Value) (H':Heap) (O':Go.Sx.Own):Prop :=
 ((∃ p,r=.tuple #[p,iV 0]∧PoolF H' p cs∧∀ j,j < cs.length→V j true)∨(∃ e,r=.tuple #[.pointer none,iV e]∧e ≠ 0∧(400 < cs.length∨(∃ i,i < cs.length∧V i false)∨¬ (cs.map (·.nm)).Nodup)))∧O'=[]
def Ot (H:Heap) (cs:List CdF) (V:Nat→Bool→Prop):Prop:=∀ (i:Nat) (hi:i < cs.length) (H':Heap) (r:List Value),Heap.le H H'→r.length=14→CdRF H' r cs[i]→Triple PP qz [.agg r.toArray] H' [] fun x _ O'=>(∃ b,x=.bool b∧V i b)∧O'=[]
theorem Fz {H H':Heap} {rows:List (List Value)} {cs:List CdF} {i:Nat} (h:RowsF H rows (cs.take i)) (hl:Heap.le H H') (hi:i < cs.length) {r:List Value} (hr:CdRF H' r cs[i]):RowsF H' (rows++[r]) (cs.take (i + 1)):=by
 have hm:(cs.take i).length=i:=by rw[List.length_take];omega
 have hrl:rows.length=i:=h.1.trans hm
 have hm2:(cs.take (i + 1)).length=i + 1:=by rw[List.length_take];omega
 refine⟨by rw[List.length_append,hrl,hm2];rfl,fun j q c a b=>?_⟩
 have hj:j < i + 1:=by have:=(List.getElem?_eq_some_iff.1 b).1;omega
 rw[List.getElem?_take_of_lt hj] at b
 by_cases hji:j < i
 ·rw[List.getElem?_append_left (by omega)] at a
  exact (h.2 j q c a (by rw[List.getElem?_take_of_lt hji];exact b)).le hl
 ·obtain rfl:j=i:=by omega
  rw[List.getElem?_append_right (by omega),hrl,Nat.sub_self] at a
  simp only[List.getElem?_cons_zero,Option.some.injEq] at a
  rw[List.getElem?_eq_getElem hi] at b
  rw[← Option.some.inj b,← a];exact hr
theorem UU {H:Heap} {cv:Value} {cs:List CdF} (h:CardsF H cv cs) (hlit:∀ c ∈ cs,TU c) {V:Nat→Bool→Prop} (hval:Ot H cs V):Triple PP nk [cv] H [] (Ww cs V):=by
 refine vU (vs:=[cv]) (by kernel_rfl) ⟨h.one,trivial⟩ ?_
 simp only[vQ]
 have clen:=h.len
 refine ab _ clen ?_
 refine ab _ (bG _ _) (aj (fun hc=>?_) (fun hc=>?_))
 ·exact af (.inr ⟨5,rfl,by omega,.inl (by have:=of_decide_eq_true hc;omega)⟩)
 have h400:cs.length≤400:=by have:=of_decide_eq_false hc;omega
 refine ab _ clen ?_
 refine aY cs.length (fun i H' O'=>O'=[]∧Heap.le H H'∧∀ j,j < i→V j true) ⟨rfl,Heap.le_refl _,fun j hj=>by omega⟩ ?_
 rintro i H1 O1 hi - ⟨rfl,l1,hV⟩
 refine ab _ (aG _ _) (aj (fun hlt=>?_) (fun hfin=>?_))
 ·have hlt:i < cs.length:=by have:=of_decide_eq_true hlt;omega
  obtain⟨a,row,k1,k2,_,k4,k5,k6⟩:=zX [] (h.le l1) hlt
  refine ab _ k1 (aA k2 k4 k5 (ah fun r0=>?_))
  refine ae (ae ?_)
  rw[show (ag (G14 row 0):Value)=.agg row.toArray from IK k4]
  refine az (hval i hlt H1 row l1 k4 k6) ?_
  rintro _ H2 _ ⟨⟨b,rfl,hb⟩,rfl⟩ l2
  refine⟨[.bool b],rfl,⟨rfl,trivial⟩,?_⟩
  refine ab _ (aC _) (aj (fun hd=>?_) (fun hd=>?_))
  ·exact af (.inr ⟨2,rfl,by omega,.inr (.inl ⟨i,hlt,by rw[Pl hd] at hb;exact hb⟩)⟩)
  ·refine ab _ (aD (by omega)) (aN (by simp[Eqs,E]) hlt ⟨rfl,Heap.le_trans l1 l2,fun j hj=>?_⟩)
   rcases Nat.lt_succ_iff_lt_or_eq.1 hj with hj | rfl
   ·exact hV j hj
   ·rw[Pm hd] at hb;exact hb
 have hV:∀ j,j < cs.length→V j true:=fun j hj=>hV j (by have:=of_decide_eq_false hfin;omega)
 refine KH fun mv Om hm=>?_
 rw[List.append_nil]
 refine ah fun r1=>?_
 refine ab _ clen ?_
 refine dG (fun vs H' O'=>∃ (i:Nat) (x:Value) (rows:List (List Value)) (Om Ox:Go.Sx.Own),vs=[iV i,x]∧i≤cs.length∧Heap.le H H'∧OMapS mv (ol (cs.take i)) Om∧OSl ef 14 x rows Ox∧RowsF H' rows (cs.take i)∧((cs.take i).map (·.nm)).Nodup∧O'.Perm (Om++Ox)) (fun vs _ _=>match g vs 0 with | .int _ k=>cs.length + 1 - k.toNat | _=>0)
  ⟨0,.slice none 0 0,[],Om,[],rfl,Nat.zero_le _,l1,hm,OSl.nil _ _,⟨rfl,fun i r c a=>by simp at a⟩,List.nodup_nil,by simp⟩ ?_
 rintro _ H2 O2 _ _ _ ⟨i,x,rows,Om,Ox,rfl,hi,hle,hm,hx,hrows,hnd,hp⟩
 refine ab _ (aG _ _) (aj (fun hlt=>?_) (fun hge=>?_))
 ·have hlt:i < cs.length:=by have:=of_decide_eq_true hlt;omega
  obtain⟨a,row,k1,k2,_,k4,k5,k6⟩:=zX O2 (h.le hle) hlt
  have hnm:g row 0=Str cs[i].nm:=k6.nm.1
  have hmm:∀ p ∈ Om,p ∈ O2:=fun p hp'=>hp.mem_iff.2 (List.mem_append_left _ hp')
  refine ab _ k1 (aA k2 k4 k5 (ah fun r2=>?_))
  refine ae (ae (ae ?_))
  rw[hnm]
  have hlook:=HQ (cs.take i) cs[i].nm
  refine GL Uk V2 TY hm hmm cs[i].nm (by rw[hlook];cases BB (cs.take i) cs[i].nm <;> rfl) ?_
  refine aj (fun hd=>?_) (fun hd=>?_)
  ·refine af (.inr ⟨11,rfl,by omega,.inr (.inr fun hn=>?_)⟩)
   have hd:(oO (ol (cs.take i)) cs[i].nm).isSome=true:=hd
   rw[hlook] at hd
   cases hf:BB (cs.take i) cs[i].nm with
   | none=>rw[hf] at hd;cases hd
   | some j =>
    obtain⟨hj,hjn⟩:=Kz hf
    have hjl:j < i:=by rw[List.length_take] at hj;omega
    rw[List.getElem_take] at hjn
    refine (List.pairwise_iff_getElem.1 hn) j i (by rw[List.length_map];omega) (by rw[List.length_map];exact hlt) hjl ?_
    rw[List.getElem_map,List.getElem_map];exact hjn
  have hd:(oO (ol (cs.take i)) cs[i].nm).isSome=false:=hd
  have hnone:oO (ol (cs.take i)) cs[i].nm=none:=by simpa using hd
  have hnot:cs[i].nm ∉ (cs.take i).map (·.nm):=by
   rw[hlook,Option.map_eq_none_iff] at hnone
   exact KA.1 hnone
  refine ae (ae ?_)
  refine GI Uk V2 hm hp cs[i].nm (iV i) hnone fun rr Om' hm' _=>?_
  rw[← Ko hlt] at hm'
  refine ae (ae ?_)
  rw[show (ag (G14 row 0):Value)=.agg row.toArray from IK k4]
  refine az (EJ k6 (hlit _ (List.getElem_mem hlt))) ?_
  rintro _ H3 _ ⟨⟨cells,rfl,c1,c2⟩,rfl⟩ l3
  rw[List.nil_append]
  refine⟨cells,by simp[Shp.open,c1],c2.ones,ah fun r3=>?_⟩
  have hrl:rows.length=i:=by have:=hrows.1;rw[List.length_take] at this;omega
  rw[g14 c1]
  refine aH (rows:=rows) (news:=[cells]) (O1:=Ox) (O2:=Om') (e:=ef) (size:=14) (bytes:=152) (by kernel_rfl) List.perm_append_comm hx (fun Hf _ hf=>Sl.block19 (hf _ List.mem_cons_self) c1 c2.ones) (by rw[hrl,List.length_singleton];omega) (by rw[hrl,List.length_singleton];omega) ?_
  intro v' A' H6 l6 hA'
  refine ae ?_
  refine ab _ (aD (by omega)) (cU (by simp[Eqs,E]) ⟨i + 1,v',rows++[cells],Om',A',rfl,hlt,Heap.le_trans hle (Heap.le_trans l3 l6),hm',hA',Fz hrows (Heap.le_trans l3 l6) hlt (c2.le l6),?_,List.perm_append_comm⟩ ?_)
  ·rw[List.take_add_one,List.getElem?_eq_getElem hlt,Option.toList_some,List.map_append,List.nodup_append]
   refine⟨hnd,by simp,fun y hy z hz e=>?_⟩
   obtain rfl:z=cs[i].nm:=by simpa using hz
   exact hnot (e ▸ hy)
  ·show cs.length + 1 - ((i + 1:Nat):Int).toNat < cs.length + 1 - (i:Int).toNat
   omega
 ·have hge:cs.length≤i:=by have:=of_decide_eq_false hge;omega
  rw[List.take_of_length_le hge] at hm hrows hnd
  refine RO fun H' l hf=>.inl ⟨r1,_,x,mv,rows,Om,Ox,rfl,hf _ List.mem_cons_self,hm,hx,hrows.le l,hnd,hp,hV⟩
theorem UV {H:Heap} {cv:Value} {cs:List CdF} (h:CardsF H cv cs) (hlit:∀ c ∈ cs,TU c) {V:Nat→Bool→Prop} (hval:Ot H cs V):Triple PP nk [cv] H [] (Wx cs V):=by
 refine Triple.ghost (UU h hlit hval) ?_
 rintro r H' O' _ hc (⟨r1,T,x,mv,rows,Om,Ox,rfl,h1,hm,hx,hrows,hnd,hp,hV⟩ | ⟨e,rfl,he,hw⟩)
 ·have hc:=hc.perm hp
  obtain⟨H1,g1,k1,l1⟩:=hm.freeze hc
  have hc:=hc.ghost g1
  obtain⟨H2,g2,k2,l2⟩:=hx.freeze (X:=[]) (by simpa using hc)
  exact⟨H2,[],(Ghost.perm hp).trans (g1.trans (by simpa using g2)),.inl ⟨_,rfl,⟨r1,x,mv,T,rfl,l2.1 _ _ (l1.1 _ _ h1),⟨rows,k2,hrows.le (Heap.le_trans l1 l2)⟩,k1.le l2,hnd,hlit⟩,hV⟩,rfl⟩
 ·exact⟨H',[],Ghost.drop _ _,.inr ⟨e,rfl,he,hw⟩,rfl⟩
abbrev I9 (n:Int):Value:=.int .i64 n
theorem Py (x y:Int):al .min2 [iV x,iV y]=some (iV (min x y)):=by
 simp only[al];congr 2;omega
theorem PG (x y:Int):al .max2 [iV x,iV y]=some (iV (max x y)):=by
 simp only[al];congr 2;omega
def P2 (l:List Int) (e:Eff):Bool:=((l.contains e.target && e.n == 0) && e.m == 0) && e.colour == 0
def Nh (n lo hi:Int):Bool:=decide (n ≥ lo) && max 0 (min n hi) == n
def Nw (l:List Int) (most:Int) (e:Eff):Bool:=Nh e.n 1 most && P2 l { e with n:=0 }
def Nv (l:List Int) (PR:Int) (e:Eff):Bool:=((Nh e.n 0 9 && Nh e.m PR 9) && decide (e.n + e.m > 0)) && P2 l { e with n:=0,m:=0 }
def P0 (l:List Int) (most:Int) (e:Eff):Bool:=Nh e.colour 0 3 && Nw l most { e with colour:=0 }
inductive Rl9 where
 | no
 | bare (l:List Int)
 | cnt (l:List Int) (m:Int)
 | par (l:List Int) (m:Int)
 | col (l:List Int) (m:Int)
def o9 (c:Int):Rl9 :=
 if c=1 then .cnt [1,2,3,4,5] 99 else if c=2 then .cnt [0,4] 7 else if c=3∨c=4 then .cnt [0,4] 99
 else if c=5∨c=6∨c=11 then .bare [1,2,3] else if c=7 then .bare [6] else if c=8 then .par [1,2,3,0] 0
 else if c=9 then .cnt [1,2,3,0] 9 else if c=10 then .par [0] 1 else if c=12 then .col [0] 9 else .no
def Rl9.fits:Rl9→Eff→Bool
 | .no,_=>false
 | .bare l,e=>P2 l e
 | .cnt l m,e=>Nw l m e
 | .par l m,e=>Nv l m e
 | .col l m,e=>P0 l m e
def Qd (e:Eff):Bool:=(o9 e.code).fits e
def Em:List Int→Int→Int→Int
 | [],_,_=>-1
 | a::r,x,i=>if x == a then i else Em r x (i + 1)
theorem Jm:∀ (l:List Int) (x i:Int),0≤i→(decide (0≤Em l x i)=l.contains x)
 | [],x,i,_=>by simp[Em]
 | a::r,x,i,h=>by
  simp only[Em,List.contains_cons]
  by_cases hx:x=a
  ·simp[hx,h]
  ·simp only[beq_iff_eq,hx,if_false]
   rw[Jm r x (i + 1) (by omega)]
   simp[hx]
theorem iQ {P:Program} {t ty e:TypeId} {size:Nat} (ha:rn P t e size=true) {ad:Addr} {rows news:List (List Value)} {x:Value} {H:Heap} {O:Go.Sx.Own} {frz:List BV} {K:List Value→List (List Value)→Heap→Go.Sx.Own→Prop}
  (hr:Sl H size (.slice (some ad) rows.length rows.length) rows) (hx:∀ Hf,Heap.le H Hf→(∀ b ∈ frz,Hf b.r=some b.obj.2)→Sl Hf size x news)
  (hb:(rows.length + news.length) * gh P e≤140737488355328) (h63:rows.length + news.length < 2 ^ 63) (hk:∀ v' H',Heap.le H H'→Sl H' size v' (rows++news)→K [v'] [] H' O) :
  dc (fun H1 O1 R=>ba P ((PrimOp.bi .append #[t,t] ty).sem [.slice (some ad) rows.length rows.length,x]) H1 O1 R) false frz [] .one K H O:=by
 intro hc
 have hf:=fg hc
 have hl:=Heap.le_insAll frz H
 refine⟨H.insAll frz,[],O,_,Ghost.refl _ _,by simpa using vN (ty:=ty) ha (hr.le hl) (hx _ hl hf) hb h63,?_⟩
 rintro v' H' O' ⟨rfl,hle,hs⟩ _
 exact⟨[v'],[],[],rfl,⟨hs.one,trivial⟩,trivial,rfl,hk v' H' (Heap.le_trans hl hle) hs⟩
theorem iP {P:Program} {t:TypeId} {d:TypeDesc} (hu:P.underlying t=some d) (hni:∀ m,d ≠ .interface m) {b:Bool} {args:List Value} {x:Value} (hx:(b=true∧x=.agg args.toArray)∨(b=false∧args=[x])) {frz:List BV} {H:Heap} {O:Go.Sx.Own}
  {K:List Value→List (List Value)→Heap→Go.Sx.Own→Prop} (hk:∀ H',Heap.le H H'→(∀ b ∈ frz,H' b.r=some b.obj.2)→K [.iface t x] [] H' O) :
  dc (fun H1 O1 R=>ba P ((PrimOp.mkIface t b).sem args) H1 O1 R) false frz [] .one K H O:=by
 intro hc
 have hf:=fg hc
 have hl:=Heap.le_insAll frz H
 have hrun:∀ w,((PrimOp.mkIface t b).sem args).run P w=.ok (.value (.iface t x)) w:=fun w=>by
  rcases hx with ⟨rfl,rfl⟩ | ⟨rfl,rfl⟩
  ·simp only[PrimOp.sem,Instr.makeInterface,Sem.run_bind,ar hu,Result.andThen_ok]
   cases d <;> first | rfl | exact absurd rfl (hni _)
  ·simp only[PrimOp.sem,Instr.makeInterface,Sem.run_bind,ar hu,Result.andThen_ok]
   cases d <;> first | rfl | exact absurd rfl (hni _)
 refine⟨H.insAll frz,[],O,fun v H' O'=>v=.iface t x∧H'=H.insAll frz∧O'=[],Ghost.refl _ _,fun w F hm=>⟨_,w,H.insAll frz,[],hrun w,⟨rfl,rfl,rfl⟩,Heap.le_refl _,by simpa using hm⟩,?_⟩
 rintro v' H' O' ⟨rfl,rfl,rfl⟩ _
 exact⟨[_],[],[],rfl,⟨rfl,trivial⟩,trivial,rfl,hk _ hl hf⟩
theorem EK (r:Nat) (H:Heap):Ret PP cD [.slice (some ⟨r,0,none⟩) 3 3] H (.slice (some ⟨r,0,none⟩) 3 3):=by
 refine eY (vs:=[.slice (some ⟨r,0,none⟩) 3 3]) (by kernel_rfl) ⟨rfl,trivial⟩ ?_
 simp only[cA]
 exact ab (iV 3) rfl (ab (iV 3) rfl (ab (.slice (some ⟨r,0,none⟩) 3 3) rfl (af ⟨rfl,rfl⟩)))
def Rm (H:Heap):Rl9→Value→Prop
 | .no,r=>r=.nilIface
 | .bare l,r=>∃ s,r=.iface 351 s∧Sl H 1 s (aJ l)
 | .cnt l m,r=>∃ s,r=.iface 354 (.agg #[s,iV m])∧Sl H 1 s (aJ l)
 | .par l m,r=>∃ s,r=.iface 356 (.agg #[s,iV m])∧Sl H 1 s (aJ l)
 | .col l m,r=>∃ s,r=.iface 358 (.agg #[s,iV m])∧Sl H 1 s (aJ l)
def VW (c:Int) (r:Value) (H':Heap) (O':Go.Sx.Own):Prop:=Rm H' (o9 c) r∧O'=[]
theorem QK {H:Heap} {r:Nat} {T:TypeId} (h:H r=some (.cells [iV 1,iV 2,iV 3].toArray T (0,0))):Sl H 1 (.slice (some ⟨r,0,none⟩) 3 3) (aJ [1,2,3]):=Sl.block h ⟨rfl,rfl,rfl,trivial⟩ rfl (by decide)
theorem TK {H:Heap} {r:Nat} {T:TypeId} {a b:Int} (h:H r=some (.cells [iV a,iV b].toArray T (0,0))):Sl H 1 (.slice (some ⟨r,0,none⟩) 2 2) (aJ [a,b]):=Sl.block h ⟨rfl,rfl,trivial⟩ rfl (by decide)
theorem Oe {H:Heap} {r:Nat} {T:TypeId} {a:Int} (h:H r=some (.cells [iV a].toArray T (0,0))):Sl H 1 (.slice (some ⟨r,0,none⟩) 1 1) (aJ [a]):=Sl.block h ⟨rfl,trivial⟩ rfl (by decide)
def MF:Option TypeDesc→Bool
 | none=>false
 | some (.interface _)=>false
 | some _=>true
theorem ja {o:Option TypeDesc} (h:MF o=true):∃ d,o=some d∧∀ m,d ≠ .interface m:=by
 cases o with
 | none=>cases h
 | some d=>exact⟨d,rfl,fun m e=>by rw[e] at h;cases h⟩
theorem U5:∃ d,PP.underlying 351=some d∧∀ m,d ≠ .interface m:=ja (by kernel_rfl)
theorem Uy:∃ d,PP.underlying 354=some d∧∀ m,d ≠ .interface m:=ja (by kernel_rfl)
theorem Vs:∃ d,PP.underlying 356=some d∧∀ m,d ≠ .interface m:=ja (by kernel_rfl)
theorem VE:∃ d,PP.underlying 358=some d∧∀ m,d ≠ .interface m:=ja (by kernel_rfl)
theorem R9 {c:Int} {k:Bool} {r2 r0:Nat} {H:Heap} (h1:k=true→c=5∨c=6∨c=11) (h2:k=false→¬ (c=1∨c=2∨c=3∨c=4∨c=5∨c=6∨c=11)):(ir (.bool k) r2 [iV c] r0).den PP (VW c) H []:=by
 simp only[ir]
 obtain⟨d1,u1,n1⟩:=U5
 obtain⟨d3,u3,n3⟩:=Vs
 obtain⟨d4,u4,n4⟩:=VE
 refine aj (fun hk=>?_) (fun hk=>?_)
 ·refine iP u1 n1 (.inr ⟨rfl,rfl⟩) fun H1 l1 hf=>?_
  refine af ⟨?_,rfl⟩
  rw[o9,if_neg (by have:=h1 hk;omega),if_neg (by have:=h1 hk;omega),if_neg (by have:=h1 hk;omega),if_pos (h1 hk)]
  exact⟨_,rfl,QK (hf _ List.mem_cons_self)⟩
 have hn:=h2 hk
 refine ab _ (aw _ _) (aj (fun h=>?_) (fun h=>?_))
 ·have h:c=7:=by simpa using h
  subst h
  refine ah fun r4=>?_
  refine iP u1 n1 (.inr ⟨rfl,rfl⟩) fun H1 l1 hf=>?_
  exact af ⟨⟨_,rfl,Oe (hf _ List.mem_cons_self)⟩,rfl⟩
 have n7:c ≠ 7:=by simpa using h
 refine ab _ (aw _ _) (aj (fun h=>?_) (fun h=>?_))
 ·have h:c=8:=by simpa using h
  subst h
  refine uf _ (fun Hf _ _=>EK r2 Hf) rfl ⟨rfl,trivial⟩ fun H1 l1 hf=>?_
  refine ah fun r5=>?_
  refine iQ (ad:=⟨r2,0,none⟩) (rows:=aJ [1,2,3]) (news:=aJ [0]) (size:=1) (e:=156) (by kernel_rfl) (QK (hf _ List.mem_cons_self)) (fun Hf _ hf2=>Oe (hf2 _ List.mem_cons_self)) (by rw[show gh PP 156=8 by kernel_rfl];decide) (by decide) fun v' H2 l2 hs=>?_
  exact af ⟨⟨_,rfl,hs⟩,rfl⟩
 have n8:c ≠ 8:=by simpa using h
 refine ab _ (aw _ _) (aj (fun h=>?_) (fun h=>?_))
 ·have h:c=9:=by simpa using h
  subst h
  refine uf _ (fun Hf _ _=>EK r2 Hf) rfl ⟨rfl,trivial⟩ fun H1 l1 hf=>?_
  refine ah fun r5=>?_
  refine iQ (ad:=⟨r2,0,none⟩) (rows:=aJ [1,2,3]) (news:=aJ [0]) (size:=1) (e:=156) (by kernel_rfl) (QK (hf _ List.mem_cons_self)) (fun Hf _ hf2=>Oe (hf2 _ List.mem_cons_self)) (by rw[show gh PP 156=8 by kernel_rfl];decide) (by decide) fun v' H2 l2 hs=>?_
  exact af ⟨⟨_,rfl,hs⟩,rfl⟩
 have n9:c ≠ 9:=by simpa using h
 refine ab _ (aw _ _) (aj (fun h=>?_) (fun h=>?_))
 ·have h:c=10:=by simpa using h
  subst h
  refine iP u3 n3 (.inl ⟨rfl,rfl⟩) fun H1 l1 hf=>?_
  exact af ⟨⟨_,rfl,Oe (hf _ List.mem_cons_self)⟩,rfl⟩
 have n10:c ≠ 10:=by simpa using h
 refine ab _ (aw _ _) (aj (fun h=>?_) (fun h=>?_))
 ·have h:c=12:=by simpa using h
  subst h
  refine iP u4 n4 (.inl ⟨rfl,rfl⟩) fun H1 l1 hf=>?_
  exact af ⟨⟨_,rfl,Oe (hf _ List.mem_cons_self)⟩,rfl⟩
 have n12:c ≠ 12:=by simpa using h
 refine af ⟨?_,rfl⟩
 rw[o9,if_neg (by omega),if_neg (by omega),if_neg (by omega),if_neg (by omega),if_neg n7,if_neg n8,if_neg n9,if_neg n10,if_neg n12]
 rfl
theorem Ui {c:Int} {k:Bool} {r1 r2 r0:Nat} {H:Heap} (h1:k=true→c=3∨c=4) (h2:k=false→¬ (c=1∨c=2∨c=3∨c=4)):(jX (.bool k) r1 [iV c] r2 r0).den PP (VW c) H []:=by
 simp only[jX]
 obtain⟨d2,u2,n2⟩:=Uy
 refine aj (fun hk=>?_) (fun hk=>?_)
 ·refine iP u2 n2 (.inl ⟨rfl,rfl⟩) fun H1 l1 hf=>?_
  refine af ⟨?_,rfl⟩
  rw[o9,if_neg (by have:=h1 hk;omega),if_neg (by have:=h1 hk;omega),if_pos (h1 hk)]
  exact⟨_,rfl,TK (hf _ List.mem_cons_self)⟩
 have hn:=h2 hk
 refine ab _ (aw _ _) (aj (fun h=>?_) (fun h=>?_))
 ·have h':c=5:=by simpa using h
  exact R9 (fun _=>.inl h') (fun e=>by rw[h] at e;cases e)
 have n5:c ≠ 5:=by simpa using h
 refine ab _ (aw _ _) (aj (fun h=>?_) (fun h=>?_))
 ·have h':c=6:=by simpa using h
  exact R9 (fun _=>.inr (.inl h')) (fun e=>by rw[h] at e;cases e)
 have n6:c ≠ 6:=by simpa using h
 refine ab _ (aw _ _) ?_
 exact R9 (fun e=>.inr (.inr (by simpa using e))) (fun e=>by have:c ≠ 11:=(by simpa using e);omega)
theorem VL (c:Int) (H:Heap):Triple PP AE [iV c] H [] (VW c):=by
 refine DD (vs:=[iV c]) (by kernel_rfl) ⟨rfl,trivial⟩ ?_
 simp only[Ar]
 obtain⟨d2,u2,n2⟩:=Uy
 refine ah fun r0=>ah fun r1=>ah fun r2=>?_
 refine ab _ (aw _ _) (aj (fun h=>?_) (fun h=>?_))
 ·have h:c=1:=by simpa using h
  subst h
  refine uf _ (fun Hf _ _=>EK r2 Hf) rfl ⟨rfl,trivial⟩ fun H1 l1 hf=>?_
  refine ah fun r5=>?_
  refine iQ (ad:=⟨r2,0,none⟩) (rows:=aJ [1,2,3]) (news:=aJ [4,5]) (size:=1) (e:=156) (by kernel_rfl) (QK (hf _ List.mem_cons_self)) (fun Hf _ hf2=>TK (hf2 _ List.mem_cons_self)) (by rw[show gh PP 156=8 by kernel_rfl];decide) (by decide) fun v' H2 l2 hs=>?_
  exact af ⟨⟨_,rfl,hs⟩,rfl⟩
 have n1:c ≠ 1:=by simpa using h
 refine ab _ (aw _ _) (aj (fun h=>?_) (fun h=>?_))
 ·have h:c=2:=by simpa using h
  subst h
  refine iP u2 n2 (.inl ⟨rfl,rfl⟩) fun H1 l1 hf=>?_
  exact af ⟨⟨_,rfl,TK (hf _ List.mem_cons_self)⟩,rfl⟩
 have n2':c ≠ 2:=by simpa using h
 refine ab _ (aw _ _) (aj (fun h=>?_) (fun h=>?_))
 ·have h':c=3:=by simpa using h
  exact Ui (fun _=>.inl h') (fun e=>by rw[h] at e;cases e)
 have n3:c ≠ 3:=by simpa using h
 refine ab _ (aw _ _) ?_
 exact Ui (fun e=>.inr (by simpa using e)) (fun e=>by have:c ≠ 4:=(by simpa using e);omega)
theorem NT {H:Heap} {O:Go.Sx.Own} {v:Value} {l:List Int} (h:RSl H O 1 v (l.map fun n=>[I9 n])) (x:Int):RetO PP cn [v,I9 x] H O (I9 (Em l x 0)):=by
 refine eL (vs:=[v,I9 x]) (by kernel_rfl) ⟨h.one,rfl,trivial⟩ ?_
 simp only[cj]
 refine ab _ h.len ?_
 refine aY l.length (fun i H' O'=>O'=O∧Heap.le H H'∧Em l x 0=Em (l.drop i) x i) ⟨rfl,Heap.le_refl H,by simp⟩ ?_
 rintro i H' O' hi - ⟨rfl,hle,hor⟩
 refine ab _ (aG _ _) (aj (fun hb=>?_) (fun hb=>?_))
 ·have hlt:i < l.length:=by simpa using hb
  obtain⟨a,h1,h2,_,h3,h4⟩:=(h.le hle).idx .i64 i [I9 l[i]] (by simp[hlt])
  refine ab _ h1 (aA h2 h3 h4 (ab _ (aw _ _) (aj (fun hb=>?_) (fun hb=>?_))))
  ·refine af ⟨?_,rfl⟩
   rw[hor,List.drop_eq_getElem_cons hlt,Em,if_pos hb];rfl
  ·refine ab _ (aD (by have:=h.lenB;simp at this;omega)) (aN (by simp[Eqs,E]) hlt ⟨rfl,hle,?_⟩)
   rw[hor,List.drop_eq_getElem_cons hlt,Em,if_neg (by rw[hb];simp)];rfl
 ·have hge:l.length≤i:=by simpa using hb
  refine af ⟨?_,rfl⟩
  rw[hor,List.drop_of_length_le hge];rfl
theorem GT {H:Heap} {O:Go.Sx.Own} {v:Value} {l:List Int} (h:RSl H O 1 v (l.map fun n=>[I9 n])) (x:Int):RetO PP bO [v,I9 x] H O (.bool (l.contains x)):=by
 refine ep (vs:=[v,I9 x]) (by kernel_rfl) ⟨h.one,rfl,trivial⟩ ?_
 simp only[bN]
 refine am (NT h x) rfl ⟨rfl,trivial⟩ fun H1 _=>ab _ (eC _ _) (af ⟨?_,rfl⟩)
 rw[← Jm l x 0 (by omega)]
theorem QH {H:Heap} {O:Go.Sx.Own} (p m:Int):RetO PP AA [iV p,iV m] H O (iV (max 0 (min p m))):=by
 refine Dw (vs:=[iV p,iV m]) (by kernel_rfl) ⟨rfl,rfl,trivial⟩ ?_
 simp only[An]
 exact ab _ (Py _ _) (ab _ (PG _ _) (af ⟨rfl,rfl⟩))
theorem qS (n lo hi:Int) (H:Heap) (O:Go.Sx.Own):RetO PP qw [iV n,iV lo,iV hi] H O (.bool (Nh n lo hi)):=by
 refine u5 (vs:=[iV n,iV lo,iV hi]) (by kernel_rfl) ⟨rfl,rfl,rfl,trivial⟩ ?_
 simp only[qe]
 refine ab _ (eC _ _) (aj (fun h=>?_) (fun h=>?_))
 ·refine am (QH n hi) rfl ⟨rfl,trivial⟩ fun H1 _=>ab _ (aw _ _) (af ⟨?_,rfl⟩)
  rw[Nh,h,Bool.true_and]
 ·refine af ⟨?_,rfl⟩
  rw[Nh,h,Bool.false_and]
theorem sV {H:Heap} {O:Go.Sx.Own} {s:Value} {l:List Int} (h:RSl H O 1 s (aJ l)) (e:Eff):RetO PP iw [s,.agg e.row.toArray] H O (.bool (P2 l e)):=by
 refine q8 (vs:=s::e.row) (by kernel_rfl) ⟨h.one,sQ e⟩ ?_
 simp only[lC]
 refine ah fun r0=>?_
 refine ae ?_
 refine am (GT h e.target) rfl ⟨rfl,trivial⟩ fun H1 _=>?_
 refine ae (ai (ai ?_))
 refine ab _ (aw _ _) ?_
 refine ai ?_
 refine ab _ (bu _ _) ?_
 refine ae (ai (ai ?_))
 refine ab _ (aw _ _) ?_
 refine ai ?_
 refine ab _ (bu _ _) ?_
 refine ae (ai (ai ?_))
 refine ab _ (aw _ _) ?_
 refine ai ?_
 refine ab _ (bu _ _) ?_
 exact af ⟨rfl,rfl⟩
theorem CO {H:Heap} {O:Go.Sx.Own} {s:Value} {l:List Int} (h:RSl H O 1 s (aJ l)) (m:Int) (e:Eff):RetO PP fN [.agg #[s,iV m],.agg e.row.toArray] H O (.bool (Nw l m e)):=by
 refine ny (vs:=s::iV m::e.row) (by kernel_rfl) ⟨h.one,rfl,sQ e⟩ ?_
 simp only[jk]
 refine ah fun r0=>ah fun r1=>?_
 refine ae (ae (ae ?_))
 refine am (qS e.n 1 m _ _) rfl ⟨rfl,trivial⟩ fun H1 l1=>aj (fun hb=>?_) (fun hb=>?_)
 ·refine ae (ae ?_)
  refine am (sV (h.le l1) { e with n:=0 }) rfl ⟨rfl,trivial⟩ fun H2 _=>af ⟨?_,rfl⟩
  rw[Nw,hb,Bool.true_and];rfl
 ·refine af ⟨?_,rfl⟩
  rw[Nw,hb,Bool.false_and]
theorem KO {H:Heap} {O:Go.Sx.Own} {s:Value} {l:List Int} (h:RSl H O 1 s (aJ l)) {m:Int} (hm:0≤m) (e:Eff):RetO PP gi [.agg #[s,iV m],.agg e.row.toArray] H O (.bool (Nv l m e)):=by
 refine oK (vs:=s::iV m::e.row) (by kernel_rfl) ⟨h.one,rfl,sQ e⟩ ?_
 simp only[jE]
 refine ah fun r0=>ah fun r1=>?_
 refine ae (ae (ae (ae ?_)))
 refine am (qS e.n 0 9 _ _) rfl ⟨rfl,trivial⟩ fun H1 l1=>aj (fun hb=>?_) (fun hb=>?_)
 rotate_left
 ·refine af ⟨?_,rfl⟩
  rw[Nv,hb];rfl
 refine ae ?_
 refine am (qS e.m m 9 _ _) rfl ⟨rfl,trivial⟩ fun H2 l2=>?_
 refine ai (ai ?_)
 have hw:∃ z,al (.bin .add .int) [iV e.n,iV e.m]=some (iV z)∧(Nh e.m m 9=true→z=e.n + e.m):=by
  refine⟨IntKind.i64.wrap (e.n + e.m),rfl,fun hm9=>?_⟩
  simp only[Nh,Bool.and_eq_true,decide_eq_true_eq,beq_iff_eq] at hb hm9
  exact dN (by omega) (by omega)
 obtain⟨z,hz,hze⟩:=hw
 refine ab _ hz ?_
 refine ai ?_
 refine ab _ (bG _ _) ?_
 refine ai ?_
 refine ab _ (bu _ _) (aj (fun hc=>?_) (fun hc=>?_))
 ·rw[Bool.and_eq_true] at hc
  refine ae (ae ?_)
  refine am (sV (h.le (Heap.le_trans l1 l2)) { e with n:=0,m:=0 }) rfl ⟨rfl,trivial⟩ fun H3 _=>af ⟨?_,rfl⟩
  rw[Nv,hb,hc.1,← hze hc.1,hc.2];rfl
 ·refine af ⟨?_,rfl⟩
  rw[Nv,hb,Bool.true_and]
  by_cases hm9:Nh e.m m 9=true
  ·rw[hm9,Bool.true_and] at hc
   rw[hm9,← hze hm9,Bool.true_and,hc];rfl
  ·rw[show Nh e.m m 9=false by simpa using hm9];rfl
theorem KP {H:Heap} {O:Go.Sx.Own} {s:Value} {l:List Int} (h:RSl H O 1 s (aJ l)) (m:Int) (e:Eff):RetO PP fu [.agg #[s,iV m],.agg e.row.toArray] H O (.bool (P0 l m e)):=by
 refine mw (vs:=s::iV m::e.row) (by kernel_rfl) ⟨h.one,rfl,sQ e⟩ ?_
 simp only[iG]
 refine ah fun r0=>ah fun r1=>?_
 refine ae (ae ?_)
 refine am (qS e.colour 0 3 _ _) rfl ⟨rfl,trivial⟩ fun H1 l1=>aj (fun hb=>?_) (fun hb=>?_)
 ·refine ae (ae ?_)
  refine am (CO (h.le l1) m { e with colour:=0 }) rfl ⟨rfl,trivial⟩ fun H2 _=>af ⟨?_,rfl⟩
  rw[P0,hb,Bool.true_and];rfl
 ·refine af ⟨?_,rfl⟩
  rw[P0,hb,Bool.false_and]
theorem Eb {t:TypeId} {v:Value}:∀ w,((PrimOp.eqv .neq 298 true).sem [.iface t v,.nilIface]).run PP w=.ok (.value (.bool true)) w:=fun w=>by kernel_rfl
theorem Pv:∀ w,((PrimOp.eqv .neq 298 true).sem [.nilIface,.nilIface]).run PP w=.ok (.value (.bool false)) w:=fun w=>by kernel_rfl
theorem MK (v:Value):w9 PP "zeitnot/effect.fits" (.iface 351 v) iw v:=⟨_,_,rfl,fun w=>by kernel_rfl⟩
theorem PE (v:Value):w9 PP "zeitnot/effect.fits" (.iface 354 v) fN v:=⟨_,_,rfl,fun w=>by kernel_rfl⟩
theorem PC (v:Value):w9 PP "zeitnot/effect.fits" (.iface 356 v) gi v:=⟨_,_,rfl,fun w=>by kernel_rfl⟩
theorem PD (v:Value):w9 PP "zeitnot/effect.fits" (.iface 358 v) fu v:=⟨_,_,rfl,fun w=>by kernel_rfl⟩
theorem JS {H:Heap} {R:Rl9} {r:Value} (h:Rm H R r):r.oneCell'=true:=by
 cases R with
 | no=>rw[show r=.nilIface from h];rfl
 | bare l=>obtain⟨s,rfl,_⟩:=h;rfl
 | cnt l m=>obtain⟨s,rfl,_⟩:=h;rfl
 | par l m=>obtain⟨s,rfl,_⟩:=h;rfl
 | col l m=>obtain⟨s,rfl,_⟩:=h;rfl
theorem Ph {c:Int} {l:List Int} {m:Int} (h:o9 c=.par l m):0≤m:=by
 rw[o9] at h
 repeat' (split at h)
 all_goals first | (injection h with h1 h2;omega) | cases h
theorem Iw (e:Eff) (H:Heap):RetO PP rX [.agg e.row.toArray] H [] (.bool (Qd e)):=by
 refine xP (vs:=e.row) (by kernel_rfl) (sQ e) ?_
 simp only[rE]
 refine ah fun r0=>?_
 refine ae ?_
 refine az (VL e.code H) ?_
 rintro r H1 _ ⟨hr,rfl⟩ l1
 refine⟨[r],rfl,⟨JS hr,trivial⟩,?_⟩
 have hpp:=@Ph e.code
 rw[Qd]
 generalize o9 e.code=R at hr hpp
 cases R with
 | no =>
  rw[show r=.nilIface from hr]
  refine⟨_,fun _=>Pv,rfl,aj (fun hd=>by cases hd) (fun _=>?_)⟩
  exact af ⟨rfl,rfl⟩
 | bare l =>
  obtain⟨s,rfl,hs⟩:=hr
  refine⟨_,fun _=>Eb,rfl,aj (fun _=>?_) (fun hd=>by cases hd)⟩
  refine ae ?_
  exact ue (MK s) (dE fc (by decide)) (sV (hs.rsl []) e) rfl ⟨rfl,trivial⟩ fun H2 l2=>af ⟨rfl,rfl⟩
 | cnt l m =>
  obtain⟨s,rfl,hs⟩:=hr
  refine⟨_,fun _=>Eb,rfl,aj (fun _=>?_) (fun hd=>by cases hd)⟩
  refine ae ?_
  exact ue (PE _) (dE fc (by decide)) (CO (hs.rsl []) m e) rfl ⟨rfl,trivial⟩ fun H2 l2=>af ⟨rfl,rfl⟩
 | par l m =>
  obtain⟨s,rfl,hs⟩:=hr
  refine⟨_,fun _=>Eb,rfl,aj (fun _=>?_) (fun hd=>by cases hd)⟩
  refine ae ?_
  exact ue (PC _) (dE fc (by decide)) (KO (hs.rsl []) (hpp rfl) e) rfl ⟨rfl,trivial⟩ fun H2 l2=>af ⟨rfl,rfl⟩
 | col l m =>
  obtain⟨s,rfl,hs⟩:=hr
  refine⟨_,fun _=>Eb,rfl,aj (fun _=>?_) (fun hd=>by cases hd)⟩
  refine ae ?_
  exact ue (PD _) (dE fc (by decide)) (KP (hs.rsl []) m e) rfl ⟨rfl,trivial⟩ fun H2 l2=>af ⟨rfl,rfl⟩
end Go.Proofs.YteakpllehopodaaGreatDoor
