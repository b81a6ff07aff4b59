/- Prompts: lists of answers; who keeps; what is asked on a quiet board. -/
import Derived.Test.YteakpllehopodaaGreatDoorC51
import Derived.Test.YteakpllehopodaaGreatDoorC6
namespace Go.Proofs.YteakpllehopodaaGreatDoor
open Go Go.Sx
set_option maxRecDepth 100000
set_option maxHeartbeats 1000000
theorem yb {P:Program} {t ty e:TypeId} {size:Nat} (ha:rn P t e size=true) {ad:Addr} {rows news:List (List Value)} {x:Value} {H:Heap} {O:Go.Sx.Own} {frz:List BV} {K:List Value→List (List Value)→Heap→Go.Sx.Own→Prop}
  (hr:∀ Hf,Heap.le H Hf→(∀ b ∈ frz,Hf b.r=some b.obj.2)→Sl Hf size (.slice (some ad) rows.length rows.length) rows) (hx:∀ Hf,Heap.le H Hf→(∀ b ∈ frz,Hf b.r=some b.obj.2)→Sl Hf size x news)
  (hb:(rows.length + news.length) * gh P e≤140737488355328) (h63:rows.length + news.length < 2 ^ 63) (hk:∀ v' H',Heap.le H H'→Sl H' size v' (rows++news)→K [v'] [] H' O) :
  dc (fun H1 O1 R=>ba P ((PrimOp.bi .append #[t,t] ty).sem [.slice (some ad) rows.length rows.length,x]) H1 O1 R) false frz [] .one K H O:=by
 intro hc
 have hf:=fg hc
 have hl:=Heap.le_insAll frz H
 refine⟨H.insAll frz,[],O,_,Ghost.refl _ _,by simpa using vN (ty:=ty) ha (hr _ hl hf) (hx _ hl hf) hb h63,?_⟩
 rintro v' H' O' ⟨rfl,hle,hs⟩ _
 exact⟨[v'],[],[],rfl,⟨hs.one,trivial⟩,trivial,rfl,hk v' H' (Heap.le_trans hl hle) hs⟩
theorem U3:gh PP dV=24:=by kernel_rfl
def im (k a t:Int):List Value:=[iV k,iV a,iV t]
def Wy (r:Value) (H':Heap) (O':Go.Sx.Own):Prop:=(∃ rows:List (List Value),Sl H' 3 r rows∧rows.length≤1001)∧O'=[]
theorem UJ {H:Heap} {lv:Value} {l:List Int} (hs:Sl H 1 lv (aJ l)) (hl:l.length≤1000) (k:Int) (r0:Nat) (T:TypeId) :
  Triple PP nj [lv,.func (.func mh) #[] #[gp r0]] H [uQ r0 T [iV k]] fun r _ O'=>∃ A,O'=[uQ r0 T [iV k]]++A∧OSl dV 3 r (l.map fun id=>im k id 0) A:=by
 refine sr (vs:=[lv,.func (.func mh) #[] #[gp r0]]) (by kernel_rfl) ⟨hs.one,rfl,trivial⟩ ?_
 simp only[mU]
 have hlen:al .len [lv]=some (iV l.length):=by have:=hs.len;rwa [aJ,List.length_map] at this
 refine ab _ hlen ?_
 refine eE l.length (fun i x H' O'=>Heap.le H H'∧∃ A,O'.Perm ([uQ r0 T [iV k]]++A)∧OSl dV 3 x ((l.take i).map fun id=>im k id 0) A) ⟨Heap.le_refl _,[],by simp,OSl.nil _ _⟩ ?_
 rintro i x H' O' hi - ⟨hle,A,hO,hx⟩
 refine ab _ (aG _ _) (aj (fun hb=>?_) (fun hb=>?_))
 ·have hlt:i < l.length:=by simpa using hb
  obtain⟨a,i1,i2,_,i3,i4⟩:=((hs.le hle).rsl O').idx .i64 i [iV l[i]] (by simp[aJ,hlt])
  refine ab _ i1 (aA i2 i3 i4 ?_)
  refine dU (r:=.agg (im k l[i] 0).toArray) rfl (dE fc (by decide)) ?_ rfl (vs:=im k l[i] 0) ⟨rfl,rfl,rfl,trivial⟩ fun H2 l2=>ah fun r1=>?_
  ·refine xI (vs:=[iV l[i],gp r0]) (by kernel_rfl) ⟨rfl,rfl,trivial⟩ ?_
   simp only[ry]
   refine ah fun r2=>?_
   refine au (cs:=[iV k]) (T:=T) (hO.mem_iff.2 List.mem_cons_self) [iV k] rfl rfl ⟨rfl,trivial⟩ ?_
   refine ae (ae ?_)
   exact af ⟨rfl,rfl⟩
  have htl:(l.take i).length=i:=by rw[List.length_take];omega
  refine aH (rows:=(l.take i).map fun id=>im k id 0) (news:=[im k l[i] 0]) (O1:=A) (O2:=[uQ r0 T [iV k]]) (e:=dV) (size:=3) (bytes:=24) (by kernel_rfl) (hO.trans List.perm_append_comm) hx (fun Hf _ hf=>Sl.block1 (hf _ List.mem_cons_self) rfl ⟨rfl,rfl,rfl,trivial⟩) (by simp[htl];omega) (by simp[htl];omega) ?_
  intro y A' H3 l3 hA'
  refine ab _ (aD (by omega)) (aV (by simp[Eqs,E]) hlt ⟨Heap.le_trans hle (Heap.le_trans l2 l3),A',List.perm_append_comm,?_⟩)
  rw[List.take_add_one,List.getElem?_eq_getElem hlt,Option.toList_some,List.map_append]
  exact hA'
 ·have hge:l.length≤i:=by have:=of_decide_eq_false hb;omega
  rw[List.take_of_length_le hge] at hx
  exact FB hO ⟨A,rfl,hx⟩
theorem VM {H:Heap} {lv:Value} {l:List Int} (hs:Sl H 1 lv (aJ l)) (hl:l.length≤1000) (k:Int):Triple PP xk [iV k,lv] H [] Wy:=by
 refine Triple.ghost (Q:=fun r _ O'=>OSl dV 3 r (l.map fun id=>im k id 0) O') ?_ ?_
 ·refine AX (vs:=[iV k,lv]) (by kernel_rfl) ⟨rfl,hs.one,trivial⟩ ?_
  simp only[wL]
  refine ah fun r0=>?_
  refine gv (own:=[⟨r0,67,[iV k]⟩]) (O1:=[]) (O2:=[]) (by simp) (R:=fun y _ O3=>OSl dV 3 y (l.map fun id=>im k id 0) O3) (Triple.mono (UJ hs hl k r0 _) ?_) ⟨rfl,⟨rfl,trivial⟩,trivial⟩ ?_
  ·rintro y _ _ _ ⟨A,rfl,hA⟩
   exact⟨A,rfl,hA⟩
  ·intro y H5 O5 h5 l5
   exact⟨[y],rfl,⟨h5.one,trivial⟩,af (by rw[List.append_nil];exact h5)⟩
 ·rintro r H' O' _ hc h1
  obtain⟨H1,g1,k1,_⟩:=h1.freeze (X:=[]) (by simpa using hc)
  exact⟨H1,[],by simpa using g1,⟨_,k1,by rw[List.length_map];omega⟩,rfl⟩
theorem Tn (p k:Int) {v:Value} (hv:v.oneCell'=true) (H:Heap) (O:Go.Sx.Own):RetO PP xm [iV p,iV k,v] H O (.agg #[iV p,iV k,v]):=by
 refine AY (vs:=[iV p,iV k,v]) (by kernel_rfl) ⟨rfl,rfl,hv,trivial⟩ ?_
 simp only[wM]
 refine ah fun r0=>?_
 refine ae (ae ?_)
 exact af ⟨rfl,rfl⟩
def PrQ (p k a:Int) (r:Value) (H':Heap) (O':Go.Sx.Own):Prop:=(∃ v rows,r=.agg #[iV p,iV k,v]∧Sl H' 3 v (im a 0 0::rows)∧rows.length≤1001)∧O'=[]
theorem Qq {H:Heap} {v:Value} {rows:List (List Value)} (hs:Sl H 3 v rows) (hl:rows.length≤1001) (p k:Int):Triple PP uG [iV p,iV k,v] H [] (PrQ p k 1):=by
 refine yH (vs:=[iV p,iV k,v]) (by kernel_rfl) ⟨rfl,rfl,hs.one,trivial⟩ ?_
 simp only[uo]
 refine ah fun r0=>ah fun r1=>?_
 refine Ab (rows:=[im 1 0 0]) (news:=rows) (e:=dV) (size:=3) (by kernel_rfl) (fun Hf _ hf=>Sl.block1 (hf _ List.mem_cons_self) rfl ⟨rfl,rfl,rfl,trivial⟩) hs (by rw[U3,List.length_singleton];omega) (by rw[List.length_singleton];omega) ?_
 intro y H1 l1 hy
 refine am (Tn p k hy.one _ _) rfl (vs:=[iV p,iV k,y]) ⟨rfl,rfl,hy.one,trivial⟩ fun H2 l2=>?_
 refine ae (ae ?_)
 exact af ⟨⟨y,rows,rfl,hy.le l2,hl⟩,rfl⟩
theorem SY {H:Heap} (c:Cf) {v:cI} {b:Bd} (h:BdS H v b) (hq:Qt b) {n:Int} (hk:b.s0.kept=false∨b.s1.kept=false) :
  Triple PP mg [.agg (cfC c).toArray,.agg (ao v b).toArray,iV n] H [] (PrQ (if b.s0.kept then 1 else 0) 1 2):=by
 refine og (vs:=cfC c++(ao v b++[iV n])) (by kernel_rfl) (aK ⟨rfl,rfl,rfl,rfl,rfl,rfl,trivial⟩ (aK (ap (h.r [])) ⟨rfl,trivial⟩)) ?_
 simp only[mb]
 have body:∀ (r3 r0 r2:Nat) (n1 n2 n3:Nat) (i:Int) (m x y:Int),g (cfC c++(ao v b++[iV n])) n1=iV m→al .len [g (cfC c++(ao v b++[iV n])) n2]=some (iV x)→al .len [g (cfC c++(ao v b++[iV n])) n3]=some (iV y)→0≤x∧x≤1000∧0≤y∧y≤1000 →
   (gB r3 r0 (cfC c++(ao v b++[iV n])) n1 n2 n3 i r2).den PP (PrQ i 1 2) H []:=by
  intro r3 r0 r2 n1 n2 n3 i m x y e1 e2 e3 hxy
  unfold gB
  rw[e1]
  refine ah fun r5=>?_
  refine ae (ae ?_)
  refine ab _ (aG _ _) ?_
  refine ae (ai (ai ?_))
  refine ab _ e2 ?_
  refine ae (ai (ai ?_))
  refine ab _ e3 ?_
  refine ai (ai ?_)
  refine ab (iV (x + y)) (by simp only[al,bA,bq,if_true];rw[dN (by omega) (by omega)]) ?_
  refine ai ?_
  refine ab (iV (x + y - 1)) (by simp only[al,bA,bq,if_true];rw[dN (by omega) (by omega)]) ?_
  refine ai (ai ?_)
  refine ab _ (eC _ _) ?_
  refine ai ?_
  refine ab _ (bu _ _) (aj (fun _=>ah fun r6=>?_) (fun _=>?_))
  ·refine yb (rows:=[im 2 0 0]) (news:=[im 3 0 0]) (e:=dV) (size:=3) (by kernel_rfl) (fun Hf _ hf=>Sl.block1 (hf _ List.mem_cons_self) rfl ⟨rfl,rfl,rfl,trivial⟩) (fun Hf _ hf=>Sl.block1 (hf _ (List.mem_cons_of_mem _ List.mem_cons_self)) rfl ⟨rfl,rfl,rfl,trivial⟩) (by rw[U3];decide) (by decide) ?_
   intro u H1 l1 hu
   refine am (Tn i 1 hu.one _ _) rfl (vs:=[iV i,iV 1,u]) ⟨rfl,rfl,hu.one,trivial⟩ fun H2 l2=>?_
   refine ae (ae ?_)
   exact af ⟨⟨u,_,rfl,hu.le l2,by simp⟩,rfl⟩
  ·refine uf (.agg #[iV i,iV 1,.slice (some ⟨r5,0,none⟩) 1 1]) (fun Hf _ _=>Tn i 1 rfl Hf []) rfl (vs:=[iV i,iV 1,.slice (some ⟨r5,0,none⟩) 1 1]) ⟨rfl,rfl,rfl,trivial⟩ fun H2 _ hf=>?_
   refine ae (ae ?_)
   exact af ⟨⟨_,[],rfl,Sl.block1 (row:=im 2 0 0) (hf _ List.mem_cons_self) rfl ⟨rfl,rfl,rfl,trivial⟩,by simp⟩,rfl⟩
 have hls:=hq.lens
 have q1:∀ {u:Value} {l:List Int},Sl H 1 u (aJ l)→al .len [u]=some (iV l.length):=fun hs=>by have:=hs.len;rwa [aJ,List.length_map] at this
 refine ah fun r0=>ah fun r1=>ah fun r2=>?_
 refine ae ?_
 refine ah fun r3=>?_
 refine ae (ae ?_)
 refine aj (fun hd=>?_) (fun hd=>?_)
 ·have hd:b.s0.kept=true:=hd
  refine ah fun r4=>?_
  refine ae (ae ?_)
  refine aj (fun he=>?_) (fun he=>?_)
  ·have he:b.s1.kept=true:=he
   rcases hk with hk | hk
   ·rw[hd] at hk;cases hk
   ·rw[he] at hk;cases hk
  ·rw[hd,if_pos rfl]
   exact body r4 r0 r2 33 26 27 1 b.s1.mull _ _ rfl (q1 h.s1.lib) (q1 h.s1.hand) (by omega)
 ·have hd:b.s0.kept=false:=hd
  rw[hd,if_neg (by simp)]
  exact body r3 r0 r2 19 12 13 0 b.s0.mull _ _ rfl (q1 h.s0.lib) (q1 h.s0.hand) (by omega)
theorem UI {H:Heap} {O:Go.Sx.Own} {r2 r1:Nat} {T2 T1:TypeId} {v:cI} {b:Bd} {c:Cf} (m2:uQ r2 T2 (ao v b) ∈ O) (m1:uQ r1 T1 (cfC c) ∈ O) {p:Int} (hp:p=0∨p=1) :
  RetO PP jZ [iV p,gp r2,gp r1] H O (.bool (decide ((cg b p).acts < c.acts))):=by
 refine yJ (vs:=[iV p,gp r2,gp r1]) (by kernel_rfl) ⟨rfl,rfl,rfl,trivial⟩ ?_
 simp only[ut]
 refine ak rfl ?_
 rcases hp with rfl | rfl
 ·refine ab (.pointer (some ⟨r2,1,none⟩)) rfl ?_
  refine ak rfl ?_
  refine au m2 [iV b.s0.acts] rfl rfl ⟨rfl,trivial⟩ ?_
  refine ak rfl ?_
  refine au m1 [iV c.acts] rfl rfl ⟨rfl,trivial⟩ ?_
  exact ab _ (aG _ _) (af ⟨rfl,rfl⟩)
 ·refine ab (.pointer (some ⟨r2,15,none⟩)) rfl ?_
  refine ak rfl ?_
  refine au m2 [iV b.s1.acts] rfl rfl ⟨rfl,trivial⟩ ?_
  refine ak rfl ?_
  refine au m1 [iV c.acts] rfl rfl ⟨rfl,trivial⟩ ?_
  exact ab _ (aG _ _) (af ⟨rfl,rfl⟩)
theorem S0 {H:Heap} {cv:Value} {cs:List CdF} (hk:CardsF H cv cs) (hsm:∀ c ∈ cs,smC c) {v:cI} {b:Bd} (h:BdS H v b) (hq:Qt b) {p:Int} (hp:p=0∨p=1) {c:Cf} {O:Go.Sx.Own}
  {r4 r0 r2 r1:Nat} {T4 T0 T2 T1:TypeId} (m4:uQ r4 T4 [.func (.func jZ) #[] #[gp r2,gp r1]] ∈ O) (m0:uQ r0 T0 [cv] ∈ O) (m2:uQ r2 T2 (ao v b) ∈ O) (m1:uQ r1 T1 (cfC c) ∈ O) :
  Triple PP uH [iV p,.bool false,gp r4,gp r0,gp r2] H O fun r H' O'=>(∃ rows:List (List Value),Sl H' 3 r rows∧rows.length≤1001)∧O'=O:=by
 refine yI (vs:=[iV p,.bool false,gp r4,gp r0,gp r2]) (by kernel_rfl) ⟨rfl,rfl,rfl,rfl,rfl,trivial⟩ ?_
 simp only[uq]
 refine au m4 [.func (.func jZ) #[] #[gp r2,gp r1]] rfl rfl ⟨rfl,trivial⟩ ?_
 refine dU rfl (dE fc (by decide)) (UI m2 m1 hp) rfl ⟨rfl,trivial⟩ fun H1 l1=>?_
 refine ab _ (aC _) (aj (fun _=>af ⟨⟨[],Sl.nil _ _,by simp⟩,rfl⟩) (fun _=>?_))
 refine au m0 [cv] rfl rfl ⟨hk.one,trivial⟩ ?_
 refine au m2 (ao v b) rfl rfl (ap (h.r [])) ?_
 refine az (Tu (hk.le l1) hsm (h.le l1) hq hp) ?_
 rintro x H2 _ ⟨⟨l,hl,hll⟩,rfl⟩ l2
 refine⟨[x],rfl,⟨hl.one,trivial⟩,?_⟩
 refine az (VM hl hll 4) ?_
 rintro y H3 _ ⟨⟨rows,hr,hrl⟩,rfl⟩ l3
 exact⟨[y],rfl,⟨hr.one,trivial⟩,af ⟨⟨rows,hr,hrl⟩,rfl⟩⟩
theorem Qp {H:Heap} {O:Go.Sx.Own} (c:Cf) {v:cI} {b:Bd} (h:BdR H O v b) {n:Int} (h0:b.s0.kept=true) (h1:b.s1.kept=true) :
  RetO PP mg [.agg (cfC c).toArray,.agg (ao v b).toArray,iV n] H O (.agg #[iV 0,iV 0,.slice none 0 0]):=by
 refine og (vs:=cfC c++(ao v b++[iV n])) (by kernel_rfl) (aK ⟨rfl,rfl,rfl,rfl,rfl,rfl,trivial⟩ (aK (ap h) ⟨rfl,trivial⟩)) ?_
 simp only[mb]
 refine ah fun r0=>ah fun r1=>ah fun r2=>?_
 refine ae ?_
 refine ah fun r3=>?_
 refine ae (ae ?_)
 refine aj (b:=b.s0.kept) (fun hd=>?_) (fun hd=>by rw[h0] at hd;cases hd)
 refine ah fun r4=>?_
 refine ae (ae ?_)
 refine aj (b:=b.s1.kept) (fun hd=>?_) (fun hd=>by rw[h1] at hd;cases hd)
 refine ae (ae ?_)
 exact af ⟨rfl,rfl⟩
def prK (b:Bd):Int:=if b.phase=0 then (if (b.s0.kept && b.s1.kept)=true then 0 else 1) else if b.phase=4∨b.phase=9 then 2 else 0
def Vw:Value:=.agg #[iV 0,iV 0,.slice none 0 0]
def OfR (b:Bd) (r:Value) (H':Heap) (O':Go.Sx.Own):Prop :=
 ((prK b=0∧r=Vw)∨(prK b=1∧PrQ (if b.s0.kept then 1 else 0) 1 2 r H' [])∨(prK b=2∧PrQ b.active 2 1 r H' []))∧O'=[]
def PhQ (b:Bd):Prop:=b.phase ≠ 6∧b.phase ≠ 7∧b.phase ≠ 8∧(b.phase=10→(cg b b.active).hand.length≤7)
theorem TL (x y:Bool):RQ PP (.eqv .neq 45 false) [.agg #[.bool x,.bool y],.agg #[.bool false,.bool false]]=some (.bool (x || y)):=by
 cases x <;> cases y <;> kernel_rfl
theorem Wt {H:Heap} {cv:Value} {cs:List CdF} (hk:CardsF H cv cs) (hsm:∀ c ∈ cs,smC c) {v:cI} {b:Bd} (h:BdS H v b) (hq:Qt b) (hph:PhQ b) {c:Cf} (hc:cfV c=true) {n:Int} (hn:0≤n) (he0:b.s0.empty=false) (he1:b.s1.empty=false) :
  Triple PP AD [cv,.agg (cfC c).toArray,.agg (ao v b).toArray,iV n] H [] (OfR b):=by
 refine Dz (vs:=cv::(cfC c++(ao v b++[iV n]))) (by kernel_rfl) ⟨hk.one,aK ⟨rfl,rfl,rfl,rfl,rfl,rfl,trivial⟩ (aK (ap (h.r [])) ⟨rfl,trivial⟩)⟩ ?_
 simp only[Aq]
 refine ah fun r0=>ah fun r1=>ah fun r2=>ah fun r3=>?_
 refine ab _ (aG _ _) (aj (fun hd=>by have:=of_decide_eq_true hd;omega) (fun _=>?_))
 refine ae ?_
 refine am (GV c _ _) rfl ⟨rfl,trivial⟩ fun H1 l1=>?_
 rw[hc]
 refine ab _ (aC _) (aj (fun hd=>by cases hd) (fun _=>?_))
 refine ae (ae ?_)
 refine am (JA hk.one ((h.le l1).r []) hq) rfl ⟨rfl,trivial⟩ fun H2 l2=>?_
 refine ab _ (aC _) (aj (fun hd=>by cases hd) (fun _=>?_))
 have l12:=Heap.le_trans l1 l2
 refine ae ?_
 obtain⟨hL0,hL1⟩:=MN hq
 refine am (Rh ((h.le l12).r [])) rfl (vs:=[.bool (PL b),.bool (PI b)]) ⟨rfl,rfl,trivial⟩ fun H3 l3=>?_
 rw[hL0,hL1,he0,he1]
 refine tK (TL false false) ?_
 have lq:al .len [v.q]=some (iV 0):=by
  obtain⟨rows,h1,h2,_⟩:=h.queue
  rw[hq.qu] at h2
  have:=h1.len
  rwa [h2] at this
 have ls:al .len [v.s]=some (iV 0):=by
  obtain⟨rows,h1,h2,_⟩:=h.stack
  rw[hq.st] at h2
  have:=h1.len
  rwa [h2] at this
 refine ae (ai (ai ?_))
 refine ab _ lq ?_
 refine ai ?_
 refine ab _ (bG _ _) ?_
 refine ai ?_
 refine ab _ (aO _ _) (aj (fun hd=>by cases hd) (fun _=>ah fun r4=>?_))
 refine ae (ae (ae ?_))
 have hac:=hq.ac
 refine ab (iV (1 - b.active)) (by simp only[g,ao,cfC,List.cons_append,List.nil_append,List.getD_cons_zero,List.getD_cons_succ,al,bA,bq,if_true];rw[dN (by omega) (by omega)]) ?_
 have l13:=Heap.le_trans l12 l3
 refine ae (ae ?_)
 refine am (N5 hk.one ((h.le l13).r []) hq) rfl ⟨rfl,trivial⟩ fun H4 l4=>?_
 have l14:=Heap.le_trans l13 l4
 obtain⟨p6,p7,p8,p10⟩:=hph
 have nonP:∀ {H':Heap},b.phase ≠ 0→b.phase ≠ 4→b.phase ≠ 9→OfR b Vw H' []:=fun h0 h4 h9=>⟨.inl ⟨by rw[prK,if_neg h0,if_neg (by omega)],rfl⟩,rfl⟩
 refine ae ?_
 refine ab _ (aw _ _) (aj (fun hd=>?_) (fun hd=>?_))
 ·have h0:b.phase=0:=beq_iff_eq.1 hd
  refine ae (ae ?_)
  by_cases hkk:(b.s0.kept && b.s1.kept)=true
  ·have hk2:=Bool.and_eq_true_iff.1 hkk
   refine am (Qp c ((h.le l14).r []) hk2.1 hk2.2) rfl (vs:=[iV 0,iV 0,.slice none 0 0]) ⟨rfl,rfl,rfl,trivial⟩ fun H5 l5=>?_
   refine ae (ae ?_)
   exact af ⟨.inl ⟨by rw[prK,if_pos h0,if_pos hkk],rfl⟩,rfl⟩
  ·refine az (SY c (h.le l14) hq (by cases h0:b.s0.kept <;> cases h1:b.s1.kept <;> simp[h0,h1] at hkk ⊢)) ?_
   rintro _ H5 _ ⟨⟨u,rows,rfl,hu,hul⟩,rfl⟩ l5
   refine⟨_,rfl,⟨rfl,rfl,hu.one,trivial⟩,?_⟩
   refine ae (ae ?_)
   exact af ⟨.inr (.inl ⟨by rw[prK,if_pos h0,if_neg hkk],⟨u,rows,rfl,hu,hul⟩,rfl⟩),rfl⟩
 have h0:b.phase ≠ 0:=beq_eq_false_iff_ne.1 hd
 refine ab _ (fx _ _) (aj (fun hd=>by cases hd) (fun _=>?_))
 refine ae ?_
 refine ab _ (eC _ _) (aj (fun hd=>?_) (fun _=>?_))
 ·have:=of_decide_eq_true hd
  have:=hq.ho
  omega
 refine ae ?_
 refine ab _ ls (ab _ (bG _ _) (aj (fun hd=>by cases hd) (fun _=>?_)))
 refine ae ?_
 have main:∀ (e:Bool) ,(b.phase=4∨b.phase=9→e=true)→(e=true→b.phase=4∨b.phase=9) →
   (jW (.bool e) (cv::(cfC c++(ao v b++[iV n]))) r4 r0 r2 r1 r3 (iV (1 - b.active))).den PP (OfR b) H4 []:=by
  intro e e1 e2
  unfold jW
  refine aj (fun he=>?_) (fun he=>?_)
  ·refine gv (O1:=[]) (O2:=[]) (by simp) (R:=fun y H' O3=>(∃ rows:List (List Value),Sl H' 3 y rows∧rows.length≤1001)∧O3=[]) (Triple.mono (S0 (hk.le l14) hsm (h.le l14) hq hac (c:=c) List.mem_cons_self (List.mem_cons_of_mem _ List.mem_cons_self) (List.mem_cons_of_mem _ (List.mem_cons_of_mem _ List.mem_cons_self)) (List.mem_cons_of_mem _ (List.mem_cons_of_mem _ (List.mem_cons_of_mem _ List.mem_cons_self)))) ?_) ⟨rfl,⟨rfl,trivial⟩,rfl,⟨hk.one,trivial⟩,rfl,ap (h.r []),rfl,⟨rfl,rfl,rfl,rfl,rfl,rfl,trivial⟩,trivial⟩ ?_
   ·rintro y _ _ _ ⟨hy,rfl⟩
    exact⟨[],by simp,hy,rfl⟩
   ·rintro y H5 _ ⟨⟨rows,hr,hrl⟩,rfl⟩ l5
    refine⟨[y],rfl,⟨hr.one,trivial⟩,?_⟩
    refine az (Qq hr hrl b.active 2) ?_
    rintro _ H6 _ ⟨⟨u,rows',rfl,hu,hul⟩,rfl⟩ l6
    refine⟨_,rfl,⟨rfl,rfl,hu.one,trivial⟩,?_⟩
    refine ae (ae ?_)
    exact af ⟨.inr (.inr ⟨by rw[prK,if_neg h0,if_pos (e2 he)],⟨u,rows',rfl,hu,hul⟩,rfl⟩),rfl⟩
  have h49:b.phase ≠ 4∧b.phase ≠ 9:=⟨fun h=>(by rw[e1 (.inl h)] at he;cases he),fun h=>(by rw[e1 (.inr h)] at he;cases he)⟩
  refine ab _ (aw _ _) (aj (fun hd=>?_) (fun hd=>?_))
  ·refine ae (ae ?_)
   refine az (GZ (CardsS.kinds (CardsF.base (hk.le l14))) (h.le l14) hq) ?_
   rintro u H5 _ ⟨⟨_,rfl,hu,hu1⟩,rfl⟩ l5
   refine⟨[u],rfl,⟨hu1,trivial⟩,?_⟩
   refine ab _ hu (ab _ (bG _ _) (aj (fun hd=>by cases hd) (fun _=>?_)))
   refine ae (ae ?_)
   exact af (nonP h0 h49.1 h49.2)
  refine ab _ (aw _ _) (aj (fun hd=>absurd (beq_iff_eq.1 hd) p6) (fun _=>?_))
  refine ab _ (aw _ _) (aj (fun hd=>?_) (fun hd=>?_))
  ·have h7:=p10 (beq_iff_eq.1 hd)
   unfold nT
   have q1:∀ {u:Value} {l:List Int},Sl H 1 u (aJ l)→al .len [u]=some (iV l.length):=fun hs=>by have:=hs.len;rwa [aJ,List.length_map] at this
   refine⟨.i64,b.active,rfl,fun ea=>?_,fun ea=>⟨.i64,b.active,rfl,fun ea'=>?_,fun ea'=>by omega⟩⟩
   ·rw[ea] at h7
    refine ae ?_
    refine ab _ (q1 h.s0.hand) (ab _ (bG _ _) (aj (fun hd=>?_) (fun _=>?_)))
    ·have:=of_decide_eq_true hd
     have h7:b.s0.hand.length≤7:=h7
     omega
    ·refine ae (ae ?_)
     exact af (nonP h0 h49.1 h49.2)
   ·rw[ea'] at h7
    refine ae ?_
    refine ab _ (q1 h.s1.hand) (ab _ (bG _ _) (aj (fun hd=>?_) (fun _=>?_)))
    ·have:=of_decide_eq_true hd
     have h7:b.s1.hand.length≤7:=h7
     omega
    ·refine ae (ae ?_)
     exact af (nonP h0 h49.1 h49.2)
  ·refine ae (ae ?_)
   exact af (nonP h0 h49.1 h49.2)
 refine ab _ (aw _ _) (aj (fun hd=>?_) (fun hd=>?_))
 ·have h4:b.phase=4:=beq_iff_eq.1 hd
  exact main (b.phase == 4) (fun _=>hd) (fun _=>.inl h4)
 ·have h4:b.phase ≠ 4:=beq_eq_false_iff_ne.1 hd
  refine ab _ (aw _ _) ?_
  exact main (b.phase == 9) (fun h=>by rcases h with h | h;exact absurd h h4;rw[h];rfl) (fun h=>.inr (beq_iff_eq.1 h))
theorem VR (a:Int) (ha:a=1∨a=2):RQ PP (.eqv .eql 69 false) [.agg #[iV a,iV 0,iV 0],.agg #[iV a,iV 0,iV 0]]=some (.bool true):=by
 rcases ha with rfl | rfl <;> kernel_rfl
theorem JB {H:Heap} {O:Go.Sx.Own} {v:Value} {rows:List (List Value)} {a:Int} (ha:a=1∨a=2) (hs:Sl H 3 v (im a 0 0::rows)) (p k:Int):RetO PP rU [.agg #[iV p,iV k,v],.agg #[iV a,iV 0,iV 0]] H O (.bool true):=by
 refine xM (vs:=[iV p,iV k,v,iV a,iV 0,iV 0]) (by kernel_rfl) ⟨rfl,rfl,hs.one,rfl,rfl,rfl,trivial⟩ ?_
 simp only[rB]
 refine ah fun r0=>ah fun r1=>?_
 refine ae (ae ?_)
 refine am (r:=.bool true) ?_ rfl ⟨rfl,trivial⟩ fun H1 l1=>af ⟨rfl,rfl⟩
 refine fi (vs:=[v,iV a,iV 0,iV 0]) (by kernel_rfl) ⟨hs.one,rfl,rfl,rfl,trivial⟩ ?_
 simp only[cM]
 refine ah fun r0=>?_
 refine ae ?_
 refine am (r:=iV 0) ?_ rfl ⟨rfl,trivial⟩ fun H1 l1=>ab (.bool true) rfl (af ⟨rfl,rfl⟩)
 refine fQ (vs:=[v,iV a,iV 0,iV 0]) (by kernel_rfl) ⟨hs.one,rfl,rfl,rfl,trivial⟩ ?_
 simp only[dk]
 refine ah fun r0=>?_
 refine ab _ hs.len ?_
 refine dG (fun vs H' O'=>vs=[iV 0]∧O'=O∧Heap.le H H') (fun _ _ _=>0) ⟨rfl,rfl,Heap.le_refl _⟩ ?_
 rintro _ H1 _ _ _ _ ⟨rfl,rfl,hle⟩
 refine ab _ (aG _ _) (aj (fun _=>?_) (fun hd=>?_))
 ·obtain⟨ad,i1,i2,_,i3,i4⟩:=((hs.le hle).rsl _).idx .i64 0 (im a 0 0) rfl
  refine ae ?_
  refine ab _ i1 (aA i2 i3 i4 ?_)
  exact tK (VR a ha) (aj (fun _=>af ⟨rfl,rfl⟩) (fun hd=>by cases hd))
 ·have:=of_decide_eq_false hd
  simp only[List.length_cons] at this
  omega
structure Iv (b:Bd):Prop where
 q:Qt b
 far:b.turn≤1∨(b.turn=2∧b.phase≤9)
 hand:b.turn≤1→b.s0.hand.length≤7∧b.s1.hand.length≤7
 ph:b.phase ≠ 6∧b.phase ≠ 7∧b.phase ≠ 8
 t0:b.phase=0 ↔ b.turn=0
def rk (b:Bd):Nat :=
 if b.phase=0 then 3 + ((if b.s0.kept=true then 0 else 1) + (if b.s1.kept=true then 0 else 1))
 else if b.turn≤1 then (if b.phase≤4 then 3 else if b.phase≤9 then 2 else 1)
 else if b.phase≤4 then 1 else 0
theorem Iv.pq {b:Bd} (h:Iv b):PhQ b:=by
 refine⟨h.ph.1,h.ph.2.1,h.ph.2.2,fun e=>?_⟩
 have ht:b.turn≤1:=by rcases h.far with h1 | h1 <;> omega
 have:=h.hand ht
 rw[cg];split <;> omega
def si (b:Bd) (k:Int):Bd:={ b with phase:=k }
theorem Qt.phase {b:Bd} (h:Qt b) {k:Int} (hk:0≤k∧k≤10):Qt (si b k):=⟨h.pl,h.ac,h.tu,hk,h.ho,h.pa,h.n5,h.q0,h.q1,h.st,h.qu,h.aa,h.bl,h.tok⟩
theorem Iv.phase {b:Bd} (h:Iv b) {k:Int} (hk:1≤k∧k≤10) (h0:b.phase ≠ 0) (h9:b.turn≤1∨k≤9) (hn:k ≠ 6∧k ≠ 7∧k ≠ 8):Iv (si b k):=by
 refine⟨h.q.phase (by omega),?_,h.hand,hn,?_⟩
 ·show b.turn≤1∨(b.turn=2∧k≤9)
  rcases h.far with h1 | h1 <;> omega
 ·show k=0 ↔ b.turn=0
  have:=h.t0
  omega
theorem Q7 {s:St} (h:Sq s):Sq (VG s):=⟨h.life,⟨rfl,rfl,rfl,rfl⟩,h.mull,⟨by show (0:Int)≤0;decide,by show (0:Int)≤255;decide⟩,h.field⟩
theorem L6 {s:St} (h:Sq s):Sq (Pg s):=⟨h.life,⟨rfl,rfl,rfl,rfl⟩,h.mull,h.acts,h.field⟩
theorem Qt.begin {b:Bd} (h:Qt b) (ht:b.turn < 1000):Qt (fY b):=by
 have:=h.tu
 refine⟨eM h.pl (List.Perm.refl _) rfl rfl,?_,?_,⟨by show (0:Int)≤1;decide,by show (1:Int)≤10;decide⟩,rfl,rfl,h.n5,Q7 h.q0,Q7 h.q1,h.st,h.qu,rfl,rfl,h.tok⟩
 ·show (if b.turn=0 then (0:Int) else 1 - b.active)=0∨(if b.turn=0 then (0:Int) else 1 - b.active)=1
  have:=h.ac
  split <;> omega
 ·show 0≤b.turn + 1∧b.turn + 1≤1000
  omega
theorem Qt.close {b:Bd} (h:Qt b):Qt (kr b):=⟨eM h.pl (List.Perm.refl _) rfl rfl,h.ac,h.tu,h.ph,h.ho,h.pa,h.n5,L6 h.q0,L6 h.q1,h.st,h.qu,h.aa,h.bl,h.tok⟩
theorem Iv.begin {b:Bd} (h:Iv b) (hp:b.phase=0∨b.phase=10):Iv (fY b):=by
 have ht:b.turn≤1:=by
  have t0:=h.t0.1
  rcases hp with hp | hp
  ·have:=t0 hp;omega
  ·rcases h.far with h1 | h1 <;> omega
 have h0:=h.q.tu
 refine⟨h.q.begin (by omega),?_,fun _=>h.hand ht,⟨by show (1:Int) ≠ 6;decide,by show (1:Int) ≠ 7;decide,by show (1:Int) ≠ 8;decide⟩,?_⟩
 ·show b.turn + 1≤1∨(b.turn + 1=2∧(1:Int)≤9)
  omega
 ·show (1:Int)=0 ↔ b.turn + 1=0
  omega
theorem Iv.close {b:Bd} (h:Iv b):Iv (kr b):=⟨h.q.close,h.far,h.hand,h.ph,h.t0⟩
theorem I1 (b:Bd):rk (kr b)=rk b:=rfl
theorem tH {b:Bd} {k:Int} (hb:b.phase ≠ 0) (hk:k ≠ 0) (h4:b.phase≤4→k≤4) (h9:b.phase≤9→k≤9):rk b≤rk (si b k):=by
 show rk b≤if k=0 then _ else if b.turn≤1 then (if k≤4 then 3 else if k≤9 then 2 else 1) else if k≤4 then 1 else 0
 rw[rk,if_neg hb,if_neg hk]
 by_cases a:b.phase≤4
 ·simp[a,h4 a]
 ·by_cases c:b.phase≤9
  ·have:=h9 c
   simp only[a,c,this,if_false,if_true]
   repeat' split
   all_goals omega
  ·simp only[a,c,if_false]
   repeat' split
   all_goals omega
theorem I2 {b:Bd} (h:Iv b) (hp:(b.phase=0∧(b.s0.kept && b.s1.kept)=true)∨b.phase=10):rk b≤rk (fY b):=by
 show rk b≤if (1:Int)=0 then _ else if b.turn + 1≤1 then (if (1:Int)≤4 then 3 else if (1:Int)≤9 then 2 else 1) else if (1:Int)≤4 then 1 else 0
 rw[if_neg (by decide:¬ (1:Int)=0)]
 simp only[show (1:Int)≤4 from by decide,if_true]
 rcases hp with ⟨h0,hk⟩ | h10
 ·have hk:=Bool.and_eq_true_iff.1 hk
  have ht:=h.t0.1 h0
  rw[rk,if_pos h0,if_pos hk.1,if_pos hk.2,if_pos (by omega)]
  decide
 ·have ht:b.turn≤1:=by rcases h.far with h1 | h1 <;> omega
  rw[rk,if_neg (by omega),if_pos ht,if_neg (by omega),if_neg (by omega)]
  split <;> omega
theorem Sq.mid {s:St} (h:Sq s) (id:Int):Sq (TT s id):=⟨h.life,h.pool,h.mull,h.acts,h.field⟩
theorem Sq.emp {s:St} (h:Sq s):Sq { s with empty:=true }:=⟨h.life,h.pool,h.mull,h.acts,h.field⟩
theorem Qt.drawOne {b:Bd} (h:Qt b) {p:Int} (hp:p=0∨p=1) {l:List Int} {id:Int} (hl:(cg b p).lib=l++[id]):Qt (drawOne b p id):=by
 obtain⟨k,o,e1,e2,e3,_,_,_,_,_,hd,hv⟩:=zQ h.val hp hl
 have ho:o ∈ b.objs:=List.mem_of_getElem? e1
 have hpl:=(eI hv).1
 rw[hd] at hpl ⊢
 have tok:∀ x ∈ b.objs.set k (my o 1),0≤x.card:=fun x hx=>by
  rcases List.mem_or_eq_of_mem_set hx with hx | rfl
  ·exact h.tok x hx
  ·exact h.tok o ho
 rcases hp with rfl | rfl
 ·exact⟨hpl,h.ac,h.tu,h.ph,h.ho,h.pa,by simpa [tp,F5,jL] using h.n5,h.q0.mid id,h.q1,h.st,h.qu,h.aa,h.bl,tok⟩
 ·exact⟨hpl,h.ac,h.tu,h.ph,h.ho,h.pa,by simpa [tp,F5,jL] using h.n5,h.q0,h.q1.mid id,h.st,h.qu,h.aa,h.bl,tok⟩
structure Same (b c:Bd):Prop where
 t:c.turn=b.turn
 a:c.active=b.active
 p:c.phase=b.phase
 k0:c.s0.kept=b.s0.kept
 k1:c.s1.kept=b.s1.kept
theorem Same.trans {a b c:Bd} (h:Same a b) (h':Same b c):Same a c:=⟨h'.t.trans h.t,h'.a.trans h.a,h'.p.trans h.p,h'.k0.trans h.k0,h'.k1.trans h.k1⟩
theorem MV {l:List Int} {id:Int} (h:l.getLast?=some id):l=l.dropLast++[id]:=by
 obtain⟨ys,rfl⟩:=List.getLast?_eq_some_iff.1 h
 simp
theorem vF {p:Int} (hp:p=0∨p=1):∀ (n:Nat) (b:Bd),Qt b→Qt (cY n b p)∧Same b (cY n b p)∧(cY n b p).s0.hand.length≤b.s0.hand.length + (if p=0 then n else 0)∧(cY n b p).s1.hand.length≤b.s1.hand.length + (if p=1 then n else 0) ∧
  (n≤(cg b p).lib.length→(cY n b p).s0.empty=b.s0.empty∧(cY n b p).s1.empty=b.s1.empty)
 | 0,b,h=>⟨h,⟨rfl,rfl,rfl,rfl,rfl⟩,by simp[cY],by simp[cY],fun _=>⟨rfl,rfl⟩⟩
 | n + 1,b,h=>by
  rw[cY]
  cases hl:(cg b p).lib.getLast? with
  | none =>
   have hl0:(cg b p).lib.length=0:=by
    rw[List.getLast?_eq_none_iff] at hl
    rw[hl];rfl
   rcases hp with rfl | rfl
   ·exact⟨⟨eM h.pl (List.Perm.refl _) rfl rfl,h.ac,h.tu,h.ph,h.ho,h.pa,h.n5,h.q0.emp,h.q1,h.st,h.qu,h.aa,h.bl,h.tok⟩,⟨rfl,rfl,rfl,rfl,rfl⟩,by show b.s0.hand.length≤_;omega,by show b.s1.hand.length≤_;omega,fun h=>by omega⟩
   ·exact⟨⟨eM h.pl (List.Perm.refl _) rfl rfl,h.ac,h.tu,h.ph,h.ho,h.pa,h.n5,h.q0,h.q1.emp,h.st,h.qu,h.aa,h.bl,h.tok⟩,⟨rfl,rfl,rfl,rfl,rfl⟩,by show b.s0.hand.length≤_;omega,by show b.s1.hand.length≤_;omega,fun h=>by omega⟩
  | some id =>
   have hl:=MV hl
   obtain⟨i1,i2,i3,i4,i5⟩:=vF hp n (drawOne b p id) (h.drawOne hp hl)
   have hlen:(cg b p).lib.length=(cg b p).lib.dropLast.length + 1:=by
    have:=congrArg List.length hl
    rw[List.length_append] at this
    exact this
   dsimp only
   rcases hp with rfl | rfl
   ·refine⟨i1,Same.trans (show Same b (drawOne b 0 id) from ⟨rfl,rfl,rfl,rfl,rfl⟩) i2,Nat.le_trans i3 ?_,Nat.le_trans i4 ?_,fun hn=>i5 ?_⟩
    ·show (b.s0.hand++[id]).length + n≤b.s0.hand.length + (n + 1)
     rw[List.length_append,List.length_singleton];omega
    ·exact Nat.le_refl _
    ·show n≤b.s0.lib.dropLast.length
     have hlen:b.s0.lib.length=b.s0.lib.dropLast.length + 1:=hlen
     have hn:n + 1≤b.s0.lib.length:=hn
     omega
   ·refine⟨i1,Same.trans (show Same b (drawOne b 1 id) from ⟨rfl,rfl,rfl,rfl,rfl⟩) i2,Nat.le_trans i3 ?_,Nat.le_trans i4 ?_,fun hn=>i5 ?_⟩
    ·exact Nat.le_refl _
    ·show (b.s1.hand++[id]).length + n≤b.s1.hand.length + (n + 1)
     rw[List.length_append,List.length_singleton];omega
    ·show n≤b.s1.lib.dropLast.length
     have hlen:b.s1.lib.length=b.s1.lib.dropLast.length + 1:=hlen
     have hn:n + 1≤b.s1.lib.length:=hn
     omega
theorem SI {b:Bd} (h:Qt b) {p:Int} (hp:p=0∨p=1) (n:Nat):zR b p n=(cY n b p,0):=by
 rw[zR,if_neg,Int.toNat_natCast]
 rw[h.val,show ay p 0 1=true from decide_eq_true (by omega),show decide ((n:Int) < 0)=false from decide_eq_false (by omega)]
 simp
theorem RL {b c:Bd} (h:Same b c):rk c=rk b:=by rw[rk,rk,h.p,h.t,h.k0,h.k1]
def gmC (c:Cf) (cv:Value) (v:cI) (b:Bd) (dv:Value) (l0 l1:Bool) (rs:Int):List Value:=cfC c++(cv::(ao v b++[dv,.bool l0,.bool l1,iV rs]))
def GO (g d:Nat) (cv dl:Value) (u:Nat) (c:Cf) (v:cI) (b:Bd) (l0 l1:Bool) (rs:Int):Go.Sx.Own:=[uQ g 48 (gmC c cv v b (gp d) l0 l1 rs),mj d dl u]
structure Gs (H:Heap) (cv dl:Value) (l:List Nat) (u:Nat) (c:Cf) (cs:List CdF):Prop where
 k:CardsF H cv cs
 s:∀ c ∈ cs,smC c
 dl:DlS H dl l
 u:u≤l.length
 c:cfV c=true
 w:Wd H
theorem Gs.le {H H':Heap} {cv dl:Value} {l:List Nat} {u:Nat} {c:Cf} {cs:List CdF} (h:Gs H cv dl l u c cs) (hl:Heap.le H H'):Gs H' cv dl l u c cs:=⟨h.k.le hl,h.s,h.dl.le hl,h.u,h.c,h.w.le hl⟩
def VU (H:Heap) (f:FuncId) (args:List Value) (O O1:Go.Sx.Own):Prop:=Triple PP f args H O fun r _ O'=>r=.tuple #[]∧O'=O1
theorem bj {f:FuncId} {args:List Value} {H:Heap} {O:Go.Sx.Own} {shp:Shp} {R:Value→Heap→Go.Sx.Own→Prop} {K:List Value→List (List Value)→Heap→Go.Sx.Own→Prop} (h:Triple PP f args H O R)
  (hk:∀ v H' O',R v H' O'→Heap.le H H'→∃ vs,shp.open v=some vs∧Ones vs∧K vs [] H' O'):dc (fun H1 O1 R=>Triple PP f args H1 O1 R) false [] [] shp K H O:=by
 intro _
 refine⟨H,O,[],R,Ghost.perm (by simp),by simpa using h,fun v H' O' hr hle=>?_⟩
 obtain⟨vs,h1,h2,h3⟩:=hk v H' O' hr hle
 exact⟨vs,[],O',h1,h2,trivial,rfl,by simpa using h3⟩
theorem sU {f:FuncId} {args:List Value} {H:Heap} {O O1:Go.Sx.Own} {K:List Value→List (List Value)→Heap→Go.Sx.Own→Prop} (h:VU H f args O O1) (hk:∀ H',Heap.le H H'→K [] [] H' O1) :
  dc (fun H1 O1 R=>Triple PP f args H1 O1 R) false [] [] (.tup []) K H O:=bj h fun _ H' _ ⟨e1,e2⟩ hle=>⟨[],by rw[e1];rfl,trivial,by rw[e2];exact hk H' hle⟩
theorem Sz {H:Heap} {c:Cf} {cv:Value} (h1:cv.oneCell'=true) {v:cI} {b:Bd} (h:BdS H v b) (d:Nat) (l0 l1:Bool) (rs:Int):Ones (gmC c cv v b (gp d) l0 l1 rs) :=
 aK ⟨rfl,rfl,rfl,rfl,rfl,rfl,trivial⟩ ⟨h1,aK (ap (h.r [])) ⟨rfl,rfl,rfl,rfl,trivial⟩⟩
theorem I6 {n a b:Int} (h:pwi n a b=true):a≤n∧n≤b:=by
 rw[pwi,Bool.and_eq_true,decide_eq_true_eq,decide_eq_true_eq] at h
 omega
theorem Jt {c:Cf} (h:cfV c=true):(1≤c.life∧c.life≤9999)∧(0≤c.trig∧c.trig≤100)∧(1≤c.cap∧c.cap≤200)∧c.objs≤500:=by
 simp only[cfV,Bool.and_eq_true] at h
 exact⟨I6 h.1,I6 h.2.2.2.2.1,I6 h.2.2.2.2.2,(I6 h.2.2.2.1).2⟩
theorem Ac {H:Heap} {O:Go.Sx.Own} {g d:Nat} {T:TypeId} {c:Cf} {cv:Value} {v:cI} {b:Bd} {l0 l1:Bool} {rs:Int} (hm:uQ g T (gmC c cv v b (gp d) l0 l1 rs) ∈ O):RetO PP dz [gp g] H O (.bool false):=by
 refine gI (vs:=[gp g]) (by kernel_rfl) ⟨rfl,trivial⟩ ?_
 simp only[fW]
 refine ab (.bool false) rfl ?_
 refine ak rfl (ai (ak rfl (ai (ai ?_))))
 refine au hm [gp d] rfl rfl ⟨rfl,trivial⟩ ?_
 refine ai ?_
 refine ab (.bool false) rfl ?_
 refine ai ?_
 exact ab _ (aO _ _) (af ⟨rfl,rfl⟩)
theorem CL {H:Heap} {g d:Nat} {cv dl:Value} {u:Nat} {c:Cf} {v v':cI} {b b':Bd} {l0 l1:Bool} {rs:Int} (h':BdS H v' b') :
  VU H nc [gp g,.agg (ao v' b').toArray,iV 0] (GO g d cv dl u c v b l0 l1 rs) (GO g d cv dl u c v' b' l0 l1 rs):=by
 refine sk (vs:=gp g::(ao v' b'++[iV 0])) (by kernel_rfl) ⟨rfl,aK (ap (h'.r [])) ⟨rfl,trivial⟩⟩ ?_
 simp only[mQ]
 refine ah fun r0=>?_
 refine ab _ (aw _ _) (aj (fun _=>?_) (fun hd=>by cases hd))
 refine ae (ak rfl (ak rfl (ak rfl ?_)))
 refine fC (g:=g) (off:=7) (cs:=gmC c cv v b (gp d) l0 l1 rs) (cs':=gmC c cv v' b' (gp d) l0 l1 rs) (L:=[mj d dl u]) (List.Perm.refl _) (by simp[gmC,cfC,ao]) rfl ?_
 exact af ⟨rfl,rfl⟩
theorem EG {H:Heap} {g d:Nat} {cv dl:Value} {l:List Nat} {u:Nat} {c:Cf} {cs:List CdF} (hG:Gs H cv dl l u c cs) {v:cI} {b:Bd} (h:BdS H v b) (hq:Qt b) (hph:PhQ b) (he0:b.s0.empty=false) (he1:b.s1.empty=false) (l0 l1:Bool) :
  Triple PP gW [gp g] H (GO g d cv dl u c v b l0 l1 0) fun r H' O'=>OfR b r H' []∧O'=GO g d cv dl u c v b l0 l1 0:=by
 refine jf (vs:=[gp g]) (by kernel_rfl) ⟨rfl,trivial⟩ ?_
 simp only[gU]
 refine ah fun r0=>?_
 have hm:uQ g 48 (gmC c cv v b (gp d) l0 l1 0) ∈ GO g d cv dl u c v b l0 l1 0:=List.mem_cons_self
 refine am (Ac hm) rfl ⟨rfl,trivial⟩ fun H1 l1'=>?_
 refine ak rfl (ai (ak rfl (ai (ai ?_))))
 refine au hm [iV 0] rfl rfl ⟨rfl,trivial⟩ ?_
 refine ai ?_
 refine ab _ (fx _ _) ?_
 refine ai ?_
 refine ab _ (aO _ _) (aj (fun hd=>by cases hd) (fun _=>?_))
 refine ak rfl (ak rfl ?_)
 refine au hm [cv] rfl rfl ⟨hG.k.one,trivial⟩ ?_
 refine ak rfl (ak rfl ?_)
 refine au hm (cfC c) rfl rfl ⟨rfl,rfl,rfl,rfl,rfl,rfl,trivial⟩ ?_
 refine ak rfl (ak rfl ?_)
 refine au hm (ao v b) rfl rfl (ap (h.r [])) ?_
 refine ak rfl (ak rfl ?_)
 refine au hm [gp d] rfl rfl ⟨rfl,trivial⟩ ?_
 refine am (Ri (u:=u) (List.mem_cons_of_mem _ List.mem_cons_self) (hG.dl.le l1') hG.u) rfl ⟨rfl,trivial⟩ fun H2 l2=>?_
 have l12:=Heap.le_trans l1' l2
 have hu:=hG.u
 refine az (Wt (hG.k.le l12) hG.s (h.le l12) hq hph hG.c (n:=(l.length:Int) - u) (by omega) he0 he1) ?_
 rintro _ H3 _ ⟨hr,rfl⟩ l3
 rw[List.nil_append]
 rcases hr with ⟨e,rfl⟩ | ⟨e,⟨w,rows,rfl,hw,hwl⟩,_⟩ | ⟨e,⟨w,rows,rfl,hw,hwl⟩,_⟩
 ·refine⟨[iV 0,iV 0,.slice none 0 0],rfl,⟨rfl,rfl,rfl,trivial⟩,?_⟩
  refine ae (ae ?_)
  exact af ⟨⟨.inl ⟨e,rfl⟩,rfl⟩,rfl⟩
 ·refine⟨_,rfl,⟨rfl,rfl,hw.one,trivial⟩,?_⟩
  refine ae (ae ?_)
  exact af ⟨⟨.inr (.inl ⟨e,⟨w,rows,rfl,hw,hwl⟩,rfl⟩),rfl⟩,rfl⟩
 ·refine⟨_,rfl,⟨rfl,rfl,hw.one,trivial⟩,?_⟩
  refine ae (ae ?_)
  exact af ⟨⟨.inr (.inr ⟨e,⟨w,rows,rfl,hw,hwl⟩,rfl⟩),rfl⟩,rfl⟩
theorem Iy {H:Heap} {O:Go.Sx.Own} {g d:Nat} {T:TypeId} {c:Cf} {cv:Value} {v:cI} {b:Bd} {l0 l1:Bool} {rs:Int} (hm:uQ g T (gmC c cv v b (gp d) l0 l1 rs) ∈ O) (hr:rs ≠ 0):RetO PP gW [gp g] H O Vw:=by
 refine jf (vs:=[gp g]) (by kernel_rfl) ⟨rfl,trivial⟩ ?_
 simp only[gU]
 refine ah fun r0=>?_
 refine am (Ac hm) rfl ⟨rfl,trivial⟩ fun H1 l1'=>?_
 refine ak rfl (ai (ak rfl (ai (ai ?_))))
 refine au hm [iV rs] rfl rfl ⟨rfl,trivial⟩ ?_
 refine ai ?_
 refine ab _ (fx _ _) ?_
 refine ai ?_
 refine ab _ (aO _ _) (aj (fun _=>?_) (fun hd=>?_))
 ·refine ae (ae ?_)
  exact af ⟨rfl,rfl⟩
 ·rw[Bool.false_or,bne_eq_false_iff_eq] at hd
  exact absurd hd hr
theorem GU {H:Heap} {g d:Nat} {cv dl:Value} {l:List Nat} {u:Nat} {c:Cf} {cs:List CdF} (hG:Gs H cv dl l u c cs) {v:cI} {b:Bd} (h:BdS H v b) (hq:Qt b) {hs:Value} (hh:Wb H hs) :
  Triple PP jI [gp g,hs] H (GO g d cv dl u c v b false false 0) fun r H' O'=>r=.tuple #[]∧∃ v',O'=GO g d cv dl u c v' b false false 0∧BdS H' v' b:=by
 have h1:hs.oneCell'=true:=by obtain⟨_,k,_⟩:=hh;exact k.one
 refine oI (vs:=[gp g,hs]) (by kernel_rfl) ⟨rfl,h1,trivial⟩ ?_
 simp only[jC]
 have hm:uQ g 48 (gmC c cv v b (gp d) false false 0) ∈ GO g d cv dl u c v b false false 0:=List.mem_cons_self
 refine ak rfl (ak rfl ?_)
 refine au hm [cv] rfl rfl ⟨hG.k.one,trivial⟩ ?_
 refine ak rfl (ak rfl ?_)
 refine au hm (ao v b) rfl rfl (ap (h.r [])) ?_
 refine ak rfl (ak rfl (ak rfl ?_))
 refine au hm [iV c.trig] rfl rfl ⟨rfl,trivial⟩ ?_
 refine az (N7 hG.k.one h hq hh (Jt hG.c).2.1) ?_
 rintro _ H1 _ ⟨⟨w,rfl,hw⟩,rfl⟩ l1
 refine⟨ao w b++[iV 0,iV 0],rfl,aK (ap (hw.r [])) ⟨rfl,rfl,trivial⟩,ah fun r0=>?_⟩
 refine ae (ae ?_)
 exact sU (CL hw) fun H2 l2=>af ⟨rfl,w,rfl,hw.le l2⟩
theorem CQ {H:Heap} {v:cI} {b:Bd} (h:BdS H v b) (k:Int):BdS H v (si b k):=⟨h.objs,⟨h.s0.lib,h.s0.hand,h.s0.field,h.s0.grave⟩,⟨h.s1.lib,h.s1.hand,h.s1.field,h.s1.grave⟩,h.stack,h.queue,h.att,h.blocks⟩
theorem N6 {H:Heap} {v:cI} {b:Bd} (h:BdS H v b) (hq:Qt b) {p:Int} (hp:p=0∨p=1) {n:Nat} (hn:n≤1000):Triple PP qC [.agg (ao v b).toArray,iV p,iV n] H [] (BdT (cY n b p)):=by
 refine Triple.ghost (UY h hq.B p n (by omega)) ?_
 rintro r H' O' _ hc ⟨w,rfl,ho⟩
 rw[SI hq hp] at ho ⊢
 obtain⟨H1,g1,k1,_⟩:=ho.freeze (X:=[]) (by simpa using hc)
 exact⟨H1,[],by simpa using g1,⟨w,rfl,k1⟩,rfl⟩
def muP (p:Int):Nat:=if p=0 then 8 else if p=10 then 7 else if p=1 then 6 else if p=2 then 5 else if p=3 then 4 else if p=5 then 3 else 0
def mu (b:Bd):Nat:=muP b.phase
def StQ (g d:Nat) (cv dl:Value) (u:Nat) (c:Cf) (b:Bd) (r:Value) (H':Heap) (O':Go.Sx.Own):Prop :=
 r=.tuple #[]∧∃ v' b' rs',O'=GO g d cv dl u c v' b' false false rs'∧BdS H' v' b'∧Iv b'∧rk b≤rk b'∧(rs' ≠ 0∨(rs'=0∧mu b' < mu b))
theorem cT (g d:Nat) (cv dl:Value) (u:Nat) (c:Cf) (v:cI) (b:Bd) (l0 l1:Bool) (rs:Int):uQ g 48 (gmC c cv v b (gp d) l0 l1 rs) ∈ GO g d cv dl u c v b l0 l1 rs:=List.mem_cons_self
theorem qG {g d:Nat} {cv dl:Value} {u:Nat} {c:Cf} {v:cI} {b:Bd} {l0 l1:Bool} {rs:Int} {k:Int} {t:Tree} {H:Heap} {Q:Value→Heap→Go.Sx.Own→Prop} (hk:t.den PP Q H (GO g d cv dl u c v (si b k) l0 l1 rs)) :
  (Tree.store (.pointer (some ⟨g,42,none⟩)) [iV k] t).den PP Q H (GO g d cv dl u c v b l0 l1 rs) :=
 fC (g:=g) (off:=42) (cs:=gmC c cv v b (gp d) l0 l1 rs) (cs':=gmC c cv v (si b k) (gp d) l0 l1 rs) (L:=[mj d dl u]) (List.Perm.refl _) (by simp[gmC,cfC,ao]) rfl hk
theorem Ta {H:Heap} {g d:Nat} {cv dl:Value} {l:List Nat} {u:Nat} {c:Cf} {cs:List CdF} (hG:Gs H cv dl l u c cs) {v:cI} {b:Bd} (h:BdS H v b) (hq:Qt b) :
  Triple PP lL [gp g] H (GO g d cv dl u c v b false false 0) fun r H' O'=>r=.tuple #[]∧∃ v',O'=GO g d cv dl u c v' (si b 9) false false 0∧BdS H' v' (si b 9):=by
 refine qY (vs:=[gp g]) (by kernel_rfl) ⟨rfl,trivial⟩ ?_
 simp only[lw]
 have la:al .len [v.a]=some (iV 0):=by
  have:=h.att.len
  rw[hq.aa] at this
  exact this
 refine ak rfl (ak rfl (ak rfl ?_))
 refine au (cT ..) [v.a] rfl rfl ⟨h.att.one,trivial⟩ ?_
 refine ab _ la ?_
 refine eE 0 (fun _ x H' O'=>x=.slice none 0 0∧Heap.le H H'∧O'=GO g d cv dl u c v b false false 0) ⟨rfl,Heap.le_refl _,rfl⟩ ?_
 rintro i x H' O' hi - ⟨rfl,hle,rfl⟩
 refine ab _ (aG _ _) (aj (fun hd=>by have:=of_decide_eq_true hd;omega) (fun _=>?_))
 refine bj (GU (hG.le hle) (h.le hle) hq ⟨[],Sl.nil _ _,by simp,fun _ h=>by cases h⟩) ?_
 rintro _ H2 _ ⟨rfl,w,rfl,hw⟩ l2
 refine⟨[],rfl,trivial,?_⟩
 refine ab (iV 0) rfl (ab (.bool false) rfl ?_)
 refine am (Tv H2 _) rfl ⟨rfl,trivial⟩ fun H3 l3=>?_
 refine ak rfl (ak rfl (ak rfl (ak rfl ?_)))
 exact qG (k:=9) (af ⟨rfl,w,rfl,CQ (hw.le l3) 9⟩)
theorem NX {H:Heap} {g d:Nat} {cv dl:Value} {l:List Nat} {u:Nat} {c:Cf} {cs:List CdF} (hG:Gs H cv dl l u c cs) {v:cI} {b:Bd} (h:BdS H v b) (hI:Iv b) (hk:prK b=0) (h0:b.phase ≠ 0) :
  Triple PP jJ [gp g] H (GO g d cv dl u c v b false false 0) (StQ g d cv dl u c b):=by
 have hq:=hI.q
 have h49:b.phase ≠ 4∧b.phase ≠ 9:=by
  rw[prK,if_neg h0] at hk
  constructor
  ·intro e;rw[if_pos (.inl e)] at hk;cases hk
  ·intro e;rw[if_pos (.inr e)] at hk;cases hk
 obtain⟨n6,n7,n8⟩:=hI.ph
 have hph:=hq.ph
 refine oJ (vs:=[gp g]) (by kernel_rfl) ⟨rfl,trivial⟩ ?_
 simp only[jD]
 refine ak rfl (ak rfl (ak rfl (ak rfl ?_)))
 refine au (cT ..) [iV b.phase] rfl rfl ⟨rfl,trivial⟩ ?_
 refine ab _ (aw _ _) (aj (fun hd=>?_) (fun hd=>?_))
 ·have e:b.phase=1:=beq_iff_eq.1 hd
  refine ak rfl (ak rfl ?_)
  refine au (cT ..) [iV b.active] rfl rfl ⟨rfl,trivial⟩ (ah fun r0=>?_)
  refine fun hcs=>?_
  have hfr:=fg hcs
  have hl:=Heap.le_insAll ([⟨r0,243,[iV 3,iV 0,iV b.active]⟩]:List BV) H
  have hb:=hfr _ List.mem_cons_self
  have hsl:=Sl.block1 (row:=[iV 3,iV 0,iV b.active]) hb rfl ⟨rfl,rfl,rfl,trivial⟩
  refine⟨_,GO g d cv dl u c v b false false 0,[],_,Ghost.perm (by simp),GU (hG.le hl) (h.le hl) hq ⟨_,hsl,by simp,fun row hr=>⟨b.active,hq.ac,by simpa using hr⟩⟩,?_⟩
  rintro _ H2 _ ⟨rfl,w,rfl,hw⟩ l2
  refine⟨[],[],_,rfl,trivial,trivial,rfl,?_⟩
  unfold aT
  refine ak rfl (ak rfl (ak rfl ?_))
  rw[List.append_nil]
  refine qG (k:=2) (af ⟨rfl,w,si b 2,0,rfl,CQ hw 2,hI.phase (by omega) h0 (.inr (by omega)) (by omega),tH h0 (by omega) (by omega) (by omega),.inr ⟨rfl,?_⟩⟩)
  show muP 2 < muP b.phase
  rw[e];decide
 have n1:b.phase ≠ 1:=beq_eq_false_iff_ne.1 hd
 refine ab _ (aw _ _) (aj (fun hd=>?_) (fun hd=>?_))
 ·have e:b.phase=2:=beq_iff_eq.1 hd
  have hmu:muP 3 < muP b.phase:=by rw[e];decide
  refine ak rfl (ak rfl ?_)
  refine au (cT ..) [iV b.turn] rfl rfl ⟨rfl,trivial⟩ ?_
  refine ab _ (fx _ _) (aj (fun hd=>?_) (fun hd=>?_))
  ·have ht1:b.turn ≠ 1:=by simpa using hd
   have htu:=hq.tu
   have ht0:b.turn ≠ 0:=fun e=>h0 (hI.t0.2 e)
   refine ak rfl ?_
   refine au (cT ..) (ao v b) rfl rfl (ap (h.r [])) ?_
   refine ak rfl (ak rfl ?_)
   refine au (cT ..) [iV b.active] rfl rfl ⟨rfl,trivial⟩ ?_
   refine az (N6 h hq hq.ac (n:=1) (by omega)) ?_
   rintro _ H1 _ ⟨⟨w,rfl,hw⟩,rfl⟩ l1
   refine⟨ao w (cY 1 b b.active)++[iV 0],rfl,aK (ap (hw.r [])) ⟨rfl,trivial⟩,?_⟩
   refine sU (CL hw) fun H2 l2=>?_
   unfold aT
   refine ak rfl (ak rfl (ak rfl ?_))
   obtain⟨d1,d2,d3,d4,_⟩:=vF hq.ac 1 b hq
   have hI':Iv (cY 1 b b.active):=⟨d1,by rw[d2.t,d2.p];exact hI.far,fun ht=>by rw[d2.t] at ht;omega,by rw[d2.p];exact hI.ph,by rw[d2.t,d2.p];exact hI.t0⟩
   have hp':(cY 1 b b.active).phase=2:=d2.p.trans e
   refine qG (k:=3) (af ⟨rfl,w,_,0,rfl,CQ (hw.le l2) 3,hI'.phase (by omega) (by omega) (.inr (by omega)) (by omega),?_,.inr ⟨rfl,?_⟩⟩)
   ·rw[← RL d2]
    exact tH (by omega) (by omega) (by omega) (by omega)
   ·show muP 3 < muP b.phase
    rw[e];decide
  ·unfold aT
   refine ak rfl (ak rfl (ak rfl ?_))
   exact qG (k:=3) (af ⟨rfl,v,si b 3,0,rfl,CQ h 3,hI.phase (by omega) h0 (.inr (by omega)) (by omega),tH h0 (by omega) (by omega) (by omega),.inr ⟨rfl,hmu⟩⟩)
 have n2:b.phase ≠ 2:=beq_eq_false_iff_ne.1 hd
 refine ab _ (aw _ _) (aj (fun hd=>?_) (fun hd=>?_))
 ·have e:b.phase=3:=beq_iff_eq.1 hd
  unfold aT
  refine ak rfl (ak rfl (ak rfl ?_))
  refine qG (k:=4) (af ⟨rfl,v,si b 4,0,rfl,CQ h 4,hI.phase (by omega) h0 (.inr (by omega)) (by omega),tH h0 (by omega) (by omega) (by omega),.inr ⟨rfl,?_⟩⟩)
  show muP 4 < muP b.phase
  rw[e];decide
 have n3:b.phase ≠ 3:=beq_eq_false_iff_ne.1 hd
 refine ab _ (aw _ _) (aj (fun hd=>?_) (fun hd=>?_))
 ·have e:b.phase=5:=beq_iff_eq.1 hd
  refine bj (Ta hG h hq) ?_
  rintro _ H1 _ ⟨rfl,w,rfl,hw⟩ l1
  refine⟨[],rfl,trivial,af ⟨rfl,w,si b 9,0,rfl,hw,hI.phase (by omega) h0 (.inr (by omega)) (by omega),tH h0 (by omega) (by omega) (by omega),.inr ⟨rfl,?_⟩⟩⟩
  show muP 9 < muP b.phase
  rw[e];decide
 have n5:b.phase ≠ 5:=beq_eq_false_iff_ne.1 hd
 have e:b.phase=10:=by omega
 refine ab _ (aw _ _) (aj (fun hd=>absurd (beq_iff_eq.1 hd) n6) (fun _=>?_))
 refine ab _ (aw _ _) ?_
 unfold fq
 refine aj (fun hd=>absurd (beq_iff_eq.1 hd) n7) (fun _=>?_)
 refine ab _ (aw _ _) (aj (fun hd=>absurd (beq_iff_eq.1 hd) n8) (fun _=>?_))
 refine ab _ (aw _ _) (aj (fun _=>?_) (fun hd=>absurd e (beq_eq_false_iff_ne.1 hd)))
 refine ak rfl ?_
 refine au (cT ..) (ao v b) rfl rfl (ap (h.r [])) ?_
 refine az (TF h hq) ?_
 rintro _ H1 _ ⟨⟨w,rfl,hw⟩,rfl⟩ l1
 rw[List.nil_append]
 refine⟨ao w (kr b),rfl,ap (hw.r []),?_⟩
 refine ak rfl (ak rfl (ak rfl ?_))
 refine fC (g:=g) (off:=7) (cs:=gmC c cv v b (gp d) false false 0) (cs':=gmC c cv w (kr b) (gp d) false false 0) (L:=[mj d dl u]) (List.Perm.refl _) (by simp[gmC,cfC,ao]) rfl ?_
 have hm2:uQ g 48 (gmC c cv w (kr b) (gp d) false false 0) ∈ (uQ g 48 (gmC c cv w (kr b) (gp d) false false 0)::[mj d dl u]):=List.mem_cons_self
 refine ak rfl (ak rfl ?_)
 refine au hm2 [iV b.turn] rfl rfl ⟨rfl,trivial⟩ ?_
 refine ak rfl (ak rfl (ak rfl ?_))
 refine au hm2 [iV c.cap] rfl rfl ⟨rfl,trivial⟩ ?_
 have htu:b.turn≤2:=by rcases hI.far with h1 | h1 <;> omega
 refine ab _ (eC _ _) (aj (fun hd=>?_) (fun hd=>?_))
 ·refine ak rfl (ak rfl (ak rfl ?_))
  refine fC (g:=g) (off:=48) (cs:=gmC c cv w (kr b) (gp d) false false 0) (cs':=gmC c cv w (kr b) (gp d) false false 5) (L:=[mj d dl u]) (List.Perm.refl _) (by simp[gmC,cfC,ao]) rfl ?_
  exact af ⟨rfl,w,kr b,5,rfl,hw,hI.close,by rw[I1];exact Nat.le_refl _,.inl (by omega)⟩
 ·refine ak rfl ?_
  refine au hm2 (ao w (kr b)) rfl rfl (ap (hw.r [])) ?_
  refine az (N9 hw hq.close (by show b.turn < 1000;omega)) ?_
  rintro _ H2 _ ⟨⟨w2,rfl,hw2⟩,rfl⟩ l2
  rw[List.nil_append]
  refine⟨ao w2 (fY (kr b))++[iV 0],rfl,aK (ap (hw2.r [])) ⟨rfl,trivial⟩,?_⟩
  refine sU (CL (v:=w) (b:=kr b) hw2) fun H3 l3=>af ⟨rfl,w2,_,0,rfl,hw2.le l3,hI.close.begin (.inr e),?_,.inr ⟨rfl,?_⟩⟩
  ·rw[← I1 b]
   exact I2 hI.close (.inr e)
  ·show muP 1 < muP b.phase
   rw[e];decide
theorem UD {H:Heap} {g d:Nat} {cv dl:Value} {l:List Nat} {u:Nat} {c:Cf} {cs:List CdF} (hG:Gs H cv dl l u c cs) {v:cI} {b:Bd} (h:BdS H v b) (hI:Iv b) (hk:prK b=0) :
  Triple PP ng [gp g] H (GO g d cv dl u c v b false false 0) (StQ g d cv dl u c b):=by
 have hq:=hI.q
 refine sn (vs:=[gp g]) (by kernel_rfl) ⟨rfl,trivial⟩ ?_
 simp only[mR]
 have lz:al .len [v.q]=some (iV 0):=by
  obtain⟨rows,h1,h2,_⟩:=(h.r []).queue
  rw[hq.qu] at h2
  have:=h1.len
  rwa [h2] at this
 have ls:al .len [v.s]=some (iV 0):=by
  obtain⟨rows,h1,h2,_⟩:=(h.r []).stack
  rw[hq.st] at h2
  have:=h1.len
  rwa [h2] at this
 refine ak rfl (ak rfl ?_)
 refine au (cT ..) (ao v b) rfl rfl (ap (h.r [])) (ah fun r0=>?_)
 refine ae (ae ?_)
 refine ab _ lz (ab (.bool false) rfl (aj (fun hd=>by cases hd) (fun _=>?_)))
 refine ae ?_
 refine ab _ (aw _ _) (aj (fun hd=>?_) (fun hd=>?_))
 ·have e:b.phase=0:=beq_iff_eq.1 hd
  have ht:=hI.t0.1 e
  have hk':(b.s0.kept && b.s1.kept)=true:=by
   rw[prK,if_pos e] at hk
   by_cases hx:(b.s0.kept && b.s1.kept)=true
   ·exact hx
   ·rw[if_neg hx] at hk;cases hk
  refine ae ?_
  refine az (N9 h hq (by omega)) ?_
  rintro _ H2 _ ⟨⟨w2,rfl,hw2⟩,rfl⟩ l2
  rw[List.nil_append]
  refine⟨ao w2 (fY b)++[iV 0],rfl,aK (ap (hw2.r [])) ⟨rfl,trivial⟩,?_⟩
  unfold gV
  refine sU (CL hw2) fun H3 l3=>af ⟨rfl,w2,_,0,rfl,hw2.le l3,hI.begin (.inl e),I2 hI (.inl ⟨e,hk'⟩),.inr ⟨rfl,?_⟩⟩
  show muP 1 < muP b.phase
  rw[e];decide
 have h0:b.phase ≠ 0:=beq_eq_false_iff_ne.1 hd
 refine ak rfl (ak rfl ?_)
 refine au (cT ..) [cv] rfl rfl ⟨hG.k.one,trivial⟩ ?_
 refine ae ?_
 refine am (N5 hG.k.one (h.r _) hq) rfl ⟨rfl,trivial⟩ fun H1 l1=>?_
 refine ab (.bool false) rfl (aj (fun hd=>by cases hd) (fun _=>?_))
 refine ae ?_
 refine ab _ ls (ab (.bool false) rfl (aj (fun hd=>by cases hd) (fun _=>?_)))
 refine bj (NX (hG.le l1) (h.le l1) hI hk h0) ?_
 rintro _ H2 _ ⟨rfl,v',b',rs',rfl,k1,k2,k3,k4⟩ l2
 exact⟨[],rfl,trivial,af ⟨rfl,v',b',rs',rfl,k1,k2,k3,k4⟩⟩
def GQ (g d:Nat) (cv dl:Value) (u:Nat) (c:Cf) (k:Nat) (r:Value) (H':Heap) (O':Go.Sx.Own):Prop :=
 ∃ (n:Nat) (v:cI) (b:Bd) (l0 l1:Bool) (rs:Int),r=iV n∧O'=GO g d cv dl u c v b l0 l1 rs∧BdS H' v b∧Iv b∧k≤rk b ∧
  (rs ≠ 0∨(rs=0∧l0=false∧l1=false∧b.s0.empty=false∧b.s1.empty=false∧prK b ≠ 0))
theorem Vx (b:Bd):mu b≤8:=by
 rw[mu,muP]
 repeat' split
 all_goals decide
theorem Gs.k1 {H:Heap} {cv dl:Value} {l:List Nat} {u:Nat} {c:Cf} {cs:List CdF} (h:Gs H cv dl l u c cs):cv.oneCell'=true:=h.k.one
theorem UE {H:Heap} {g d:Nat} {cv dl:Value} {l:List Nat} {u:Nat} {c:Cf} {cs:List CdF} (hG:Gs H cv dl l u c cs) {v:cI} {b:Bd} (h:BdS H v b) (hI:Iv b) :
  Triple PP jx [gp g] H (GO g d cv dl u c v b false false 0) (GQ g d cv dl u c (rk b)):=by
 refine tt (vs:=[gp g]) (by kernel_rfl) ⟨rfl,trivial⟩ ?_
 simp only[ot]
 have hm8:=Vx b
 refine dG (fun vs H' O'=>∃ (n:Nat) (v':cI) (b':Bd) (rs:Int),vs=[iV n]∧O'=GO g d cv dl u c v' b' false false rs∧BdS H' v' b'∧Iv b'∧rk b≤rk b'∧n + (if rs=0 then mu b' + 1 else 0)≤20) (fun vs _ _=>match Go.Sx.g vs 0 with | .int _ k=>20 - k.toNat | _=>0)
  ⟨0,v,b,0,rfl,rfl,h,hI,Nat.le_refl _,by rw[if_pos rfl];omega⟩ ?_
 rintro _ H1 _ _ _ hle ⟨n,v',b',rs,rfl,rfl,hb,hI',hr,hn⟩
 have hG1:=hG.le hle
 have hq:=hI'.q
 have hn20:n≤20:=by omega
 refine ak rfl (ak rfl ?_)
 refine au (cT ..) [cv] rfl rfl ⟨hG.k1,trivial⟩ ?_
 refine ak rfl (ak rfl ?_)
 refine au (cT ..) (ao v' b') rfl rfl (ap (hb.r [])) ?_
 refine am (JA hG.k1 (hb.r _) hq) rfl ⟨rfl,trivial⟩ fun H2 l2=>?_
 refine ab (.bool false) rfl (aj (fun hd=>by cases hd) (fun _=>?_))
 refine ak rfl (ak rfl ?_)
 refine au (cT ..) (ao v' b') rfl rfl (ap (hb.r [])) ?_
 refine am (Rh ((hb.le l2).r _)) rfl ⟨rfl,rfl,trivial⟩ fun H3 l3=>?_
 have l13:=Heap.le_trans l2 l3
 rw[(MN hq).1,(MN hq).2]
 refine ah fun r1=>?_
 refine ae (ae (ae (ai (ai ?_))))
 refine ab _ (aO _ _) (aj (fun hd=>?_) (fun hd=>?_))
 ·refine ae (ak rfl (ak rfl (ak rfl ?_)))
  refine fC (g:=g) (off:=46) (cs:=gmC c cv v' b' (gp d) false false rs) (cs':=gmC c cv v' b' (gp d) b'.s0.empty b'.s1.empty rs) (L:=[mj d dl u]) (List.Perm.refl _) (by simp[gmC,cfC,ao]) rfl ?_
  refine ak rfl (ak rfl (ak rfl ?_))
  refine fC (g:=g) (off:=48) (cs:=gmC c cv v' b' (gp d) b'.s0.empty b'.s1.empty rs) (cs':=gmC c cv v' b' (gp d) b'.s0.empty b'.s1.empty 2) (L:=[mj d dl u]) (List.Perm.refl _) (by simp[gmC,cfC,ao]) rfl ?_
  have hm2:uQ g 48 (gmC c cv v' b' (gp d) b'.s0.empty b'.s1.empty 2) ∈ (uQ g 48 (gmC c cv v' b' (gp d) b'.s0.empty b'.s1.empty 2)::[mj d dl u]):=List.mem_cons_self
  refine ak rfl (ak rfl (ak rfl ?_))
  refine au hm2 (((ao v' b').drop 1).take 28) rfl rfl (iM fun x hx=>iZ (ap (hb.r [])) x (List.mem_of_mem_drop (List.mem_of_mem_take hx))) (ah fun r2=>?_)
  refine ae (ae (ae (ai (ai ?_))))
  have e0:(b'.s0.life == 0)=false:=beq_eq_false_iff_ne.2 (by have:=hq.q0.life;omega)
  have e1:(b'.s1.life == 0)=false:=beq_eq_false_iff_ne.2 (by have:=hq.q1.life;omega)
  refine ab (.bool false) ((aw _ _).trans (congrArg (fun x=>some (Value.bool x)) e0)) ?_
  refine ai ?_
  refine ab (.bool false) (by cases b'.s0.empty <;> rfl) (aj (fun hd=>by cases hd) (fun _=>?_))
  unfold ip
  refine ah fun r3=>?_
  refine ae (ae (ae (ai (ai ?_))))
  refine ab (.bool false) ((aw _ _).trans (congrArg (fun x=>some (Value.bool x)) e1)) ?_
  refine ai ?_
  refine ab (.bool false) (by cases b'.s1.empty <;> rfl) (aj (fun hd=>by cases hd) (fun _=>?_))
  unfold dX
  refine ak rfl (ak rfl ?_)
  refine au hm2 [iV 2] rfl rfl ⟨rfl,trivial⟩ ?_
  refine ab (.bool true) rfl (aj (fun _=>?_) (fun hd=>by cases hd))
  exact af ⟨n,v',b',_,_,2,rfl,rfl,hb.le l13,hI',hr,.inl (by decide)⟩
 have hee:=Bool.or_eq_false_iff.1 hd
 unfold dX
 refine ak rfl (ak rfl ?_)
 refine au (cT ..) [iV rs] rfl rfl ⟨rfl,trivial⟩ ?_
 refine ab _ (fx _ _) (aj (fun hd=>?_) (fun hd=>?_))
 ·exact af ⟨n,v',b',_,_,rs,rfl,rfl,hb.le l13,hI',hr,.inl (bne_iff_ne.1 hd)⟩
 obtain rfl:rs=0:=bne_eq_false_iff_eq.1 hd
 rw[if_pos rfl] at hn
 refine bj (EG (hG1.le l13) (hb.le l13) hq hI'.pq hee.1 hee.2 false false) ?_
 rintro r H4 _ ⟨hP,rfl⟩ l4
 have l14:=Heap.le_trans l13 l4
 rcases hP with ⟨hP | hP | hP,_⟩
 ·obtain⟨e,rfl⟩:=hP
  refine⟨[iV 0,iV 0,.slice none 0 0],rfl,⟨rfl,rfl,rfl,trivial⟩,?_⟩
  refine ab (.bool false) rfl (aj (fun hd=>by cases hd) (fun _=>?_))
  refine bj (UD (hG1.le l14) (hb.le l14) hI' e) ?_
  rintro _ H5 _ ⟨rfl,w,b2,rs2,rfl,k1,k2,k3,k4⟩ l5
  refine⟨[],rfl,trivial,?_⟩
  refine ab _ (aD (by omega)) (cU ⟨rfl,trivial⟩ ⟨n + 1,w,b2,rs2,rfl,rfl,k1,k2,Nat.le_trans hr k3,?_⟩ ?_)
  ·split <;> omega
  ·show 20 - ((n:Int) + 1).toNat < 20 - (n:Int).toNat
   omega
 ·obtain⟨e,⟨w,rows,rfl,hw,_⟩,_⟩:=hP
  refine⟨_,rfl,⟨rfl,rfl,hw.one,trivial⟩,?_⟩
  refine ab (.bool true) rfl (aj (fun _=>?_) (fun hd=>by cases hd))
  exact af ⟨n,v',b',_,_,0,rfl,rfl,hb.le l14,hI',hr,.inr ⟨rfl,rfl,rfl,hee.1,hee.2,by rw[e];decide⟩⟩
 ·obtain⟨e,⟨w,rows,rfl,hw,_⟩,_⟩:=hP
  refine⟨_,rfl,⟨rfl,rfl,hw.one,trivial⟩,?_⟩
  refine ab (.bool true) rfl (aj (fun _=>?_) (fun hd=>by cases hd))
  exact af ⟨n,v',b',_,_,0,rfl,rfl,hb.le l14,hI',hr,.inr ⟨rfl,rfl,rfl,hee.1,hee.2,by rw[e];decide⟩⟩
theorem UF {H:Heap} {g d:Nat} {cv dl:Value} {l:List Nat} {u:Nat} {c:Cf} {cs:List CdF} (hG:Gs H cv dl l u c cs) (v:cI) {b:Bd} (hp:b.phase=4∨b.phase=9) :
  VU H nh [gp g,iV 2] (GO g d cv dl u c v b false false 0) (GO g d cv dl u c v (si b (b.phase + 1)) false false 0):=by
 refine so (vs:=[gp g,iV 2]) (by kernel_rfl) ⟨rfl,rfl,trivial⟩ ?_
 simp only[mS]
 refine ab (.bool true) rfl (aj (fun _=>?_) (fun hd=>by cases hd))
 refine ak rfl (ak rfl (ak rfl ?_))
 refine au (cT ..) [iV b.phase] rfl rfl ⟨rfl,trivial⟩ ?_
 refine am (US hG.w _ hp) rfl ⟨rfl,trivial⟩ fun H1 l1=>?_
 refine ak rfl (ak rfl (ak rfl (ak rfl ?_)))
 exact qG (k:=b.phase + 1) (af ⟨rfl,rfl⟩)
def Gi (b:Bd):Bd:=if b.s0.kept=true then { b with s1:={ b.s1 with kept:=true } } else { b with s0:={ b.s0 with kept:=true } }
theorem Su {b:Bd} (h:Iv b):Iv (Gi b):=by
 have hq:=h.q
 rw[Gi]
 split
 ·exact⟨⟨eM hq.pl (List.Perm.refl _) rfl rfl,hq.ac,hq.tu,hq.ph,hq.ho,hq.pa,hq.n5,hq.q0,⟨hq.q1.life,hq.q1.pool,hq.q1.mull,hq.q1.acts,hq.q1.field⟩,hq.st,hq.qu,hq.aa,hq.bl,hq.tok⟩,h.far,h.hand,h.ph,h.t0⟩
 ·exact⟨⟨eM hq.pl (List.Perm.refl _) rfl rfl,hq.ac,hq.tu,hq.ph,hq.ho,hq.pa,hq.n5,⟨hq.q0.life,hq.q0.pool,hq.q0.mull,hq.q0.acts,hq.q0.field⟩,hq.q1,hq.st,hq.qu,hq.aa,hq.bl,hq.tok⟩,h.far,h.hand,h.ph,h.t0⟩
theorem PT {H:Heap} {v:cI} {b:Bd} (h:BdS H v b):BdS H v (Gi b):=by
 rw[Gi]
 split <;> exact⟨h.objs,⟨h.s0.lib,h.s0.hand,h.s0.field,h.s0.grave⟩,⟨h.s1.lib,h.s1.hand,h.s1.field,h.s1.grave⟩,h.stack,h.queue,h.att,h.blocks⟩
theorem Wm {b:Bd} (h:prK b=1):b.phase=0∧(b.s0.kept=true→b.s1.kept=false):=by
 rw[prK] at h
 split at h
 ·rename_i h0
  refine⟨h0,fun hk=>?_⟩
  split at h
  ·cases h
  ·rename_i hn
   rw[hk,Bool.true_and] at hn
   simpa using hn
 ·split at h <;> cases h
theorem Vr {b:Bd} (h:prK b=2):b.phase=4∨b.phase=9:=by
 rw[prK] at h
 split at h
 ·split at h <;> cases h
 ·split at h
  ·assumption
  ·cases h
theorem Ss {b:Bd} (h:prK b=1):rk b - 1≤rk (Gi b):=by
 obtain⟨h0,hk⟩:=Wm h
 rw[Gi]
 by_cases a:b.s0.kept=true
 ·have e1:=hk a
  rw[if_pos a,rk,rk,if_pos h0,if_pos h0]
  simp[a,e1]
 ·rw[if_neg a,rk,rk,if_pos h0,if_pos h0]
  simp only[a,if_true]
  simp
  omega
theorem R1 {b:Bd} (h:Iv b) (hp:prK b=2) (hr:1≤rk b):Iv (si b (b.phase + 1)):=by
 have h49:=Vr hp
 refine h.phase (by omega) (by omega) ?_ (by omega)
 rcases h.far with h1 | h1
 ·exact .inl h1
 ·rw[rk,if_neg (by omega),if_neg (by omega)] at hr
  by_cases a:b.phase≤4
  ·exact .inr (by omega)
  ·rw[if_neg a] at hr;omega
theorem RZ {b:Bd} (hp:prK b=2):rk b - 1≤rk (si b (b.phase + 1)):=by
 have h49:=Vr hp
 show rk b - 1≤if b.phase + 1=0 then _ else if b.turn≤1 then (if b.phase + 1≤4 then 3 else if b.phase + 1≤9 then 2 else 1) else if b.phase + 1≤4 then 1 else 0
 have e0:¬ b.phase=0:=by omega
 have e1:¬ b.phase + 1=0:=by omega
 rw[rk,if_neg e0,if_neg e1]
 rcases h49 with e | e <;> rw[e] <;> split <;> decide
def Rk (b:Bd):Int:=if prK b=1 then 2 else 1
def AnQ (g d:Nat) (cv dl:Value) (u:Nat) (c:Cf) (k:Nat) (r:Value) (H':Heap) (O':Go.Sx.Own):Prop:=∃ n,r=.tuple #[n,iV 0]∧GQ g d cv dl u c k n H' O'
theorem GQ.mono {g d:Nat} {cv dl:Value} {u:Nat} {c:Cf} {k k':Nat} {r:Value} {H':Heap} {O':Go.Sx.Own} (h:GQ g d cv dl u c k r H' O') (hk:k'≤k):GQ g d cv dl u c k' r H' O':=by
 obtain⟨n,v,b,l0,l1,rs,a1,a2,a3,a4,a5,a6⟩:=h
 exact⟨n,v,b,l0,l1,rs,a1,a2,a3,a4,by omega,a6⟩
theorem QJ {H:Heap} {g d:Nat} {cv dl:Value} {l:List Nat} {u:Nat} {c:Cf} {cs:List CdF} (hG:Gs H cv dl l u c cs) {v:cI} {b:Bd} (h:BdS H v b) (hI:Iv b) (hr:1≤rk b) (he0:b.s0.empty=false) (he1:b.s1.empty=false) (hk:prK b ≠ 0) :
  Triple PP kK [gp g,.agg #[iV (Rk b),iV 0,iV 0]] H (GO g d cv dl u c v b false false 0) (AnQ g d cv dl u c (rk b - 1)):=by
 have hq:=hI.q
 refine oZ (vs:=[gp g,iV (Rk b),iV 0,iV 0]) (by kernel_rfl) ⟨rfl,rfl,rfl,rfl,trivial⟩ ?_
 simp only[kC]
 refine ah fun r0=>?_
 refine am (Ac (cT ..)) rfl ⟨rfl,trivial⟩ fun H1 l1=>?_
 refine aj (fun hd=>by cases hd) (fun _=>?_)
 refine ak rfl (ak rfl ?_)
 refine au (cT ..) [iV 0] rfl rfl ⟨rfl,trivial⟩ ?_
 refine ab (.bool false) rfl (aj (fun hd=>by cases hd) (fun _=>?_))
 refine bj (EG (hG.le l1) (h.le l1) hq hI.pq he0 he1 false false) ?_
 rintro r H2 _ ⟨⟨hP,_⟩,rfl⟩ l2
 have l12:=Heap.le_trans l1 l2
 have hrun:∀ {H3:Heap} {v2:cI} {b2:Bd},Heap.le H2 H3→BdS H3 v2 b2→Iv b2→rk b - 1≤rk b2→(Tree.call false jx [gp g] [] [] .one fun l _=>.ret (.tuple #[Go.Sx.g l 0,iV 0]) []).den PP (AnQ g d cv dl u c (rk b - 1)) H3 (GO g d cv dl u c v2 b2 false false 0):=by
  intro H3 v2 b2 l3 k1 k2 k3
  refine bj (UE (hG.le (Heap.le_trans l12 l3)) k1 k2) ?_
  rintro r H4 O4 hgq l4
  obtain⟨n,_,_,_,_,_,rfl,_⟩:=id hgq
  exact⟨[iV n],rfl,⟨rfl,trivial⟩,af ⟨_,rfl,hgq.mono k3⟩⟩
 rcases hP with hP | hP | hP
 ·exact absurd hP.1 hk
 ·obtain⟨e,⟨w,rows,rfl,hw,_⟩,_⟩:=hP
  have ea:Rk b=2:=if_pos e
  rw[ea]
  refine⟨_,rfl,⟨rfl,rfl,hw.one,trivial⟩,ah fun r1=>?_⟩
  refine ae (ae (ae ?_))
  refine am (JB (.inr rfl) hw _ _) rfl ⟨rfl,trivial⟩ fun H3 l3=>?_
  refine ab (.bool false) rfl (aj (fun hd=>by cases hd) (fun _=>?_))
  refine ae (ak rfl (ak rfl (ak rfl ?_)))
  obtain⟨p,hp,hpe⟩:∃ p:Nat,p < 2∧(if b.s0.kept=true then (1:Int) else 0)=p:=by
   split
   ·exact⟨1,by decide,rfl⟩
   ·exact⟨0,by decide,rfl⟩
  have hpe':(if b.s0.kept then (1:Int) else 0)=(p:Int):=hpe
  rw[hpe']
  refine ab (.pointer (some ⟨g,8 + p * 14,none⟩)) (by simp[Go.Sx.g,al,fA,Addr.add,gp,an];omega) ?_
  refine ae ?_
  refine ab (.bool false) rfl ?_
  refine aj (fun hd=>by cases hd) (fun _=>?_)
  refine ab (.bool false) rfl ?_
  refine aj (fun hd=>by cases hd) (fun _=>?_)
  refine ab (.bool false) rfl ?_
  unfold cP
  refine aj (fun hd=>by cases hd) (fun _=>?_)
  unfold dY
  refine ae ?_
  refine ab (.bool true) rfl (aj (fun _=>?_) (fun hd=>by cases hd))
  refine ak rfl (ak rfl (ak rfl ?_))
  refine fC (g:=g) (off:=8 + p * 14 + 11) (cs:=gmC c cv v b (gp d) false false 0) (cs':=gmC c cv v (Gi b) (gp d) false false 0) (L:=[mj d dl u]) (List.Perm.refl _) (by simp[gmC,cfC,ao];omega) ?_ ?_
  ·rw[Gi]
   split at hpe
   ·rename_i ht
    obtain rfl:p=1:=by omega
    rw[if_pos ht];rfl
   ·rename_i ht
    obtain rfl:p=0:=by omega
    rw[if_neg ht];rfl
  ·exact hrun l3 (PT (h.le (Heap.le_trans l12 l3))) (Su hI) (Ss e)
 ·obtain⟨e,⟨w,rows,rfl,hw,_⟩,_⟩:=hP
  have ea:Rk b=1:=if_neg (by rw[e];decide)
  rw[ea]
  refine⟨_,rfl,⟨rfl,rfl,hw.one,trivial⟩,ah fun r1=>?_⟩
  refine ae (ae (ae ?_))
  refine am (JB (.inl rfl) hw _ _) rfl ⟨rfl,trivial⟩ fun H3 l3=>?_
  refine ab (.bool false) rfl (aj (fun hd=>by cases hd) (fun _=>?_))
  refine ae (ak rfl (ak rfl (ak rfl ?_)))
  obtain⟨p,hp,hpe⟩:∃ p:Nat,p < 2∧b.active=p:=⟨b.active.toNat,by have:=hq.ac;omega,by have:=hq.ac;omega⟩
  rw[hpe]
  refine ab (.pointer (some ⟨g,8 + p * 14,none⟩)) (by simp[Go.Sx.g,al,fA,Addr.add,gp,an];omega) ?_
  refine ae ?_
  refine ab (.bool false) rfl ?_
  refine aj (fun hd=>by cases hd) (fun _=>?_)
  refine ab (.bool false) rfl ?_
  refine aj (fun hd=>by cases hd) (fun _=>?_)
  refine ab (.bool false) rfl ?_
  unfold cP
  refine aj (fun hd=>by cases hd) (fun _=>?_)
  unfold dY
  refine ae ?_
  refine ab (.bool false) rfl (aj (fun hd=>by cases hd) (fun _=>?_))
  refine ab (.bool false) rfl (aj (fun hd=>by cases hd) (fun _=>?_))
  refine ab (.bool true) rfl (aj (fun _=>?_) (fun hd=>by cases hd))
  refine ae ?_
  refine sU (UF (hG.le (Heap.le_trans l12 l3)) v (Vr e)) fun H4 l4=>?_
  have l24:=Heap.le_trans l3 l4
  exact hrun l24 (CQ (h.le (Heap.le_trans l12 l24)) _) (R1 hI e hr) (RZ e)
theorem Mc:∀ {l:List Ob} {prev:Option Int},(∀ p,prev=some p→∀ o ∈ l,p < o.id)→l.Pairwise (fun x y=>x.id < y.id)→EY prev l=true
 | [],_,_,_=>rfl
 | o::r,prev,h1,h2=>by
  have h2:=List.pairwise_cons.1 h2
  rw[EY,Mc (prev:=some o.id) (fun p hp x hx=>by cases hp;exact h2.1 x hx) h2.2,Bool.and_true]
  cases prev with
  | none=>rfl
  | some p =>
   have:=h1 p rfl o List.mem_cons_self
   simp only[nA,Bool.not_eq_true',decide_eq_false_iff_not]
   omega
theorem t7 {k:Nat} {l:List Int} {ow:Int} {o:Ob} (h:o ∈ dK k l ow):∃ (i:Nat) (hi:i < l.length),o=oN ((k + i + 1:Nat):Int) l[i] ow:=by
 obtain⟨i,hi,rfl⟩:=List.mem_mapIdx.1 h
 exact⟨i,hi,rfl⟩
theorem Gx (k:Nat) (l:List Int) (ow:Int):(dK k l ow).Pairwise fun x y=>x.id < y.id:=by
 rw[List.pairwise_iff_getElem]
 intro i j hi hj hij
 simp only[dK,List.getElem_mapIdx,oN]
 omega
theorem zh {life:Int} {a c:List Int} (h:vo life a c=true):(1≤life∧life≤9999)∧a.length + c.length≤500∧∀ x ∈ a++c,0≤x∧x≤399:=by
 simp only[vo,Bool.and_eq_true,decide_eq_true_eq,List.all_eq_true] at h
 exact⟨h.1.1,h.1.2,h.2⟩
theorem FZ {life:Int} {a c:List Int} {o:Ob} (h:o ∈ (vp life a c).objs):∃ (n:Nat) (x ow:Int),n < a.length + c.length∧x ∈ a++c∧(ow=0∨ow=1)∧o=oN ((n + 1:Nat):Int) x ow:=by
 rcases List.mem_append.1 h with h | h
 ·obtain⟨i,hi,rfl⟩:=t7 h
  exact⟨i,a[i],0,by omega,List.mem_append_left _ (List.getElem_mem hi),.inl rfl,by rw[Nat.zero_add]⟩
 ·obtain⟨i,hi,rfl⟩:=t7 h
  exact⟨a.length + i,c[i],1,by omega,List.mem_append_right _ (List.getElem_mem hi),.inr rfl,rfl⟩
theorem KB (k:Nat) (l:List Int) (ow:Int):((dK k l ow).map (·.id)).map (fun i=>(i,ow))=(dK k l ow).map fun o=>(o.id,o.owner):=by
 rw[List.map_map]
 refine List.map_congr_left fun o ho=>?_
 obtain⟨i,hi,rfl⟩:=t7 ho
 rfl
theorem sH (life:Int) (a c:List Int):aM (vp life a c)=(vp life a c).objs.map fun o=>(o.id,o.owner):=by
 simp only[aM,fw,vp,zSt,List.append_nil,KB,iy,iO,List.filter_nil,List.map_nil,List.map_append]
theorem BX (life:Int) (a c:List Int):(vp life a c).objs.Pairwise fun x y=>x.id < y.id:=by
 refine List.pairwise_append.2 ⟨Gx _ _ _,Gx _ _ _,fun x hx y hy=>?_⟩
 obtain⟨i,hi,rfl⟩:=t7 hx
 obtain⟨j,hj,rfl⟩:=t7 hy
 simp only[oN]
 omega
theorem FY {life:Int} {a c:List Int} (h:vo life a c=true):cq bF (vp life a c)=true:=by
 obtain⟨_,h2,h3⟩:=zh h
 have hn:((aM (vp life a c)).map (·.1)).Nodup:=by
  rw[sH,List.map_map]
  exact (List.pairwise_map.2 ((BX life a c).imp fun h=>Int.ne_of_lt h))
 simp only[cq,Bool.and_eq_true,decide_eq_true_eq,pn]
 refine⟨hn,⟨Mc (fun p hp=>by cases hp) (BX life a c),?_⟩,by rw[sH,List.length_map]⟩
 rw[List.all_eq_true]
 intro o ho
 have hm:(o.id,o.owner) ∈ aM (vp life a c):=by
  rw[sH]
  exact List.mem_map.2 ⟨o,ho,rfl⟩
 have hl:=(j7 hn).2 hm
 have hv:bF o=true:=by
  obtain⟨n,x,ow,hnn,hx,how,rfl⟩:=FZ ho
  have:=h3 x hx
  rw[uS]
  exact⟨by simp[oN],.inr ⟨rfl,rfl⟩,by simp only[oN];omega,by simp only[oN];omega,by simp only[oN];omega,by simp only[oN];omega,how⟩
 have hc:dQ (bM (vp life a c).stack) o.id=none:=rfl
 rw[ok1,hv,hl,hc]
 simp
structure Pn (b:Bd) (n0 n1:Nat):Prop where
 q:Qt b
 ph:b.phase=0
 tu:b.turn=0
 k0:b.s0.kept=false
 k1:b.s1.kept=false
 e0:b.s0.empty=false
 e1:b.s1.empty=false
 h0:b.s0.hand.length≤n0
 h1:b.s1.hand.length≤n1
theorem zSq {life:Int} (h:1≤life∧life≤9999) (l:List Int):Sq (zSt life l):=⟨h,⟨rfl,rfl,rfl,rfl⟩,⟨by show (0:Int)≤0;decide,by show (0:Int)≤7;decide⟩,⟨by show (0:Int)≤0;decide,by show (0:Int)≤255;decide⟩,rfl⟩
theorem Pq {life:Int} {a c:List Int} (h:vo life a c=true):Pn (vp life a c) 0 0:=by
 obtain⟨h1,h2,h3⟩:=zh h
 refine⟨⟨FY h,.inl rfl,⟨by show (0:Int)≤0;decide,by show (0:Int)≤1000;decide⟩,⟨by show (0:Int)≤0;decide,by show (0:Int)≤10;decide⟩,rfl,rfl,?_,zSq h1 _,zSq h1 _,rfl,rfl,rfl,rfl,fun o ho=>?_⟩,rfl,rfl,rfl,rfl,rfl,rfl,Nat.le_refl _,Nat.le_refl _⟩
 ·show (dK 0 a 0++dK a.length c 1).length≤500
  rw[List.length_append,eR,eR]
  exact h2
 ·obtain⟨n,x,ow,_,hx,_,rfl⟩:=FZ ho
  exact (h3 x hx).1
theorem Pn.iv {b:Bd} {n0 n1:Nat} (h:Pn b n0 n1) (h0:n0≤7) (h1:n1≤7):Iv b:=by
 have e1:=h.h0
 have e2:=h.h1
 refine⟨h.q,.inl (by rw[h.tu];decide),fun _=>⟨by omega,by omega⟩,by rw[h.ph];decide,by rw[h.ph,h.tu]⟩
theorem Pn.rk {b:Bd} {n0 n1:Nat} (h:Pn b n0 n1):rk b=5:=by
 rw[Go.Proofs.YteakpllehopodaaGreatDoor.rk,if_pos h.ph,h.k0,h.k1]
 rfl
def Um (b:Bd) (p:Int) (l:List Int):Bd:=if p=0 then { b with s0:={ b.s0 with lib:=l } } else { b with s1:={ b.s1 with lib:=l } }
theorem Pn.lib {b:Bd} {n0 n1:Nat} (h:Pn b n0 n1) {p:Int} (hp:p=0∨p=1) {l:List Int} (hl:l.Perm (cg b p).lib):Pn (Um b p l) n0 n1:=by
 have q:=h.q
 rcases hp with rfl | rfl
 ·have hl:l.Perm b.s0.lib:=hl
  exact⟨⟨eM q.pl (((hl.symm.append_right _).map _).append_right _) rfl rfl,q.ac,q.tu,q.ph,q.ho,q.pa,q.n5,⟨q.q0.life,q.q0.pool,q.q0.mull,q.q0.acts,q.q0.field⟩,q.q1,q.st,q.qu,q.aa,q.bl,q.tok⟩,h.ph,h.tu,h.k0,h.k1,h.e0,h.e1,h.h0,h.h1⟩
 ·have hl:l.Perm b.s1.lib:=hl
  exact⟨⟨eM q.pl ((((hl.symm.append_right _).map _).append_right _).append_left _) rfl rfl,q.ac,q.tu,q.ph,q.ho,q.pa,q.n5,q.q0,⟨q.q1.life,q.q1.pool,q.q1.mull,q.q1.acts,q.q1.field⟩,q.st,q.qu,q.aa,q.bl,q.tok⟩,h.ph,h.tu,h.k0,h.k1,h.e0,h.e1,h.h0,h.h1⟩
theorem Pn.draw {b:Bd} {n0 n1:Nat} (h:Pn b n0 n1) {p:Int} (hp:p=0∨p=1) {n:Nat} (hn:n≤(cg b p).lib.length):Pn (cY n b p) (n0 + if p=0 then n else 0) (n1 + if p=1 then n else 0):=by
 obtain⟨d1,d2,d3,d4,d5⟩:=vF hp n b h.q
 have hd:=d5 hn
 have e1:=h.h0
 have e2:=h.h1
 exact⟨d1,d2.p.trans h.ph,d2.t.trans h.tu,d2.k0.trans h.k0,d2.k1.trans h.k1,hd.1.trans h.e0,hd.2.trans h.e1,by omega,by omega⟩
def Wc (r:Value):Prop:=∃ e:Int,r=.tuple #[.pointer none,iV e]∧e ≠ 0
def VY (c:Cf) (cs:List CdF) (l:List Nat) (r:Value) (H':Heap) (O':Go.Sx.Own):Prop :=
 Wc r∨∃ g d cv dl,r=.tuple #[gp g,iV 0]∧O'=GO g d cv dl 0 c QX zBd false false 0∧Gs H' cv dl l 0 c cs
theorem SZ {H:Heap} (hw:Wd H) {c:Cf} {cv lv:Value} {cs:List CdF} {l:List Nat} (hc:CardsF H cv cs) (h400:cs.length≤400) (hl:DlS H lv l) :
  Triple PP xj [.agg (cfC c).toArray,cv,lv] H [] (VY c cs l):=by
 refine AW (vs:=cfC c++[cv,lv]) (by kernel_rfl) ⟨rfl,rfl,rfl,rfl,rfl,rfl,hc.one,hl.1.one,trivial⟩ ?_
 simp only[wK]
 refine ah fun r0=>?_
 refine az (UT hc) ?_
 rintro _ H1 _ ⟨⟨p,rfl,hp,hsm⟩ | ⟨e,rfl,he⟩,rfl⟩ l1
 rotate_left
 ·refine⟨[.pointer none,iV e],rfl,⟨rfl,rfl,trivial⟩,?_⟩
  refine ab _ (fx _ _) (aj (fun _=>af (.inl ⟨2,rfl,by decide⟩)) (fun hd=>absurd (bne_eq_false_iff_eq.1 hd) he))
 refine⟨[p,iV 0],rfl,⟨hp.one,rfl,trivial⟩,?_⟩
 refine ab (.bool false) rfl (aj (fun hd=>by cases hd) (fun _=>?_))
 refine ae ?_
 refine am (GV c _ _) rfl ⟨rfl,trivial⟩ fun H2 l2=>?_
 have l12:=Heap.le_trans l1 l2
 refine ab _ (aC _) ?_
 refine ai ?_
 refine ab _ (hl.le l12).len ?_
 refine ai ?_
 refine ab _ (bG _ _) ?_
 refine ai ?_
 refine ab _ (aO _ _) (aj (fun _=>af (.inl ⟨2,rfl,by decide⟩)) (fun hd=>?_))
 have hv:cfV c=true:=by
  have:=(Bool.or_eq_false_iff.1 hd).1
  simpa using this
 refine az (UK (hl.le l12)) ?_
 rintro _ H3 _ ⟨d,dl,rfl,rfl,hdl⟩ l3
 refine⟨[gp d,iV 0],rfl,⟨rfl,rfl,trivial⟩,?_⟩
 refine ab (.bool false) rfl (aj (fun hd=>by cases hd) (fun _=>?_))
 refine ae ?_
 have l23:=Heap.le_trans l2 l3
 refine az (QC (hp.le l23) h400) ?_
 rintro x H4 _ ⟨hx,rfl⟩ l4
 refine⟨[x],rfl,⟨hx.one,trivial⟩,ah fun r1=>?_⟩
 refine tI (O':=GO r1 d x dl 0 c QX zBd false false 0) (Y:=[]) ?_ (.inr ⟨r1,d,x,dl,rfl,rfl,hx,hsm,hdl.le l4,Nat.zero_le _,hv,hw.le (Heap.le_trans l12 (Heap.le_trans l3 l4))⟩)
 exact List.Perm.refl _
def Uh (n:Nat) (x:Int):Bool:=decide (x < 0) || decide (x ≥ n)
theorem UW {H:Heap} {O:Go.Sx.Own} {r:Nat} {T:TypeId} {cv:Value} {n:Nat} (h1:cv.oneCell'=true) (hlen:al .len [cv]=some (iV n)) (hm:uQ r T [cv] ∈ O) (x:Int):RetO PP jY [iV x,gp r] H O (.bool (Uh n x)):=by
 refine yG (vs:=[iV x,gp r]) (by kernel_rfl) ⟨rfl,rfl,trivial⟩ ?_
 simp only[un]
 refine ab _ (aG _ _) ?_
 refine⟨[cv],rfl,⟨h1,trivial⟩,fun _=>.inr ⟨⟨r,0,none⟩,[cv].toArray,T,rfl,rfl,hm,rfl,rfl⟩,?_⟩
 refine ai ?_
 refine ab _ hlen ?_
 refine ai (ai ?_)
 refine ab _ (eC _ _) ?_
 refine ai ?_
 exact ab _ (aO _ _) (af ⟨rfl,rfl⟩)
theorem Rj {H:Heap} {cv v:Value} {n:Nat} (h1:cv.oneCell'=true) (hlen:al .len [cv]=some (iV n)) {l:List Int} (hs:Sl H 1 v (aJ l)) (r:Nat) (T:TypeId) :
  RetO PP ff [v,.func (.func jY) #[] #[gp r]] H [uQ r T [cv]] (.bool (l.any (Uh n))):=by
 refine iK (vs:=[v,.func (.func jY) #[] #[gp r]]) (by kernel_rfl) ⟨hs.one,rfl,trivial⟩ ?_
 simp only[fe]
 refine am (oq (pr:=fun row=>match Go.Sx.g row 0 with | .int _ x=>Uh n x | _=>false) (hs.rsl _) rfl (dE fc (by decide)) fun H' hl row hr=>?_) rfl ⟨rfl,trivial⟩ fun H1 _=>ab _ (eC _ _) (af ⟨?_,rfl⟩)
 ·obtain⟨x,_,rfl⟩:=List.mem_map.1 hr
  exact UW h1 hlen List.mem_cons_self x
 ·refine (congrArg Value.bool (vw _ _ 0 (by omega))).trans ?_
  rw[aJ,List.any_map]
  rfl
theorem NL {H:Heap} {g d:Nat} {cv dl:Value} {l:List Nat} {u:Nat} {c:Cf} {cs:List CdF} (hG:Gs H cv dl l u c cs) {v:cI} {b:Bd} (h:BdS H v b) (hq:Qt b) {p:Int} (hp:p=0∨p=1) :
  Triple PP jH [gp g,iV p] H (GO g d cv dl u c v b false false 0) fun r H' O'=>(∃ e:Int,r=iV e∧e ≠ 0)∨(r=iV 0∧∃ v' zs u',zs.Perm (cg b p).lib∧u'≤l.length∧O'=GO g d cv dl u' c v' (Um b p zs) false false 0∧BdS H' v' (Um b p zs)):=by
 refine oH (vs:=[gp g,iV p]) (by kernel_rfl) ⟨rfl,rfl,trivial⟩ ?_
 simp only[jB]
 obtain⟨q1,_,_,q2,_⟩:=hq.lens
 have hO:∀ X:Nat × Obj,([X,mj d dl u]:Go.Sx.Own).Perm ([mj d dl u]++[X]):=fun X=>List.Perm.swap _ _ _
 refine ak rfl (ak rfl (ak rfl ?_))
 rcases hp with rfl | rfl
 ·refine ab (.pointer (some ⟨g,8,none⟩)) (by simp[Go.Sx.g,al,fA,Addr.add,gp,an]) ?_
  refine ak rfl (ak rfl ?_)
  refine au (cT ..) [gp d] rfl rfl ⟨rfl,trivial⟩ ?_
  refine ak rfl (ak rfl ?_)
  refine au (cT ..) [v.l0] rfl rfl ⟨h.s0.lib.one,trivial⟩ ?_
  refine ik (hO _) (GW hG.dl hG.u h.s0.lib (by omega)) ?_
  rintro _ H1 _ (⟨e,rfl,he,rfl⟩ | ⟨x,zs,u',rfl,hz,hx,hu,rfl⟩) l1
  ·refine⟨[.slice none 0 0,iV e],rfl,⟨rfl,rfl,trivial⟩,?_⟩
   refine ab _ (aw _ _) (aj (fun hd=>absurd (beq_iff_eq.1 hd) he) (fun _=>af (.inl ⟨e,rfl,he⟩)))
  ·refine⟨[x,iV 0],rfl,⟨hx.one,rfl,trivial⟩,?_⟩
   refine ab (.bool true) rfl (aj (fun _=>?_) (fun hd=>by cases hd))
   refine ak rfl (ak rfl (ak rfl ?_))
   refine fC (g:=g) (off:=13) (cs:=gmC c cv v b (gp d) false false 0) (cs':=gmC c cv { v with l0:=x } (Um b 0 zs) (gp d) false false 0) (L:=[mj d dl u']) (List.Perm.swap _ _ _) (by simp[gmC,cfC,ao]) rfl ?_
   have h':=h.le l1
   exact af (.inr ⟨rfl,_,zs,u',hz,hu,rfl,⟨h'.objs,⟨hx,h'.s0.hand,h'.s0.field,h'.s0.grave⟩,⟨h'.s1.lib,h'.s1.hand,h'.s1.field,h'.s1.grave⟩,h'.stack,h'.queue,h'.att,h'.blocks⟩⟩)
 ·refine ab (.pointer (some ⟨g,22,none⟩)) (by simp[Go.Sx.g,al,fA,Addr.add,gp,an]) ?_
  refine ak rfl (ak rfl ?_)
  refine au (cT ..) [gp d] rfl rfl ⟨rfl,trivial⟩ ?_
  refine ak rfl (ak rfl ?_)
  refine au (cT ..) [v.l1] rfl rfl ⟨h.s1.lib.one,trivial⟩ ?_
  refine ik (hO _) (GW hG.dl hG.u h.s1.lib (by omega)) ?_
  rintro _ H1 _ (⟨e,rfl,he,rfl⟩ | ⟨x,zs,u',rfl,hz,hx,hu,rfl⟩) l1
  ·refine⟨[.slice none 0 0,iV e],rfl,⟨rfl,rfl,trivial⟩,?_⟩
   refine ab _ (aw _ _) (aj (fun hd=>absurd (beq_iff_eq.1 hd) he) (fun _=>af (.inl ⟨e,rfl,he⟩)))
  ·refine⟨[x,iV 0],rfl,⟨hx.one,rfl,trivial⟩,?_⟩
   refine ab (.bool true) rfl (aj (fun _=>?_) (fun hd=>by cases hd))
   refine ak rfl (ak rfl (ak rfl ?_))
   refine fC (g:=g) (off:=27) (cs:=gmC c cv v b (gp d) false false 0) (cs':=gmC c cv { v with l1:=x } (Um b 1 zs) (gp d) false false 0) (L:=[mj d dl u']) (List.Perm.swap _ _ _) (by simp[gmC,cfC,ao]) rfl ?_
   have h':=h.le l1
   exact af (.inr ⟨rfl,_,zs,u',hz,hu,rfl,⟨h'.objs,⟨h'.s0.lib,h'.s0.hand,h'.s0.field,h'.s0.grave⟩,⟨hx,h'.s1.hand,h'.s1.field,h'.s1.grave⟩,h'.stack,h'.queue,h'.att,h'.blocks⟩⟩)
theorem Rf {H:Heap} {g d:Nat} {cv dl:Value} {u:Nat} {c:Cf} {v:cI} {b:Bd} (h:BdS H v b) (hq:Qt b) {p:Int} (hp:p=0∨p=1) :
  Triple PP ni [gp g,iV p,iV 7] H (GO g d cv dl u c v b false false 0) fun r H' O'=>r=.tuple #[]∧∃ v' n,n≤(cg b p).lib.length∧n≤7∧O'=GO g d cv dl u c v' (cY n b p) false false 0∧BdS H' v' (cY n b p):=by
 refine sq (vs:=[gp g,iV p,iV 7]) (by kernel_rfl) ⟨rfl,rfl,rfl,trivial⟩ ?_
 simp only[mT]
 refine ak rfl (ak rfl ?_)
 refine au (cT ..) (ao v b) rfl rfl (ap (h.r [])) ?_
 refine ak rfl (ak rfl (ak rfl ?_))
 obtain⟨lv,hl1,hlen,off,hoff,hpi,hld⟩:∃ lv,lv.oneCell'=true∧al .len [lv]=some (iV (cg b p).lib.length)∧∃ off,off < 40∧al (.pidx 2 14) [an (an (gp g) 7) 1,iV p]=some (.pointer (some ⟨g,off,none⟩))∧((gmC c cv v b (gp d) false false 0).drop (off + 5)).take 1=[lv]:=by
  rcases hp with rfl | rfl
  ·exact⟨v.l0,h.s0.lib.one,by have:=h.s0.lib.len;rwa [aJ,List.length_map] at this,8,by decide,by simp[al,fA,Addr.add,gp,an],rfl⟩
  ·exact⟨v.l1,h.s1.lib.one,by have:=h.s1.lib.len;rwa [aJ,List.length_map] at this,22,by decide,by simp[al,fA,Addr.add,gp,an],rfl⟩
 refine ab _ hpi ?_
 refine ak rfl ?_
 refine au (cT ..) [lv] hld rfl ⟨hl1,trivial⟩ ?_
 refine ab _ hlen ?_
 obtain⟨n,hn1,hn2,hn3⟩:∃ n:Nat,n≤(cg b p).lib.length∧n≤7∧al .min2 [iV 7,iV (cg b p).lib.length]=some (iV n):=⟨min 7 (cg b p).lib.length,by omega,by omega,by simp only[al];congr 2;omega⟩
 refine ab _ hn3 ?_
 refine ab (iV n) (by simp only[al];congr 2;omega) ?_
 refine az (N6 h hq hp (n:=n) (by omega)) ?_
 rintro _ H1 _ ⟨⟨w,rfl,hw⟩,rfl⟩ l1
 rw[List.nil_append]
 refine⟨ao w (cY n b p)++[iV 0],rfl,aK (ap (hw.r [])) ⟨rfl,trivial⟩,?_⟩
 exact sU (CL hw) fun H2 l2=>af ⟨rfl,w,n,hn1,hn2,rfl,hw.le l2⟩
def Lv (g d:Nat) (cv dl:Value) (l:List Nat) (u:Nat) (c:Cf) (cs:List CdF) (k:Nat) (H':Heap) (O':Go.Sx.Own):Prop :=
 Gs H' cv dl l u c cs∧∃ (v:cI) (b:Bd) (l0 l1:Bool) (rs:Int),O'=GO g d cv dl u c v b l0 l1 rs∧BdS H' v b∧Iv b∧k≤rk b ∧
  (rs ≠ 0∨(rs=0∧l0=false∧l1=false∧b.s0.empty=false∧b.s1.empty=false∧prK b ≠ 0))
def VV (c:Cf) (cs:List CdF) (l:List Nat) (r:Value) (H':Heap) (O':Go.Sx.Own):Prop :=
 Wc r∨∃ g d cv dl u,r=.tuple #[gp g,iV 0]∧Lv g d cv dl l u c cs 5 H' O'
theorem L9 {n:Nat} {l:List Int} (h:l.any (Uh n)=false):∀ x ∈ l,0≤x∧x < n:=fun x hx=>by
 have:=List.any_eq_false.1 h x hx
 simp[Uh] at this
 omega
theorem UQ {H:Heap} (hw:Wd H) {c:Cf} {cv lv va vc:Value} {cs:List CdF} {l:List Nat} {a e:List Int} (hc:CardsF H cv cs) (h400:cs.length≤400) (hl:DlS H lv l)
  (ha:Sl H 1 va (aJ a)) (he:Sl H 1 vc (aJ e)) (hla:a.length≤1000) (hle:e.length≤1000) :
  Triple PP AB [.agg (cfC c).toArray,cv,.agg #[va,vc],lv] H [] (VV c cs l):=by
 refine Dx (vs:=cfC c++[cv,va,vc,lv]) (by kernel_rfl) ⟨rfl,rfl,rfl,rfl,rfl,rfl,hc.one,ha.one,he.one,hl.1.one,trivial⟩ ?_
 simp only[Ao]
 have hlen:al .len [cv]=some (iV cs.length):=by
  obtain⟨rows,h1,h2,_⟩:=hc
  rw[← h2];exact h1.len
 have lna:al .len [va]=some (iV a.length):=by have:=ha.len;rwa [aJ,List.length_map] at this
 have lne:al .len [vc]=some (iV e.length):=by have:=he.len;rwa [aJ,List.length_map] at this
 refine ah fun r0=>ah fun r1=>ah fun r2=>?_
 refine ae (ae ?_)
 refine bj (SZ hw hc h400 hl) ?_
 rintro _ H1 O1 (⟨x,rfl,hx⟩ | ⟨g,d,cv',dl,rfl,rfl,hG⟩) l1
 ·refine⟨[.pointer none,iV x],rfl,⟨rfl,rfl,trivial⟩,?_⟩
  exact ab _ (fx _ _) (aj (fun _=>af (.inl ⟨x,rfl,hx⟩)) (fun hd=>absurd (bne_eq_false_iff_eq.1 hd) hx))
 refine⟨[gp g,iV 0],rfl,⟨rfl,rfl,trivial⟩,?_⟩
 refine ab (.bool false) rfl (aj (fun hd=>by cases hd) (fun _=>?_))
 obtain⟨hcap,_,_,hobj⟩:=Jt hG.c
 refine ae ?_
 refine ug (own:=[⟨r1,24,[cv]⟩]) (Rj (n:=cs.length) hc.one hlen (ha.le l1) r1 24) rfl ⟨rfl,trivial⟩ ⟨rfl,⟨hc.one,trivial⟩,trivial⟩ fun H2 l2=>?_
 refine aj (fun _=>af (.inl ⟨2,rfl,by decide⟩)) (fun hd=>?_)
 have oa:=L9 hd
 have l12:=Heap.le_trans l1 l2
 refine ug (own:=[⟨r1,24,[cv]⟩]) (Rj (n:=cs.length) hc.one hlen (he.le l12) r1 24) rfl ⟨rfl,trivial⟩ ⟨rfl,⟨hc.one,trivial⟩,trivial⟩ fun H3 l3=>?_
 refine aj (fun _=>af (.inl ⟨2,rfl,by decide⟩)) (fun hd=>?_)
 have oe:=L9 hd
 have l13:=Heap.le_trans l12 l3
 have l23:=Heap.le_trans l2 l3
 refine ae ?_
 refine ab _ lna ?_
 refine ae ?_
 refine ab _ lne ?_
 refine ab _ (EU (by omega)) ?_
 refine ae ?_
 refine ab _ (bG _ _) (aj (fun _=>af (.inl ⟨2,rfl,by decide⟩)) (fun hd=>?_))
 have hsum:¬ ((a.length + e.length:Nat):Int) > c.objs:=of_decide_eq_false hd
 have hok:vo c.life a e=true:=by
  simp only[vo,Bool.and_eq_true,decide_eq_true_eq,List.all_eq_true]
  refine⟨⟨hcap,by omega⟩,fun x hx=>?_⟩
  rcases List.mem_append.1 hx with hx | hx
  ·have:=oa x hx;omega
  ·have:=oe x hx;omega
 refine ae (ae ?_)
 refine az (VN c.life (ha.le l13) (he.le l13) hla hle) ?_
 rintro _ H4 _ ⟨rfl,w,rfl,hw4⟩ l4
 rw[QZ,if_pos hok] at hw4 ⊢
 rw[List.nil_append]
 have hp0:=Pq hok
 have l24:=Heap.le_trans l23 l4
 refine⟨ao w (vp c.life a e)++[iV 0],rfl,aK (ap (hw4.r [])) ⟨rfl,trivial⟩,?_⟩
 refine sU (CL hw4) fun H5 l5=>?_
 have l25:=Heap.le_trans l24 l5
 refine bj (NL (hG.le l25) (hw4.le l5) hp0.q (.inl rfl)) ?_
 rintro _ H6 O6 (⟨x,rfl,hx⟩ | ⟨rfl,v6,z6,u6,hz6,hu6,rfl,hb6⟩) l6
 ·refine⟨[iV x],rfl,⟨rfl,trivial⟩,?_⟩
  exact ab _ (fx _ _) (aj (fun _=>af (.inl ⟨x,rfl,hx⟩)) (fun hd=>absurd (bne_eq_false_iff_eq.1 hd) hx))
 refine⟨[iV 0],rfl,⟨rfl,trivial⟩,?_⟩
 refine ab (.bool false) rfl (aj (fun hd=>by cases hd) (fun _=>?_))
 have hp6:=hp0.lib (.inl rfl) hz6
 have l26:=Heap.le_trans l25 l6
 have hG6:Gs H6 cv' dl l u6 c cs:=by have:=hG.le l26;exact⟨this.k,this.s,this.dl,hu6,this.c,this.w⟩
 refine bj (NL hG6 hb6 hp6.q (.inr rfl)) ?_
 rintro _ H7 O7 (⟨x,rfl,hx⟩ | ⟨rfl,v7,z7,u7,hz7,hu7,rfl,hb7⟩) l7
 ·refine⟨[iV x],rfl,⟨rfl,trivial⟩,?_⟩
  exact ab _ (fx _ _) (aj (fun _=>af (.inl ⟨x,rfl,hx⟩)) (fun hd=>absurd (bne_eq_false_iff_eq.1 hd) hx))
 refine⟨[iV 0],rfl,⟨rfl,trivial⟩,?_⟩
 refine ab (.bool false) rfl (aj (fun hd=>by cases hd) (fun _=>?_))
 have hp7:=hp6.lib (.inr rfl) hz7
 have l27:=Heap.le_trans l26 l7
 have hG7:Gs H7 cv' dl l u7 c cs:=by have:=hG.le l27;exact⟨this.k,this.s,this.dl,hu7,this.c,this.w⟩
 refine bj (Rf hb7 hp7.q (.inl rfl)) ?_
 rintro _ H8 _ ⟨rfl,v8,n8,hn8,hs8,rfl,hb8⟩ l8
 refine⟨[],rfl,trivial,?_⟩
 have hp8:=hp7.draw (.inl rfl) hn8
 refine bj (Rf hb8 hp8.q (.inr rfl)) ?_
 rintro _ H9 _ ⟨rfl,v9,n9,hn9,hs9,rfl,hb9⟩ l9
 refine⟨[],rfl,trivial,?_⟩
 have hp9:=hp8.draw (.inr rfl) hn9
 have hI:=hp9.iv (by simp;omega) (by simp;omega)
 have hG9:=hG7.le (Heap.le_trans l8 l9)
 refine bj (UE hG9 hb9 hI) ?_
 rintro r H10 O10 ⟨n,v,b,l0,l1',rs,rfl,rfl,k1,k2,k3,k4⟩ l10
 refine⟨[iV n],rfl,⟨rfl,trivial⟩,af (.inr ⟨g,d,cv',dl,u7,rfl,hG9.le l10,v,b,l0,l1',rs,rfl,k1,k2,?_,k4⟩)⟩
 rw[hp9.rk] at k3
 exact k3
theorem NE {P:Program} {f:FuncId} {args:List Value} {H:Heap} {O:Go.Sx.Own} {shp:Shp} {R:Value→Heap→Go.Sx.Own→Prop} {K:List Value→List (List Value)→Heap→Go.Sx.Own→Prop} (h:Triple P f args H [] R)
  (hk:∀ v H' O1,R v H' O1→Heap.le H H'→∃ vs,shp.open v=some vs∧Ones vs∧K vs [] H' (O1++O)):dc (fun H1 O1 R=>Triple P f args H1 O1 R) true [] [] shp K H O:=by
 intro _
 refine⟨H,[],O,R,⟨rfl,.inl ⟨rfl,rfl⟩⟩,by simpa using h,fun v H' O' hr hle=>?_⟩
 obtain⟨vs,h1,h2,h3⟩:=hk v H' O' hr hle
 exact⟨vs,[],O',h1,h2,trivial,rfl,h3⟩
theorem NV {H:Heap} {v:cI} {b:Bd} (h:BdS H v b) (hq:Qt b):Triple PP lU [.agg (ao v b).toArray] H [] (BdF b):=by
 refine Triple.ghost (GX h hq.B) ?_
 rintro r H' O' _ hc ⟨w,rfl,ho⟩
 obtain⟨H1,g1,k1,_⟩:=ho.freeze (X:=[]) (by simpa using hc)
 exact⟨H1,[],by simpa using g1,⟨w,rfl,k1⟩,rfl⟩
theorem S7 (H:Heap) (O:Go.Sx.Own):RetO PP dz [.pointer none] H O (.bool true):=by
 refine gI (vs:=[.pointer none]) (by kernel_rfl) ⟨rfl,trivial⟩ ?_
 simp only[fW]
 refine ab (.bool true) rfl ?_
 refine⟨fun h=>(by cases h.1),?_⟩
 refine ai ?_
 refine⟨fun h=>(by cases h.1),?_⟩
 refine ai (ai ?_)
 refine⟨[.pointer none],rfl,⟨rfl,trivial⟩,fun h=>(by cases h.1),?_⟩
 refine ai ?_
 refine ab (.bool true) rfl (ai ?_)
 exact ab _ (aO _ _) (af ⟨rfl,rfl⟩)
theorem S5 {H:Heap} {O:Go.Sx.Own} {r:Nat} {T:TypeId} (hm:uQ r T Z0 ∈ O):RetO PP dz [gp r] H O (.bool true):=by
 refine gI (vs:=[gp r]) (by kernel_rfl) ⟨rfl,trivial⟩ ?_
 simp only[fW]
 refine ab (.bool false) rfl ?_
 refine ak rfl (ai (ak rfl (ai (ai ?_))))
 refine au hm [.pointer none] rfl rfl ⟨rfl,trivial⟩ ?_
 refine ai ?_
 refine ab (.bool true) rfl ?_
 refine ai ?_
 exact ab _ (aO _ _) (af ⟨rfl,rfl⟩)
theorem TE {H:Heap} {O:Go.Sx.Own} {p:Value} (h1:p.oneCell'=true) (hn:RetO PP dz [p] H O (.bool true)):RetO PP iU [p] H O (.pointer none):=by
 refine kh (vs:=[p]) (by kernel_rfl) ⟨h1,trivial⟩ ?_
 simp only[iS]
 exact am hn rfl ⟨rfl,trivial⟩ fun H1 l1=>aj (fun _=>af ⟨rfl,rfl⟩) (fun hd=>by cases hd)
theorem Iu {H:Heap} {g d:Nat} {cv dl:Value} {l:List Nat} {u:Nat} {c:Cf} {cs:List CdF} (hG:Gs H cv dl l u c cs) {v:cI} {b:Bd} (h:BdS H v b) (hq:Qt b) (l0 l1:Bool) (rs:Int) :
  Triple PP iU [gp g] H (GO g d cv dl u c v b l0 l1 rs) fun r _ O'=>(∃ k,r=gp k)∧O'=GO g d cv dl u c v b l0 l1 rs:=by
 refine kh (vs:=[gp g]) (by kernel_rfl) ⟨rfl,trivial⟩ ?_
 simp only[iS]
 refine am (Ac (cT ..)) rfl ⟨rfl,trivial⟩ fun H1 l1=>aj (fun hd=>by cases hd) (fun _=>?_)
 refine ak rfl ?_
 refine au (cT ..) (gmC c cv v b (gp d) l0 _ rs) rfl rfl (Sz hG.k1 h d l0 _ rs) (ah fun r0=>?_)
 refine ae (ak rfl (ak rfl ?_))
 refine au (cT ..) (ao v b) rfl rfl (ap (h.r [])) ?_
 refine ak rfl (ak rfl ?_)
 refine au (cT ..) [gp d] rfl rfl ⟨rfl,trivial⟩ ?_
 refine NE (NV (h.le l1) hq) ?_
 rintro _ H2 _ ⟨⟨w,rfl,hw⟩,rfl⟩ l2
 rw[List.nil_append]
 refine⟨ao w b,rfl,ap (hw.r []),?_⟩
 refine bj (Tj (List.mem_cons_of_mem _ List.mem_cons_self) hG.dl.1.one) ?_
 rintro _ H3 _ ⟨⟨k,rfl⟩,rfl⟩ l3
 refine⟨[gp k],rfl,⟨rfl,trivial⟩,?_⟩
 refine ae (ae ?_)
 exact tI (O':=GO g d cv dl u c v b l0 _ rs) (List.perm_append_comm) ⟨⟨r0,rfl⟩,rfl⟩
theorem Jy {H:Heap} {g d:Nat} {cv dl:Value} {u:Nat} {c:Cf} {v:cI} {b:Bd} (h:BdS H v b) (hq:Qt b) (l0 l1:Bool) (rs:Int) :
  Triple PP lO [gp g] H (GO g d cv dl u c v b l0 l1 rs) fun r H' O'=>(∃ w,r=.agg (ao w b).toArray∧BdS H' w b)∧O'=GO g d cv dl u c v b l0 l1 rs:=by
 refine q6 (vs:=[gp g]) (by kernel_rfl) ⟨rfl,trivial⟩ ?_
 simp only[lA]
 refine ah fun r0=>?_
 refine am (Ac (cT ..)) rfl ⟨rfl,trivial⟩ fun H1 l1=>aj (fun hd=>by cases hd) (fun _=>?_)
 refine ak rfl (ak rfl ?_)
 refine au (cT ..) (ao v b) rfl rfl (ap (h.r [])) ?_
 refine az (NV (h.le l1) hq) ?_
 rintro _ H2 _ ⟨⟨w,rfl,hw⟩,rfl⟩ l2
 rw[List.nil_append]
 refine⟨ao w b,rfl,ap (hw.r []),?_⟩
 refine ae (ae ?_)
 exact af ⟨⟨w,rfl,hw⟩,rfl⟩
theorem TB {H:Heap} {g d:Nat} {cv dl:Value} {u:Nat} {c:Cf} {v:cI} {b:Bd} (l0 l1:Bool) (rs:Int) :
  RetO PP lM [gp g] H (GO g d cv dl u c v b l0 l1 rs) (.tuple #[.agg #[.bool l0,.bool l1],iV rs]):=by
 refine qZ (vs:=[gp g]) (by kernel_rfl) ⟨rfl,trivial⟩ ?_
 simp only[lx]
 refine ah fun r0=>?_
 refine am (Ac (cT ..)) rfl ⟨rfl,trivial⟩ fun H1 l1=>aj (fun hd=>by cases hd) (fun _=>?_)
 refine ak rfl (ak rfl ?_)
 refine au (cT ..) [.bool l0,.bool _] rfl rfl ⟨rfl,rfl,trivial⟩ ?_
 refine ak rfl (ak rfl ?_)
 refine au (cT ..) [iV rs] rfl rfl ⟨rfl,trivial⟩ ?_
 refine ae (ae ?_)
 exact af ⟨rfl,rfl⟩
def Ik (x y:Int):Int:=if x < y then -1 else if x > y then 1 else 0
theorem KE (x y:Int):Ik x y=-1∨Ik x y=0∨Ik x y=1:=by
 rw[Ik]
 split
 ·exact .inl rfl
 ·split
  ·exact .inr (.inr rfl)
  ·exact .inr (.inl rfl)
theorem Jx (x:Int) (H:Heap) (O:Go.Sx.Own):RetO PP qx [iV x] H O (.bool false):=by
 refine u9 (vs:=[iV x]) (by kernel_rfl) ⟨rfl,trivial⟩ ?_
 simp only[qf]
 refine ab _ (fx _ _) (af ⟨?_,rfl⟩)
 rw[bne_self_eq_false]
theorem UL (x y:Int) (H:Heap) (O:Go.Sx.Own):RetO PP nn [iV x,iV y] H O (iV (Ik x y)):=by
 refine sB (vs:=[iV x,iV y]) (by kernel_rfl) ⟨rfl,rfl,trivial⟩ ?_
 simp only[mX]
 refine am (Jx x _ _) rfl ⟨rfl,trivial⟩ fun H1 l1=>am (Jx y _ _) rfl ⟨rfl,trivial⟩ fun H2 l2=>aj (fun hd=>by cases hd) (fun _=>aj (fun hd=>by cases hd) (fun _=>?_))
 refine ab _ (aG _ _) (aj (fun hd=>?_) (fun hd=>?_))
 ·exact af ⟨by rw[Ik,if_pos (of_decide_eq_true hd)],rfl⟩
 ·refine ab _ (bG _ _) (aj (fun he=>?_) (fun he=>?_))
  ·exact af ⟨by rw[Ik,if_neg (of_decide_eq_false hd),if_pos (of_decide_eq_true he)],rfl⟩
  ·exact af ⟨by rw[Ik,if_neg (of_decide_eq_false hd),if_neg (of_decide_eq_false he)],rfl⟩
theorem Ws {H:Heap} {s:Value} {x y:Int} (hs:Sl H 1 s [[iV x],[iV y]]):RetO PP xu [s] H [] (iV (if x ≠ 0 then x else y)):=by
 refine A6 (vs:=[s]) (by kernel_rfl) ⟨hs.one,trivial⟩ ?_
 simp only[wR]
 refine ab _ hs.len ?_
 refine aY 2 (fun i H' O'=>O'=[]∧Heap.le H H'∧(1≤i→x=0)∧(2≤i→y=0)) ⟨rfl,Heap.le_refl _,fun h=>by omega,fun h=>by omega⟩ ?_
 rintro i H1 _ hi - ⟨rfl,hle,hx,hy⟩
 refine ab _ (aG _ _) (aj (fun hd=>?_) (fun hd=>?_))
 ·have hlt:i < 2:=by
   have:=of_decide_eq_true hd
   simp only[List.length_cons,List.length_nil] at this
   omega
  obtain⟨z,hz,hzz⟩:∃ z:Int,([[iV x],[iV y]]:List (List Value))[i]?=some [iV z]∧z=if i=0 then x else y:=by
   rcases Nat.lt_or_ge i 1 with h | h
   ·obtain rfl:i=0:=by omega
    exact⟨x,rfl,rfl⟩
   ·obtain rfl:i=1:=by omega
    exact⟨y,rfl,rfl⟩
  obtain⟨p,h1,h2,h3,h4⟩:=(hs.le hle).idx (k:=.i64) (i:=i) (r:=[iV z]) hz
  refine ab _ h1 (nH h2 h3 h4 (ab _ (fx _ _) (aj (fun he=>?_) (fun he=>?_))))
  ·have he:z ≠ 0:=bne_iff_ne.1 he
   refine af ⟨?_,rfl⟩
   by_cases h0:i=0
   ·rw[if_pos h0] at hzz
    rw[← hzz,if_pos he];rfl
   ·rw[if_neg h0] at hzz
    rw[hx (by omega),if_neg (by decide),← hzz];rfl
  ·have he:z=0:=bne_eq_false_iff_eq.1 he
   refine ab _ (aD (by omega)) (aN ⟨rfl,rfl,rfl,trivial⟩ hlt ⟨rfl,hle,fun _=>?_,fun h=>?_⟩)
   ·by_cases h0:i=0
    ·rw[if_pos h0] at hzz;omega
    ·exact hx (by omega)
   ·rw[if_neg (by omega)] at hzz;omega
 ·have hge:2≤i:=by
   have:=of_decide_eq_false hd
   simp only[List.length_cons,List.length_nil] at this
   omega
  refine af ⟨?_,rfl⟩
  rw[hx (by omega),hy hge];rfl
theorem TA {H:Heap} {O:Go.Sx.Own} {w:cI} {b:Bd} (h:BdS H w b) (l0 l1:Bool) (rs:Int) :
  Triple PP rR [.agg (ao w b).toArray,.agg #[.bool l0,.bool l1],iV rs] H O fun r _ O'=>(∃ x y:Int,r=.agg #[iV x,iV y])∧O'=O:=by
 refine xH (vs:=ao w b++[.bool l0,.bool l1,iV rs]) (by kernel_rfl) (aK (ap (h.r [])) ⟨rfl,rfl,rfl,trivial⟩) ?_
 simp only[rx]
 have n0:al .len [w.l0]=some (iV b.s0.lib.length):=by have:=h.s0.lib.len;rwa [aJ,List.length_map] at this
 have n1:al .len [w.l1]=some (iV b.s1.lib.length):=by have:=h.s1.lib.len;rwa [aJ,List.length_map] at this
 refine ah fun r0=>ah fun r1=>ah fun r2=>ab _ (aG _ _) ?_
 refine ai ?_
 refine ab _ (bG _ _) ?_
 refine ai ?_
 refine ab _ (aO _ _) (aj (fun _=>?_) (fun _=>?_))
 ·refine ae (ae ?_)
  exact af ⟨⟨0,0,rfl⟩,rfl⟩
 refine ae (ae ?_)
 refine ah fun r3=>ah fun r4=>?_
 refine ae (ae (ae (ae (ae ?_))))
 refine ab _ n0 ?_
 refine ae ?_
 refine ab _ n1 ?_
 refine am (UL _ _ _ _) rfl ⟨rfl,trivial⟩ fun H1 l1=>am (UL _ _ _ _) rfl ⟨rfl,trivial⟩ fun H2 l2=>ah fun r5=>?_
 refine NG (fun Hf _ hf=>Ws (x:=Ik b.s0.life b.s1.life) (y:=Ik b.s0.lib.length b.s1.lib.length) ?_) rfl ⟨rfl,trivial⟩ fun H3 l3=>?_
 ·have:=Sl.block (hf _ List.mem_cons_self) (cs:=[iV (Ik b.s0.life b.s1.life),iV (Ik b.s0.lib.length b.s1.lib.length)]) ⟨rfl,rfl,trivial⟩ (n:=2) rfl (by decide)
  exact this
 obtain⟨z,hz,hzz⟩:∃ z:Int,(if Ik b.s0.life b.s1.life ≠ 0 then Ik b.s0.life b.s1.life else Ik b.s0.lib.length b.s1.lib.length)=z∧(z=-1∨z=0∨z=1):=by
  refine⟨_,rfl,?_⟩
  split <;> exact KE _ _
 rw[hz]
 refine ae (ae (ai (ai ?_)))
 refine ab _ (aO _ _) (aj (fun _=>?_) (fun _=>?_))
 ·refine ae ?_
  refine aj (fun _=>?_) (fun _=>?_)
  all_goals
   unfold jw
   repeat refine ae ?_
   refine aj (fun _=>?_) (fun _=>?_)
   all_goals
    repeat refine ae ?_
    exact af ⟨⟨_,_,rfl⟩,rfl⟩
 ·have hi:∃ k:Nat,z + 1=k∧k < 3:=⟨(z + 1).toNat,by omega,by omega⟩
  obtain⟨k,hk,hk3⟩:=hi
  refine ab (iV k) (by rw[← hk];simp only[Go.Sx.g,List.getD_cons_zero,al,bA,bq,if_true];rw[dN (by omega) (by omega)]) ?_
  obtain⟨y,hy⟩:∃ y:Int,([iV 2,iV 3,iV 1]:List Value)[k]?=some (iV y):=by
   rcases hzz with h | h | h
   ·obtain rfl:k=0:=by omega
    exact⟨2,rfl⟩
   ·obtain rfl:k=1:=by omega
    exact⟨3,rfl⟩
   ·obtain rfl:k=2:=by omega
    exact⟨1,rfl⟩
  refine ab _ (ET hy) ?_
  refine ae (ae ?_)
  exact af ⟨⟨_,_,rfl⟩,rfl⟩
theorem VI {H:Heap} {g d:Nat} {cv dl:Value} {l:List Nat} {u:Nat} {c:Cf} {cs:List CdF} (hG:Gs H cv dl l u c cs) {v:cI} {b:Bd} (h:BdS H v b) (hq:Qt b) (l0 l1:Bool) (rs:Int) :
  Triple PP AC [gp g] H (GO g d cv dl u c v b l0 l1 rs) fun r _ O'=>(∃ x y:Int,r=.tuple #[.agg #[iV x,iV y],iV 0])∧O'=GO g d cv dl u c v b l0 l1 rs:=by
 refine Dy (vs:=[gp g]) (by kernel_rfl) ⟨rfl,trivial⟩ ?_
 simp only[Ap]
 refine ah fun r0=>?_
 refine bj (Iu hG h hq l0 l1 rs) ?_
 rintro _ H1 _ ⟨⟨k,rfl⟩,rfl⟩ m1
 refine⟨[gp k],rfl,⟨rfl,trivial⟩,?_⟩
 refine ab (.bool false) rfl (aj (fun hd=>by cases hd) (fun _=>?_))
 refine am (TB l0 l1 rs) rfl ⟨rfl,rfl,rfl,trivial⟩ fun H2 m2=>ah fun r1=>?_
 refine ae (ae ?_)
 refine bj (Jy (h.le (Heap.le_trans m1 m2)) hq l0 l1 rs) ?_
 rintro _ H3 _ ⟨⟨w,rfl,hw⟩,rfl⟩ m3
 refine⟨ao w b,rfl,ap (hw.r []),?_⟩
 refine bj (TA hw l0 l1 rs) ?_
 rintro _ H4 _ ⟨⟨x,y,rfl⟩,rfl⟩ m4
 refine⟨[iV x,iV y],rfl,⟨rfl,rfl,trivial⟩,?_⟩
 refine ae (ae ?_)
 exact af ⟨⟨x,y,rfl⟩,rfl⟩
theorem QG {H:Heap} {v:Value} {l:List (List Value)} (h:Sl H 14 v l) (hb:l.length≤2 ^ 30):Triple PP eo [v] H [] fun v' H' O'=>OSl ef 14 v' l O':=by
 refine ia (vs:=[v]) (by kernel_rfl) ⟨h.one,trivial⟩ ?_
 simp only[ei]
 obtain⟨a,cap,rfl,h1,h2,h3⟩:=h
 have hev:al (.bin .eql .slice) [.slice a l.length cap,.slice none 0 0]=some (.bool a.isNone):=by cases a <;> rfl
 refine ab _ hev (aj (fun hn=>af ?_) (fun hn=>fun r0=>?_))
 ·have hl:l=[]:=by
   by_cases hl:l=[]
   ·exact hl
   ·obtain⟨ad,rfl,_⟩:=h3 hl;cases hn
  subst hl
  exact OSl.nil ef 14
 ·refine aH (rows:=[]) (news:=l) (O1:=[]) (O2:=[]) (e:=ef) (size:=14) (bytes:=152) (by kernel_rfl) (List.Perm.refl _) (.inl ⟨⟨_,rfl⟩,rfl,rfl⟩) (fun Hf hl _=>Sl.le hl ⟨a,cap,rfl,h1,h2,h3⟩) (by simp;omega) (by simp;omega) ?_
  intro v' O1' H' _ ho
  refine af ?_
  rw[List.append_nil]
  exact ho
theorem Qs {H:Heap} {g d:Nat} {cv dl:Value} {l:List Nat} {u:Nat} {c:Cf} {cs:List CdF} (hG:Gs H cv dl l u c cs) (h400:cs.length≤400) (v:cI) (b:Bd) (l0 l1:Bool) (rs:Int) :
  Triple PP lN [gp g] H (GO g d cv dl u c v b l0 l1 rs) fun r _ O'=>r.oneCell'=true∧O'=GO g d cv dl u c v b l0 l1 rs:=by
 refine q5 (vs:=[gp g]) (by kernel_rfl) ⟨rfl,trivial⟩ ?_
 simp only[ly]
 refine am (Ac (cT ..)) rfl ⟨rfl,trivial⟩ fun H1 m1=>aj (fun hd=>by cases hd) (fun _=>?_)
 refine ak rfl (ak rfl ?_)
 refine au (cT ..) [cv] rfl rfl ⟨hG.k1,trivial⟩ ?_
 obtain⟨rows,hr,hrl,hrs⟩:=hG.k
 refine az (QG (hr.le m1) (by omega)) fun x H2 O2 hx m2=>⟨[x],rfl,⟨hx.one,trivial⟩,?_⟩
 have xl:=hx.len
 rw[hrl] at xl
 refine ab _ xl ?_
 have m12:=Heap.le_trans m1 m2
 refine aY cs.length (fun i H' O'=>Heap.le H2 H'∧∃ rows' A,O'.Perm (A++GO g d cv dl u c v b l0 l1 rs)∧OSl ef 14 x rows' A∧RowsF H' rows' cs) ⟨Heap.le_refl _,rows,O2,List.Perm.refl _,hx,RowsF.le ⟨hrl,hrs⟩ m12⟩ ?_
 rintro i H' O' hi - ⟨hle,rows',A,hp,hA,hR⟩
 refine ab _ (aG _ _) (aj (fun hb=>?_) (fun hb=>?_))
 ·have hlt:i < cs.length:=by have:=of_decide_eq_true hb;omega
  have hrl':=hR.1
  have hri:rows'[i]?=some rows'[i]:=List.getElem?_eq_getElem (by omega)
  have hcd:=hR.2 i _ _ hri (List.getElem?_eq_getElem hlt)
  obtain⟨a,i1,i2,i3,i4⟩:=hA.idx (fun p h=>hp.mem_iff.2 (List.mem_append_left _ h)) H' (k:=.i64) hri
  obtain⟨w1,w2⟩:=hA.rows_ok hri
  refine ab _ i1 (aA i3 w1 w2 ?_)
  rw[show (ag (G14 rows'[i] 0):Value)=.agg (rows'[i]).toArray from IK w1]
  refine az (EJ hcd (hG.s _ (List.getElem_mem hlt)).lit) ?_
  rintro _ H3 _ ⟨⟨cells,rfl,hc14,hcc⟩,rfl⟩ m3
  rw[List.nil_append]
  refine⟨cells,by simp[Shp.open,hc14],hcc.ones,?_⟩
  obtain⟨a2,j1,j2⟩:=hA.store hp (k:=.i64) hri
  obtain⟨A',hst,hA'⟩:=j2 0 cells (by omega) hcc.ones
  have hsp:bL rows'[i] 0 cells=cells:=by
   rw[bL,List.take_zero,List.nil_append,Nat.zero_add,List.drop_of_length_le (by omega),List.append_nil]
  rw[hsp] at hA'
  refine ab _ j1 ?_
  refine ak rfl ?_
  rw[g14 hc14]
  refine⟨_,hst,?_⟩
  refine ab _ (aD (by omega)) (aN (by simp[Eqs,E]) hlt ⟨Heap.le_trans hle m3,_,A',List.Perm.refl _,hA',by rw[List.length_set];exact hrl',fun j r x h1 h2=>?_⟩)
  by_cases hj:j=i
  ·subst hj
   rw[List.getElem?_set_self (by omega)] at h1
   rw[List.getElem?_eq_getElem hlt] at h2
   cases h1;cases h2
   exact hcc
  ·rw[List.getElem?_set_ne (by omega)] at h1
   exact (hR.2 j r x h1 h2).le m3
 ·refine tI (own:=[]) (O':=GO g d cv dl u c v b l0 l1 rs) (Y:=A) (hp.trans List.perm_append_comm) ⟨hx.one,rfl⟩
end Go.Proofs.YteakpllehopodaaGreatDoor
