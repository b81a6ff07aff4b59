/- My framework, part 2: a function's code is reckoned to a tree; what the tree says, the function does. Generic: no program in sight. -/
import Derived.Lib.Bytealg
import Derived.Laws.Strings
import Derived.Laws.StructEq
import Derived.ProofKit
import Derived.LaidMore
import Derived.OpenShut
import Derived.Stop.Joined
import Derived.Carry
import Derived.ShutString
import Derived.Maps.AppendAt
import Derived.ArgAppend
import Derived.Deep.AppendSrc
import Derived.Laws.BytesArg
import Derived.Laws.IdiomStrings
import Derived.Test.YtdhobpmnkfmcfaaGreatDoorFw1
namespace Go.Sx
open Go
theorem CellsRel.iff:∀ {cs:List At} {vs:List Value},CellsRel cs vs ↔ cs.length=vs.length∧∀ (j:Nat) (a:At) (v:Value),cs[j]?=some a→vs[j]?=some v→a.known=true→v=a.den
 | [],[]=>by simp[CellsRel]
 | [],_::_=>by simp[CellsRel]
 | _::_,[]=>by simp[CellsRel]
 | a::r,v::vs=>by
  simp only[CellsRel,CellsRel.iff (cs:=r) (vs:=vs),List.length_cons,Nat.add_right_cancel_iff]
  constructor
  ·rintro ⟨h1,h2,h3⟩
   refine⟨h2,fun j x y hx hy hk=>?_⟩
   cases j with
   | zero=>simp at hx hy;subst hx;subst hy;exact h1 hk
   | succ j=>exact h3 j x y (by simpa using hx) (by simpa using hy) hk
  ·rintro ⟨h1,h2⟩
   exact⟨fun hk=>h2 0 a v rfl rfl hk,h1,fun j x y hx hy hk=>h2 (j + 1) x y (by simpa using hx) (by simpa using hy) hk⟩
theorem xi {vs:List Value}:∀ {cells:List Nat} {cs:List At} {i:Nat},(nC cs vs cells i).length=cs.length
 | [],_,_=>rfl
 | c::r,cs,i=>by rw[nC,xi];simp
theorem qS {vs:List Value}:∀ {cells:List Nat} {cs:List At} {i j:Nat} {a:At},(nC cs vs cells i)[j]?=some a →
  (∃ p,cells[p]?=some j∧a=.v (g vs (i + p)))∨(cs[j]?=some a∧j ∉ cells)
 | [],cs,i,j,a,h=>.inr ⟨h,by simp⟩
 | c::r,cs,i,j,a,h=>by
  rw[nC] at h
  rcases qS h with ⟨p,hp,ha⟩ | ⟨h1,h2⟩
  ·exact .inl ⟨p + 1,by simpa using hp,by rw[ha];congr 2;omega⟩
  ·by_cases e:c=j
   ·subst e
    left
    refine⟨0,by simp,?_⟩
    have hlt:c < cs.length:=by
     rcases Nat.lt_or_ge c cs.length with h | h
     ·exact h
     ·rw[List.getElem?_eq_none (by simpa using h)] at h1;cases h1
    rw[List.getElem?_set_self hlt] at h1
    simpa using h1.symm
   ·right
    rw[List.getElem?_set_ne e] at h1
    exact⟨h1,by simp;exact⟨fun h=>e h.symm,h2⟩⟩
theorem zA:∀ {l:List Nat} {t i:Nat},GL l t=some i→l[i]?=some t
 | [],_,_,h=>by simp[GL] at h
 | a::r,t,i,h=>by
  simp only[GL] at h
  split at h
  ·rename_i e;simp only[Option.some.injEq] at h;subst h;simp[e]
  ·simp only[Option.map_eq_some_iff] at h
   obtain⟨k,hk,rfl⟩:=h
   simpa using zA hk
theorem rz {a b:List Value} {i:Nat} (h:i < a.length):g (a++b) i=g a i:=by
 simp[g,List.getD,List.getElem?_append_left h]
theorem pQ {a b:List Value} {i:Nat}:g (a++b) (a.length + i)=g b i:=by
 simp only[g,List.getD]
 rw[List.getElem?_append_right (by omega),Nat.add_sub_cancel_left]
theorem Qh {l:List Value} {i:Nat} {v:Value} (h:l[i]?=some v):g l i=v:=by simp[g,List.getD,h]
def uw (s:SS) (x:Nat × Bx × List Nat × Nat):List Value :=
 match s.mem x.1 with | some b=>x.2.2.1.map fun c=>(b.cs.getD c .any).den | none=>[]
theorem ru (s:SS) (carry:List Nat) (hb:List (Nat × Bx × List Nat × Nat)):eI s carry hb=carry.map (fun t=>(NL s t).den)++hb.flatMap (uw s):=rfl
theorem D6 {s:SS}:∀ {hb:List (Nat × Bx × List Nat × Nat)} {q:Nat} {pre:List Value},ML q hb=true→pre.length=q→(∀ x ∈ hb,(s.mem x.1).isSome=true) →
  ∀ n b cells i,(n,b,cells,i) ∈ hb→∀ b',s.mem n=some b'→∀ p c,cells[p]?=some c→g (pre++hb.flatMap (uw s)) (i + p)=(b'.cs.getD c .any).den
 | [],_,_,_,_,_,n,b,cells,i,h,_,_,_,_,_=>by simp at h
 | (n',b0,cells',i')::r,q,pre,hp,hl,hs,n,b,cells,i,h,b',hb',p,c,hc=>by
  simp only[ML,Bool.and_eq_true,beq_iff_eq] at hp
  obtain⟨hi',hp⟩:=hp
  obtain⟨b1,hb1⟩:=Option.isSome_iff_exists.1 (hs (n',b0,cells',i') (by simp))
  simp only[] at hb1
  have hv:uw s (n',b0,cells',i')=cells'.map fun c=>(b1.cs.getD c .any).den:=by simp only[uw,hb1]
  rw[List.flatMap_cons,← List.append_assoc]
  rcases List.mem_cons.1 h with h | h
  ·simp only[Prod.mk.injEq] at h
   obtain⟨rfl,rfl,rfl,rfl⟩:=h
   rw[hb1] at hb'
   simp only[Option.some.injEq] at hb';subst hb'
   have hlt:p < cells.length:=(List.getElem?_eq_some_iff.1 hc).1
   rw[rz (by rw[List.length_append,hv,List.length_map];omega),hv,hi',← hl,pQ]
   exact Qh (by simp[hc])
  ·exact D6 (pre:=pre++uw s (n',b0,cells',i')) hp (by rw[hv];simp[hl]) (fun x hx=>hs x (by simp[hx])) n b cells i h b' hb' p c hc
theorem Boxes.sub {m m2:Nat→Option Bx} {L:Own} (h:Boxes m L) (hs:∀ n b2,m2 n=some b2→∃ b,m n=some b∧b.r=b2.r∧b.T=b2.T∧∀ vs,CellsRel b.cs vs→CellsRel b2.cs vs) :
  ∃ L2 L3,Boxes m2 L2∧L.Perm (L2++L3):=by
 obtain⟨ns,f,hn,hsm,hc,hp⟩:=h
 refine⟨(ns.filter fun n=>(m2 n).isSome).map fun n=>ux (m2 n) (f n),(ns.filter fun n=>!(m2 n).isSome).map fun n=>ux (m n) (f n),?_,?_⟩
 ·refine⟨_,f,hn.filter _,fun n=>?_,fun n b2 hb2=>?_,List.Perm.refl _⟩
  ·rw[List.mem_filter]
   constructor
   ·intro h
    obtain⟨b2,hb2⟩:=Option.isSome_iff_exists.1 h
    obtain⟨b,hb,_⟩:=hs n b2 hb2
    exact⟨(hsm n).1 (by simp[hb]),h⟩
   ·exact fun h=>h.2
  ·obtain⟨b,hb,_,_,h4⟩:=hs n b2 hb2
   exact h4 _ (hc n b hb)
 ·refine hp.trans ?_
  have e:(ns.filter fun n=>(m2 n).isSome).map (fun n=>ux (m2 n) (f n))=(ns.filter fun n=>(m2 n).isSome).map fun n=>ux (m n) (f n):=by
   refine List.map_congr_left fun n hn=>?_
   obtain⟨b2,hb2⟩:=Option.isSome_iff_exists.1 (List.mem_filter.1 hn).2
   obtain⟨b,hb,h1,h2,_⟩:=hs n b2 hb2
   simp[hb2,hb,ux,h1,h2]
  rw[e,← List.map_append]
  exact ((List.filter_append_perm _ ns).map _).symm
theorem Hj {s:SS} {t:Nat} (h:(NL s t).fit=true):∃ x,s.tmps t=.s (.at x)∧x.fit=true∧NL s t=x:=by
 unfold NL at h ⊢
 split at h
 ·rename_i x hx;exact⟨x,hx,h,rfl⟩
 ·simp[At.fit] at h
theorem At.fit_known {x:At} (h:x.fit=true):x.known=true:=by cases x <;> simp_all [At.fit,At.known]
theorem GO {cs:List At} {c:Nat} (h:(cs.getD c .any).fit=true):cs[c]?=some (cs.getD c .any):=by
 cases hc:cs[c]? with
 | none=>simp[List.getD,hc,At.fit] at h
 | some x=>simp[List.getD,hc]
theorem Ones.append {a b:List Value}:Ones (a++b) ↔ Ones a∧Ones b:=by
 induction a with
 | nil=>simp[Ones]
 | cons x r ih=>simp[Ones,ih,and_assoc]
theorem IQ {F:Own} {s' h:SS} {H:Heap} {O:Own} {a:Act} {w:World} (hC:Conc F s' H O a w) (hok:h.Ok) (hsz:s'.sz=h.sz) {carry keep:List Nat} {hb:List (Nat × Bx × List Nat × Nat)}
  (hpos:ML carry.length hb=true) (hkn:qz s' carry hb=true) (hkeep:∀ t ∈ keep,GL carry t=none→(h.tmps t).rel (a.tmps.getD t undef))
  (hbox:∀ n b cells i,(n,b,cells,i) ∈ hb→h.mem n=some b∧∃ b',s'.mem n=some b'∧b'.r=b.r∧b'.T=b.T∧b'.cs.length=b.cs.length ∧
   ∀ (j:Nat) (x:At),j ∉ cells→b.cs[j]?=some x→x.known=true→∃ x',b'.cs[j]?=some x'∧x'.known=true∧x'.den=x.den) :
  Conc F (vJ h carry keep hb (eI s' carry hb)) H O a w∧Ones (eI s' carry hb):=by
 simp only[qz,Bool.and_eq_true,List.all_eq_true] at hkn
 obtain⟨hk1,hk2⟩:=hkn
 have hfit:∀ n b cells i,(n,b,cells,i) ∈ hb→∀ b',s'.mem n=some b'→∀ c ∈ cells,(b'.cs.getD c .any).fit=true:=by
  intro n b cells i hm b' hb' c hc
  have:=hk2 (n,b,cells,i) hm
  simp only[hb',List.all_eq_true] at this
  exact this c hc
 have hones:Ones (eI s' carry hb):=by
  rw[ru,Ones.append]
  constructor
  ·have:∀ l:List Nat,(∀ t ∈ l,(NL s' t).fit=true)→Ones (l.map fun t=>(NL s' t).den):=by
    intro l
    induction l with
    | nil=>intro _;trivial
    | cons t r ih =>
     intro hl
     obtain⟨x,hx,hf,e⟩:=Hj (hl t (by simp))
     refine⟨?_,ih fun u hu=>hl u (by simp[hu])⟩
     show (NL s' t).den.oneCell'=true
     rw[e]
     refine At.fit_one hf ?_
     have:=hC.ok.1 t
     rw[hx] at this
     exact this x (by simp[S1.cells])
   exact this carry hk1
  ·have:∀ l:List (Nat × Bx × List Nat × Nat),(∀ x ∈ l,x ∈ hb)→Ones (l.flatMap (uw s')):=by
    intro l
    induction l with
    | nil=>intro _;trivial
    | cons x r ih =>
     intro hl
     rw[List.flatMap_cons,Ones.append]
     refine⟨?_,ih fun u hu=>hl u (by simp[hu])⟩
     obtain⟨n,b,cells,i⟩:=x
     obtain⟨_,b',hb',_⟩:=hbox n b cells i (hl _ (by simp))
     simp only[uw,hb']
     have hf:=hfit n b cells i (hl _ (by simp)) b' hb'
     have hokb:=hC.ok.2 n b' hb'
     have:∀ cl:List Nat,(∀ c ∈ cl,(b'.cs.getD c .any).fit=true)→Ones (cl.map fun c=>(b'.cs.getD c .any).den):=by
      intro cl
      induction cl with
      | nil=>intro _;trivial
      | cons c cr ihc =>
       intro hcl
       refine⟨?_,ihc fun u hu=>hcl u (by simp[hu])⟩
       have hf':=hcl c (by simp)
       exact At.fit_one hf' (hokb _ (List.mem_of_getElem? (GO hf')))
     exact this cells hf
   exact this hb fun _ h=>h
 have hcarry:∀ t i,GL carry t=some i→g (eI s' carry hb) i=(NL s' t).den∧i < (eI s' carry hb).length:=by
  intro t i hi
  have hi':=zA hi
  have hlt:=(List.getElem?_eq_some_iff.1 hi').1
  rw[ru]
  refine⟨?_,by rw[List.length_append,List.length_map];omega⟩
  rw[rz (by simpa using hlt)]
  exact Qh (by simp[hi'])
 have hboxv:∀ n b cells i,(n,b,cells,i) ∈ hb→∀ b',s'.mem n=some b'→∀ p c,cells[p]?=some c→g (eI s' carry hb) (i + p)=(b'.cs.getD c .any).den:=by
  intro n b cells i hm b' hb' p c hc
  rw[ru]
  refine D6 hpos (by simp) (fun x hx=>?_) n b cells i hm b' hb' p c hc
  obtain⟨n,b,cells,i⟩:=x
  obtain⟨_,b',hb',_⟩:=hbox n b cells i hx
  simp[hb']
 have hmem:∀ n b2,(vJ h carry keep hb (eI s' carry hb)).mem n=some b2→∃ b cells i,(n,b,cells,i) ∈ hb∧b2={ b with cs:=nC b.cs (eI s' carry hb) cells i }:=by
  intro n b2 hb2
  simp only[vJ] at hb2
  split at hb2
  ·rename_i n' b cells i hf
   simp only[Option.some.injEq] at hb2
   have:=List.find?_some hf
   simp only[beq_iff_eq] at this
   subst this
   exact⟨b,cells,i,List.mem_of_find?_eq_some hf,hb2.symm⟩
  ·simp at hb2
 refine⟨⟨⟨fun t=>?_,fun n b2 hb2 x hx=>?_⟩,hC.df,by rw[hC.sz,hsz];rfl,fun t=>?_,?_⟩,hones⟩
 ·simp only[vJ]
  split
  ·rename_i i hi
   obtain⟨e,hlt⟩:=hcarry t i hi
   intro x hx
   simp only[S1.cells,List.mem_singleton] at hx
   subst hx
   exact hones.get i hlt
  ·split
   ·exact hok.1 t
   ·intro x hx
    simp only[S1.cells,List.mem_singleton] at hx
    subst hx;trivial
 ·obtain⟨b,cells,i,hm,rfl⟩:=hmem n b2 hb2
  obtain⟨hh,b',hb',_⟩:=hbox n b cells i hm
  obtain⟨j,hj,rfl⟩:=List.getElem_of_mem hx
  rcases qS (List.getElem?_eq_getElem hj) with ⟨p,hp,he⟩ | ⟨he,_⟩
  ·simp only[] at he
   rw[he]
   show (g _ _).oneCell'=true
   rw[hboxv n b cells i hm b' hb' p j hp]
   have hf:=hfit n b cells i hm b' hb' j (List.mem_of_getElem? hp)
   exact At.fit_one hf (hC.ok.2 n b' hb' _ (List.mem_of_getElem? (GO hf)))
  ·exact hok.2 n b hh _ (List.mem_of_getElem? he)
 ·simp only[vJ]
  split
  ·rename_i i hi
   obtain⟨e,hlt⟩:=hcarry t i hi
   obtain⟨x,hx,hf,e2⟩:=Hj (hk1 t (List.mem_of_getElem? (zA hi)))
   have ht:=hC.tm t
   rw[hx] at ht
   have:=iU (x:=.at x) (by simpa [S1.known,S1.cells] using At.fit_known hf) ht
   show a.tmps.getD t undef=_
   rw[this,S1.den,S1.den,At.den,e,e2]
  ·rename_i hi
   split
   ·rename_i hkc
    exact hkeep t (by simpa using hkc) hi
   ·trivial
 ·obtain⟨L,hL,hmod⟩:=hC.mm
  obtain⟨L2,L3,hL2,hp⟩:=hL.sub (m2:=(vJ h carry keep hb (eI s' carry hb)).mem) (fun n b2 hb2=>by
   obtain⟨b,cells,i,hm,rfl⟩:=hmem n b2 hb2
   obtain⟨hh,b',hb',h1,h2,h3,h4⟩:=hbox n b cells i hm
   refine⟨b',hb',h1,h2,fun vs hvs=>?_⟩
   rw[CellsRel.iff] at hvs ⊢
   refine⟨by rw[xi,← h3];exact hvs.1,fun j x v hx hv hk=>?_⟩
   rcases qS hx with ⟨p,hp,he⟩ | ⟨he,hnot⟩
   ·rw[he,At.den,hboxv n b cells i hm b' hb' p j hp]
    have hf:=hfit n b cells i hm b' hb' j (List.mem_of_getElem? hp)
    exact hvs.2 j _ v (GO hf) hv (At.fit_known hf)
   ·obtain⟨x',hx',hk',hd'⟩:=h4 j x hnot he hk
    rw[← hd']
    exact hvs.2 j x' v hx' hv hk')
  refine⟨L2,hL2,?_⟩
  have h1:Models w H ((L2++L3)++(O++F)):=hmod.perm (hp.append_right _)
  rw[List.append_assoc] at h1
  exact h1.sub ((List.sublist_append_right L3 (O++F)).append_left L2)
theorem Eqs.mem:∀ {l:List (List Value × List Value)},Eqs l→∀ p ∈ l,p.1=p.2
 | [],_,_,h=>by simp at h
 | _::_,h,p,hp=>by
  rcases List.mem_cons.1 hp with rfl | hp
  ·exact h.1
  ·exact h.2.mem p hp
theorem fH {s:SS}:∀ {l:List (Nat × List Nat)} {i0:Nat} {x:Nat × Bx × List Nat × Nat},x ∈ fY s l i0→s.mem x.1=some x.2.1
 | [],_,_,h=>by simp[fY] at h
 | (t,cells)::r,i0,x,h=>by
  simp only[fY] at h
  split at h
  ·exact fH h
  ·rename_i n hn
   split at h
   ·exact fH h
   ·rename_i b hb
    rcases List.mem_cons.1 h with rfl | h
    ·exact hb
    ·exact fH (List.mem_filter.1 h).1
theorem zk {x:S1} {v:Value} (h:v=x.den):(SV.s x).rel v:=by
 unfold SV.rel
 split <;> simp_all
theorem LI:∀ {a b:List S1},a.length=b.length→((a.zip b).all fun p=>match p.1,p.2 with | .at _,.at _=>true | .agg a,.agg b=>a.length == b.length | _,_=>false)=true →
  (a.flatMap S1.cells).map At.den=(b.flatMap S1.cells).map At.den→a.map S1.den=b.map S1.den
 | [],[],_,_,_=>rfl
 | [],_::_,h,_,_=>by simp at h
 | _::_,[],h,_,_=>by simp at h
 | x::a,y::b,hl,hs,he=>by
  simp only[List.zip_cons_cons,List.all_cons,Bool.and_eq_true] at hs
  simp only[List.flatMap_cons,List.map_append] at he
  have hlen:(x.cells.map At.den).length=(y.cells.map At.den).length:=by
   rcases x with x | x <;> rcases y with y | y <;> simp_all [S1.cells]
  obtain⟨h1,h2⟩:=List.append_inj he hlen
  rw[List.map_cons,List.map_cons,LI (by simpa using hl) hs.2 h2]
  congr 1
  rcases x with x | x <;> rcases y with y | y <;> simp_all [S1.cells,S1.den]
theorem RZ {a b:SV} {v:Value} (hl:Oj a b=true) (hk:∃ l,lL a=some l∧l.all At.known=true)
  (he:((lL a).getD []).map At.den=((lL b).getD []).map At.den) (h:a.rel v):b.rel v:=by
 obtain⟨l,hl1,hk⟩:=hk
 unfold Oj at hl
 split at hl
 ·rename_i x y
  simp only[lL,S1.cells,Option.some.injEq] at hl1
  subst hl1
  have:=iU (x:=.at x) (by simpa [S1.known,S1.cells] using hk) h
  simp only[lL,S1.cells,Option.getD_some,List.map_cons,List.map_nil,List.cons.injEq,and_true] at he
  exact zk (by rw[this];exact he)
 ·rename_i x y
  simp only[lL,S1.cells,Option.some.injEq] at hl1
  subst hl1
  have:=iU (x:=.agg x) (by simpa [S1.known,S1.cells] using hk) h
  simp only[lL,S1.cells,Option.getD_some] at he
  exact zk (by rw[this,S1.den,S1.den,he])
 ·rename_i x y
  simp only[Bool.and_eq_true,beq_iff_eq] at hl
  simp only[lL,Option.getD_some] at he
  have h':v=.tuple (x.map S1.den).toArray:=h
  show v=.tuple (y.map S1.den).toArray
  rw[h',LI hl.1 hl.2 he]
 ·simp at hl
theorem Ap {α:Type}:∀ (l:List α) (n j:Nat),(dn n l)[j]?=l[j]?.map fun a=>(n + j,a)
 | [],n,j=>by simp[dn]
 | a::r,n,0=>by simp[dn]
 | a::r,n,j + 1=>by
  rw[dn,List.getElem?_cons_succ,Ap r (n + 1) j,List.getElem?_cons_succ]
  congr 1;funext x;congr 1;omega
theorem UM {a b:List At} {cells:List Nat} (hl:a.length=b.length) (h:(ud a cells).map At.den=(ud b cells).map At.den) {j:Nat} {x:At} (hj:j ∉ cells) (hx:b[j]?=some x) :
  ∃ x',a[j]?=some x'∧x'.den=x.den:=by
 have hlt:j < a.length:=by rw[hl];exact (List.getElem?_eq_some_iff.1 hx).1
 have hx':a[j]?=some a[j]:=List.getElem?_eq_getElem hlt
 refine⟨a[j],hx',?_⟩
 have:=congrArg (fun l=>l[j]?) h
 simp only[ud,List.getElem?_map,Ap,hx,hx',Option.map_some,Nat.zero_add,Option.some.injEq] at this
 simpa [hj] using this
def LV:List (Nat × Bx × List Nat × Nat)→Nat
 | []=>0
 | x::r=>x.2.2.1.length + LV r
theorem Aj {s:SS} {carry:List Nat} {hb:List (Nat × Bx × List Nat × Nat)} (h:qz s carry hb=true):(eI s carry hb).length=carry.length + LV hb:=by
 rw[ru,List.length_append,List.length_map,Nat.add_left_cancel_iff]
 simp only[qz,Bool.and_eq_true] at h
 replace h:=h.2
 induction hb with
 | nil=>rfl
 | cons x r ih =>
  rw[List.all_cons,Bool.and_eq_true] at h
  rw[List.flatMap_cons,List.length_append,ih h.2,LV,Nat.add_right_cancel_iff]
  have h1:=h.1
  unfold uw
  cases hb:s.mem x.1 with
  | none=>simp only[hb] at h1;cases h1
  | some b=>simp
theorem FU {P:Program} {QT:Value→Heap→Own→Prop} {F:Own} {h s':SS} {H:Heap} {O:Own} {a:Act} {w:World} {lab:Nat} {C:List Value→Heap→Own→Prop}
  {carry keep:List Nat} {hb:List (Nat × Bx × List Nat × Nat)}
  (hd:(yv lab C carry keep hb h s').den P QT H O) (hC:Conc F s' H O a w) (hok:h.Ok) (hhb:∀ n b cells i,(n,b,cells,i) ∈ hb→h.mem n=some b) :
  C (eI s' carry hb) H O∧Conc F (vJ h carry keep hb (eI s' carry hb)) H O a w∧Ones (eI s' carry hb) ∧
  (eI s' carry hb).length=carry.length + LV hb:=by
 unfold yv at hd
 split at hd
 ·rename_i hcond
  simp only[Bool.and_eq_true,List.all_eq_true,beq_iff_eq] at hcond
  obtain⟨⟨⟨⟨hsz,hpos⟩,hkn⟩,hkeep⟩,hbx⟩:=hcond
  obtain⟨heq,hc⟩:=hd
  have heq':=heq.mem
  have hh:=IQ hC hok hsz hpos hkn (keep:=keep) (fun t ht hi=>?_) (fun n b cells i hm=>?_)
  ·exact⟨hc,hh.1,hh.2,Aj hkn⟩
  ·have h1:=hkeep t ht
   rw[hi] at h1
   simp only[Option.isSome_none,Bool.false_or,Bool.and_eq_true] at h1
   refine RZ h1.1 ?_ (heq' _ (List.mem_append_left _ (List.mem_map.2 ⟨t,List.mem_filter.2 ⟨ht,by simp[hi]⟩,rfl⟩))) (hC.tm t)
   cases hsc:lL (s'.tmps t) with
   | none=>rw[hsc] at h1;simp at h1
   | some l=>rw[hsc] at h1;exact⟨l,rfl,h1.2⟩
  ·refine⟨hhb n b cells i hm,?_⟩
   have h1:=hbx _ hm
   simp only[] at h1
   cases hb':s'.mem n with
   | none=>rw[hb'] at h1;simp at h1
   | some b' =>
    rw[hb'] at h1
    simp only[Bool.and_eq_true,beq_iff_eq,List.all_eq_true] at h1
    have h2:=heq' _ (List.mem_append_right _ (List.mem_map.2 ⟨_,hm,rfl⟩))
    simp only[hb',List.cons.injEq,Value.pointer.injEq,Option.some.injEq,Addr.mk.injEq,and_true] at h2
    refine⟨b',rfl,h2.1,h1.1.1,h1.1.2,fun j x hj hx _=>?_⟩
    obtain⟨x',hx',hd'⟩:=UM h1.1.2 h2.2 hj hx
    exact⟨x',hx',h1.2 _ (List.mem_of_getElem? hx'),hd'⟩
 ·exact hd.elim
theorem Me {gl':List (At × Bool)} {cs:List Ck} (h:zW [] gl'=some cs):cs=[]:=by
 unfold zW at h
 simp only[] at h
 split at h
 ·simp only[Option.some.injEq] at h
  subst h;simp
 ·simp at h
theorem RH {s:SS} {x:Operand} {v:At} {cs:List Ck} (hx:sQ s [] x=some (v,cs)):cs=[]:=by
 have hx:=Gy hx
 cases x with
 | tmp t =>
  simp only[vG] at hx
  split at hx
  ·split at hx
   ·simp only[Option.some.injEq,Prod.mk.injEq] at hx;exact hx.2.symm
   ·simp at hx
  ·split at hx
   ·rename_i gl' y hy hk
    cases hs:zW [] gl' with
    | none=>simp[hs] at hx
    | some c=>simp only[hs,Option.map_some,Option.some.injEq,Prod.mk.injEq] at hx;rw[← hx.2];exact Me hs
   ·simp at hx
  ·simp at hx
 | _=>simp only[vG,Option.some.injEq,Prod.mk.injEq] at hx;exact hx.2.symm
structure Kont (P:Program) (QT:Value→Heap→Own→Prop) (F:Own) (k:SS→Tree) (H:Heap) (Q:Act→World→Prop):Prop where
 go:∀ s' H' O' a' w',Conc F s' H' O' a' w'→Heap.le H H'→(k s').den P QT H' O'→Q a' w'
theorem Kont.le {P:Program} {QT:Value→Heap→Own→Prop} {F:Own} {k:SS→Tree} {H H':Heap} {Q:Act→World→Prop} (h:Kont P QT F k H Q) (hl:Heap.le H H'):Kont P QT F k H' Q :=
 ⟨fun s' H2 O' a' w' hc hle hd=>h.go s' H2 O' a' w' hc (Heap.le_trans hl hle) hd⟩
theorem FM {P:Program} {QT:Value→Heap→Own→Prop} {F:Own} {c:Operand} {x y:Code} {s:SS} {tx ty:Tree} {H:Heap} {O:Own} {a:Act} {w:World} {Q:Exit→Act→World→Prop}
  (h:(match sQ s [] c with
   | some (.k (.bool true),_)=>tx
   | some (.k (.bool false),_)=>ty
   | some (v,_)=>.br v.den tx ty
   | none=>.stuck 904).den P QT H O) (hC:Conc F s H O a w)
  (hx:tx.den P QT H O→x.wp P Q a w) (hy:ty.den P QT H O→y.wp P Q a w):(Code.cond c x y).wp P Q a w:=by
 have hden:∀ v cs,sQ s [] c=some (v,cs)→a.eval c=v.den:=fun v cs he=>by
  have:=RH he;subst this
  exact cm hC he trivial trivial
 split at h
 ·rename_i cs he;exact wp_cond_true (hden _ _ he) (hx h)
 ·rename_i cs he;exact wp_cond_false (hden _ _ he) (hy h)
 ·rename_i v cs _ _ he
  obtain⟨b,hb,h1,h2⟩:=h
  refine wp_cond_split (t:=b) (by rw[hden _ _ he];exact hb) (fun e=>hx (h1 e)) (fun e=>hy (h2 e))
 ·exact h.elim
theorem Rh {P:Program} (hm:P.follows .mixedOrders=true) {opts:Vv} (hokf:∀ f,opts.okf f=true→vA P f) {QT:Value→Heap→Own→Prop} {F:Own}:∀ (c:Code) {s:SS} {k:SS→Tree}
  {X:Nat→Option (SS→Tree)} {R:SS→Tree} {H:Heap} {O:Own} {a:Act} {w:World} {Q:Exit→Act→World→Prop},
  (sx P opts c s k X R).den P QT H O→Conc F s H O a w→Kont P QT F k H (Q .normal)→(∀ id kx,X id=some kx→Kont P QT F kx H (Q (.exit id)))→Kont P QT F R H (Q .ret)→c.wp P Q a w:=by
 intro c
 induction c with
 | skip=>intro s k X R H O a w Q h hC hk _ _;exact wp_skip (hk.go _ _ _ _ _ hC (Heap.le_refl H) h)
 | label l=>intro s k X R H O a w Q h hC hk _ _;exact wp_label (hk.go _ _ _ _ _ hC (Heap.le_refl H) h)
 | region id ops draw =>
  intro s k X R H O a w Q h hC hk _ _
  exact HO hm hokf h hC hk.go
 | seq x y ihx ihy =>
  intro s k X R H O a w Q h hC hk hX hR
  refine wp_seq (ihx h hC ⟨fun s' H' O' a' w' hC' hle hd=>?_⟩ (fun id kx he=>hX id kx he) hR)
  exact ihy hd hC' (hk.le hle) (fun id kx he=>(hX id kx he).le hle) (hR.le hle)
 | cond c x y ihx ihy =>
  intro s k X R H O a w Q h hC hk hX hR
  simp only[sx] at h
  split at h
  ·exact FM h hC (fun hd=>ihx hd hC hk hX hR) (fun hd=>ihy hd hC hk hX hR)
  ·rename_i carry keep boxes hcut
   obtain⟨R0,hbody,hrest⟩:=h
   have hC1:=hC.next (s.next + 1)
   have hk1:Kont P QT F (fun s'=>yv s.next (fun vs' H'' O''=>Cons H'' O''→∃ H3 O3,Ghost H'' O'' H3 O3∧R0 vs' H3 O3) carry keep (fY s boxes carry.length) s s') H (Q .normal):=by
    refine⟨fun s' H' O' a' w' hC' hle hd=>?_⟩
    have hb:=FU (h:={ s with next:=s.next + 1 }) hd hC' hC1.ok (fun n b cells i hmem=>fH hmem)
    obtain⟨hb0,hC2,hones,_⟩:=hb
    obtain⟨H3,O3,hg,hr⟩:=hb0 hC2.cons
    obtain⟨hC3,hle3⟩:=hC2.ghost hg
    exact hk.go _ _ _ _ _ hC3 (Heap.le_trans hle hle3) (hrest _ _ _ hones (Heap.le_trans hle hle3) hr)
   exact FM (s:={ s with next:=s.next + 1 }) hbody hC1 (fun hd=>ihx hd hC1 hk1 hX hR) (fun hd=>ihy hd hC1 hk1 hX hR)
 | block id b ih =>
  intro s k X R H O a w Q h hC hk hX hR
  refine wp_block (ih h hC ⟨fun s' H' O' a' w' hC' hle hd=>hk.go _ _ _ _ _ hC' hle hd⟩ (fun j kx he=>?_) ⟨fun s' H' O' a' w' hC' hle hd=>hR.go _ _ _ _ _ hC' hle hd⟩)
  split at he
  ·rename_i e
   simp only[Option.some.injEq] at he
   subst he;subst e
   exact⟨fun s' H' O' a' w' hC' hle hd=>by
    show Exit.inBlock j Q (.exit j) a' w'
    simp only[Exit.inBlock,if_true]
    exact hk.go _ _ _ _ _ hC' hle hd⟩
  ·rename_i e
   exact⟨fun s' H' O' a' w' hC' hle hd=>by
    show Exit.inBlock id Q (.exit j) a' w'
    simp only[Exit.inBlock,if_neg e]
    exact (hX j kx he).go _ _ _ _ _ hC' hle hd⟩
 | exit id =>
  intro s k X R H O a w Q h hC hk hX hR
  simp only[sx] at h
  split at h
  ·rename_i kx he
   exact wp_exit ((hX id kx he).go _ _ _ _ _ hC (Heap.le_refl H) h)
  ·exact h.elim
 | ret =>
  intro s k X R H O a w Q h hC hk hX hR
  exact wp_ret (hR.go _ _ _ _ _ hC (Heap.le_refl H) h)
 | loop b ih =>
  intro s k X R H O a w Q h hC hk hX hR
  simp only[sx] at h
  split at h
  ·rename_i n hn
   refine xd (G:=Nat × SS × Heap × Own) (fun g a w=>Heap.le H g.2.2.1∧Conc F g.2.1 g.2.2.1 g.2.2.2 a w∧(y3 (fun s k=>sx P opts b s k X R) g.1 g.2.1).den P QT g.2.2.1 g.2.2.2)
    (fun g=>g.1) (g0:=(n,s,H,O)) ⟨Heap.le_refl H,hC,h⟩ ?_
   rintro ⟨m,s1,H1,O1⟩ a1 w1 ⟨hle1,hC1,hd1⟩
   cases m with
   | zero=>exact hd1.elim
   | succ m =>
    refine ih hd1 hC1 ⟨fun s' H' O' a' w' hC' hle hd=>?_⟩ (fun id kx he=>⟨fun s' H' O' a' w' hC' hle hd=>(hX id kx he).go _ _ _ _ _ hC' (Heap.le_trans hle1 hle) hd⟩)
     ⟨fun s' H' O' a' w' hC' hle hd=>hR.go _ _ _ _ _ hC' (Heap.le_trans hle1 hle) hd⟩
    exact⟨(m,s',H',O'),⟨Heap.le_trans hle1 hle,hC',hd⟩,Nat.lt_succ_self m⟩
  ·rename_i carry keep boxes hopt
   split at h
   ·rename_i hcond
    simp only[Bool.and_eq_true] at hcond
    obtain⟨I,μ,hini,hround⟩:=h
    obtain⟨H1,O1,hg1,hi1⟩:=hini hC.cons
    have hC0:=hC.next (s.next + 1)
    obtain⟨hCh,hones⟩:=IQ (carry:=carry) (keep:=keep) (hb:=fY s boxes carry.length) (h:={ s with next:=s.next + 1 }) hC hC0.ok rfl hcond.1 hcond.2 (fun t _ _=>hC.tm t)
     (fun n b cells i hmem=>⟨fH hmem,b,fH hmem,rfl,rfl,rfl,fun j x _ hx hk=>⟨x,hx,hk,rfl⟩⟩)
    obtain⟨hC1,hle1⟩:=hCh.ghost hg1
    refine xd (G:=List Value × Heap × Own)
     (fun g a w=>g.1.length=(eI s carry (fY s boxes carry.length)).length∧Ones g.1∧Heap.le H g.2.1∧I g.1 g.2.1 g.2.2 ∧
      Conc F (vJ { s with next:=s.next + 1 } carry keep (fY s boxes carry.length) g.1) g.2.1 g.2.2 a w)
     (fun g=>μ g.1 g.2.1 g.2.2) (g0:=(_,H1,O1)) ⟨rfl,hones,hle1,hi1,hC1⟩ ?_
    rintro ⟨vs,H2,O2⟩ a2 w2 ⟨hlen,hon,hle2,hi2,hC2⟩
    refine ih (hround vs H2 O2 hlen hon hle2 hi2) hC2 ⟨fun s' H' O' a' w' hC' hle hd=>?_⟩ (fun id kx he=>⟨fun s' H' O' a' w' hC' hle hd=>(hX id kx he).go _ _ _ _ _ hC' (Heap.le_trans hle2 hle) hd⟩)
     ⟨fun s' H' O' a' w' hC' hle hd=>hR.go _ _ _ _ _ hC' (Heap.le_trans hle2 hle) hd⟩
    obtain⟨hb0,hC3,hones3,hlen3⟩:=FU (h:={ s with next:=s.next + 1 }) hd hC' hC0.ok (fun n b cells i hmem=>fH hmem)
    obtain⟨H3,O3,hg,hi3,hlt⟩:=hb0 hC3.cons
    obtain⟨hC4,hle4⟩:=hC3.ghost hg
    refine⟨(_,H3,O3),⟨hlen3.trans (Aj hcond.2).symm,hones3,Heap.le_trans hle2 (Heap.le_trans hle hle4),hi3,hC4⟩,hlt⟩
   ·exact h.elim
 | _=>intro s k X R H O a w Q h;exact h.elim
def DD (P:Program):List TypeId→List Value→Option (List Value)
 | [],[]=>some []
 | T::r,a::as =>
  if eS P T then
   match a with
   | .agg cs=>if cs.size=(oQ P T).getD 0 then (DD P r as).map (cs.toList++·) else none
   | _=>none
  else (DD P r as).map (a::·)
 | _,_=>none
def uk (P:Program) (fn:Func) (args:List Value):Option (List Value) :=
 if fn.params.size + fn.nfree≤fn.ntmps then DD P (fn.params.toList++List.replicate fn.nfree 0) args else none
theorem Ji (vs:List Value) (i m:Nat):(atsFrom vs i m).map At.den=(List.range m).map fun j=>g vs (i + j):=by
 simp[atsFrom,At.den,Function.comp_def]
theorem Uj (pre cs post:List Value):((List.range cs.length).map fun j=>g (pre++(cs++post)) (pre.length + j))=cs:=by
 refine List.ext_getElem (by simp) fun j h1 h2=>?_
 rw[List.getElem_map,List.getElem_range,pQ,rz h2]
 simp[g,h2]
theorem zD {P:Program}:∀ {Ts:List TypeId} {args vs pre:List Value},DD P Ts args=some vs→Ones (pre++vs) →
  args.length=Ts.length∧(nj P Ts pre.length (pre++vs)).length=Ts.length ∧
  ∀ (t:Nat) (sv:SV) (a:Value),(nj P Ts pre.length (pre++vs))[t]?=some sv→args[t]?=some a→sv.rel a∧sv.ok
 | [],[],vs,pre,h,_=>by simp[nj]
 | [],_::_,_,_,h,_=>by simp[DD] at h
 | _::_,[],_,_,h,_=>by simp[DD] at h
 | T::r,a::as,vs,pre,h,ho=>by
  simp only[DD] at h
  split at h
  ·rename_i hA
   split at h
   ·rename_i cs
    split at h
    ·rename_i hsz
     simp only[Option.map_eq_some_iff] at h
     obtain⟨vs',h1,rfl⟩:=h
     have e:pre++(cs.toList++vs')=(pre++cs.toList)++vs':=by simp
     obtain⟨i1,i2,i3⟩:=zD (pre:=pre++cs.toList) h1 (by rw[← e];exact ho)
     have hl:(pre++cs.toList).length=pre.length + (oQ P T).getD 0:=by simp[hsz]
     rw[hl,← e] at i2 i3
     simp only[nj,hA,if_true]
     refine⟨by simp[i1],by simp[i2],fun t sv x h2 h3=>?_⟩
     cases t with
     | zero =>
      simp only[List.getElem?_cons_zero,Option.some.injEq] at h2 h3
      subst h2;subst h3
      refine⟨?_,?_⟩
      ·show Value.agg cs=S1.den _
       rw[S1.den,Ji,← hsz]
       have:=Uj pre cs.toList vs'
       simp only[Array.length_toList] at this
       rw[this]
      ·intro b hb
       exact qt (vs:=pre++(cs.toList++vs')) (by simp;omega) ho b hb
     | succ t=>exact i3 t sv x (by simpa using h2) (by simpa using h3)
    ·simp at h
   ·simp at h
  ·rename_i hA
   simp only[Option.map_eq_some_iff] at h
   obtain⟨vs',h1,rfl⟩:=h
   have e:pre++(a::vs')=(pre++[a])++vs':=by simp
   obtain⟨i1,i2,i3⟩:=zD (pre:=pre++[a]) h1 (by rw[← e];exact ho)
   have hl:(pre++[a]).length=pre.length + 1:=by simp
   rw[hl,← e] at i2 i3
   simp only[nj,hA,Bool.false_eq_true,if_false]
   have hg:g (pre++a::vs') pre.length=a:=by
    have:=pQ (a:=pre) (b:=a::vs') (i:=0)
    rw[Nat.add_zero] at this
    rw[this];rfl
   refine⟨by simp[i1],by simp[i2],fun t sv x h2 h3=>?_⟩
   cases t with
   | zero =>
    simp only[List.getElem?_cons_zero,Option.some.injEq] at h2 h3
    subst h2;subst h3
    refine⟨?_,?_⟩
    ·show a=S1.den _
     rw[S1.den,At.den,hg]
    ·intro b hb
     simp only[S1.cells,List.mem_singleton] at hb
     subst hb
     exact ho.get _ (by simp)
   | succ t=>exact i3 t sv x (by simpa using h2) (by simpa using h3)
theorem Nu {P:Program} {fn:Func} {args vs:List Value} (ha:uk P fn args=some vs) (ho:Ones vs) {F:Own} {H:Heap} {O:Own} {w:World} (hm:Models w H (O++F)) :
  Conc F (wQ P fn vs) H O { tmps:=args.toArray++Array.replicate (fn.ntmps - args.toArray.size) undef,defers:=[] } w:=by
 unfold uk at ha
 split at ha
 ·rename_i hn
  obtain⟨h1,h2,h3⟩:=zD (pre:=[]) ha (by simpa using ho)
  simp only[List.nil_append,List.length_nil] at h2 h3
  have hlen:args.length≤fn.ntmps:=by rw[h1];simpa using hn
  have key:∀ t,((wQ P fn vs).tmps t).rel ((args.toArray++Array.replicate (fn.ntmps - args.toArray.size) undef).getD t undef)∧((wQ P fn vs).tmps t).ok:=by
   intro t
   simp only[wQ]
   rcases Nat.lt_or_ge t args.length with hlt | hge
   ·have hlt2:t < (nj P (fn.params.toList++List.replicate fn.nfree 0) 0 vs).length:=by rw[h2,← h1];exact hlt
    obtain⟨r1,r2⟩:=h3 t _ args[t] (List.getElem?_eq_getElem hlt2) (List.getElem?_eq_getElem hlt)
    rw[List.getElem?_eq_getElem hlt2,Option.getD_some]
    refine⟨?_,r2⟩
    have:(args.toArray++Array.replicate (fn.ntmps - args.toArray.size) undef).getD t undef=args[t]:=by
     rw[Array.getD_eq_getD_getElem?,Array.getElem?_append_left (by simpa using hlt)]
     simp[hlt]
    rw[this];exact r1
   ·rw[List.getElem?_eq_none (by rw[h2,← h1];exact hge),Option.getD_none]
    refine⟨?_,Uz undef⟩
    have:(args.toArray++Array.replicate (fn.ntmps - args.toArray.size) undef).getD t undef=undef:=by
     rw[Array.getD_eq_getD_getElem?,Array.getElem?_append_right (by simpa using hge)]
     rw[Array.getElem?_replicate]
     split <;> rfl
    rw[this]
    exact zk rfl
  refine⟨⟨fun t=>(key t).2,fun n b hb=>by simp[wQ] at hb⟩,rfl,by simp[wQ];omega,fun t=>(key t).1,[],Boxes.none,hm⟩
 ·simp at ha
def KP (tmps:Array Value):ResultVar→Sem Value
 | .tmp t=>pure (tmps.getD t undef)
 | .cell b t=>do loadVar t (← asAddr (tmps.getD b undef))
theorem MF (fn:Func) (tmps:Array Value):results fn tmps=(do
  let vs ← fn.results.mapM (KP tmps)
  pure (if h:vs.size=1 then vs[0] else .tuple vs)):=by
 unfold results
 congr 2
theorem UP {P:Program} {F:Own} {s:SS} {H:Heap} {O:Own} {a:Act} {w:World} (hC:Conc F s H O a w) {x:ResultVar} {v:S1} (hx:Ry P s x=some v) (hc:AllCk (KQ s x)) :
  (KP a.tmps x).run P w=.ok v.den w:=by
 cases x with
 | tmp t =>
  simp only[Ry] at hx
  split at hx
  ·rename_i y hy
   split at hx
   ·rename_i hk
    simp only[Option.some.injEq] at hx;subst hx
    have:=hC.tm t
    rw[hy] at this
    rw[← iU hk this];rfl
   ·simp at hx
  ·simp at hx
 | cell b T =>
  simp only[Ry] at hx
  split at hx
  ·rename_i n r hat
   simp only[Option.bind_eq_some_iff] at hx
   obtain⟨bx,hbx,hx⟩:=hx
   split at hx
   ·rename_i hcond
    simp only[Bool.and_eq_true,beq_iff_eq] at hcond
    obtain⟨hk,hsz⟩:=hcond
    have hr:r=bx.r:=by
     simp only[KQ,hat,hbx] at hc
     exact hc.1
    obtain⟨x,hx1,hx2,hx3⟩:=Hj (s:=s) (t:=b) (by rw[hat];rfl)
    have ht:=hC.tm b
    rw[hx1] at ht
    have htv:=iU (x:=.at x) (by simpa [S1.known,S1.cells] using At.fit_known hx2) ht
    rw[S1.den,← hx3,hat,At.den] at htv
    obtain⟨vs,hvs,hrow⟩:=LN hC hbx
    have hvk:=hvs.known hk
    have hread:=uo hrow 0 (m:=vs.length)
    simp only[List.drop_zero,List.take_length] at hread
    have hmk:eS P T=true∨bx.cs.length=1:=by
     unfold Pq at hx
     split at hx
     ·rename_i h;exact .inl h
     ·split at hx
      ·rename_i h;right;simp[h]
      ·simp at hx
    have:=oS (P:=P) (t:=T) hsz.symm (a:=⟨r,0,none⟩) (vs:=vs) (by rw[hvk];simp) (by rw[hr];exact hread) hmk
    simp only[KP,htv,asAddr]
    rw[Sem.run_bind]
    simp only[Sem.run_pure,Result.andThen_ok]
    rw[this]
    congr 1
    unfold Pq at hx
    split at hx
    ·rename_i hA
     simp only[Option.some.injEq] at hx;subst hx
     simp[hA,S1.den,hvk]
    ·rename_i hA
     split at hx
     ·rename_i y hy
      simp only[Option.some.injEq] at hx;subst hx
      simp only[hA,Bool.false_eq_true,if_false]
      rw[hvk,hy];simp[g,S1.den]
     ·simp at hx
   ·simp at hx
  ·simp at hx
theorem KO {P:Program} {F:Own} {s:SS} {H:Heap} {O:Own} {a:Act} {w:World} (hC:Conc F s H O a w):∀ {xs:List ResultVar} {l:List S1},HN P s xs=some l→AllCk (xs.flatMap (KQ s)) →
  (xs.mapM (KP a.tmps)).run P w=.ok (l.map S1.den) w
 | [],l,h,_=>by simp only[HN,Option.some.injEq] at h;subst h;rfl
 | x::r,l,h,hc=>by
  simp only[HN] at h
  split at h
  ·rename_i v vs h1 h2
   simp only[Option.some.injEq] at h;subst h
   rw[List.flatMap_cons,AllCk.append] at hc
   rw[List.mapM_cons,Sem.run_bind,UP hC h1 hc.1]
   simp only[Result.andThen_ok]
   rw[Sem.run_bind,KO hC h2 hc.2]
   rfl
  ·simp at h
theorem HM {P:Program} {fn:Func} {F:Own} {s:SS} {H:Heap} {O:Own} {a:Act} {w:World} {QT:Value→Heap→Own→Prop} (hC:Conc F s H O a w) (h:(Gs P fn s).den P QT H O) :
  a.defers=[]∧∃ v,(results fn a.tmps).run P w=.ok v w∧∃ H' O',QT v H' O'∧Heap.le H H'∧Models w H' (O'++F):=by
 unfold Gs at h
 split at h
 ·exact h.elim
 ·rename_i l hl
  simp only[] at h
  split at h
  ·rename_i hcond
   simp only[Bool.and_eq_true,List.all_eq_true] at hcond
   obtain⟨hck,hret⟩:=iR h
   obtain⟨L,hL,hmod⟩:=hC.mm
   obtain⟨L',hp,_⟩:=F6 hL (fun p hp=>pP p hp) (wJ hcond.2) (fun p hp=>by rw[List.all_eq_true];exact hcond.1 p hp)
   have hm1:Models w H (((bvs (jA s (gj s 50 (kg (l.flatMap S1.cells) (jz (l.flatMap S1.cells) [])) []))).map BV.obj++O)++(L'++F)):=by
    refine hmod.perm ((hp.append_right _).trans ?_)
    rw[bvs,List.map_map,List.append_assoc,List.append_assoc]
    exact List.Perm.append_left _ (List.perm_append_comm_assoc _ _ _)
   obtain⟨H',O',hg,hq⟩:=hret ⟨w,_,hm1⟩
   refine⟨hC.df,_,?_,H',O',hq,?_⟩
   ·rw[MF,Sem.run_bind]
    have hr:=KO hC hl hck
    rw[← Array.toArray_toList (xs:=fn.results),List.mapM_toArray]
    simp only[Sem.run_map]
    rw[hr]
    rcases l with _ | ⟨v,_ | ⟨v',r⟩⟩ <;> simp
   ·obtain⟨hm2,hle⟩:=hg w _ hm1
    refine⟨hle,hm2.sub ((List.sublist_append_right L' F).append_left O')⟩
  ·exact h.elim
theorem Hu {P:Program} (hm:P.follows .mixedOrders=true) {opts:Vv} (hokf:∀ f,opts.okf f=true→vA P f) {f:FuncId} {fn:Func} (hf:P.funcs[f]?=some fn)
  {args vs:List Value} (ha:uk P fn args=some vs) (ho:Ones vs) {H:Heap} {O:Own} {Q:Value→Heap→Own→Prop} (h:(Ri P fn opts vs).den P Q H O):Triple P f args H O Q:=by
 intro w F hmod
 unfold Ri at h
 split at h
 ·rename_i c hc
  refine calls_of_wp hf hc ?_
  have hC:=Nu ha ho hmod
  refine Rh hm hokf c h hC ⟨fun s' H' O' a' w' hC' hle hd=>?_⟩ (fun id kx he=>by simp at he) ⟨fun s' H' O' a' w' hC' hle hd=>?_⟩
  ·obtain⟨h1,v,h2,H2,O2,h3,h4,h5⟩:=HM hC' hd
   exact⟨h1,v,h2,v,H2,O2,rfl,h3,Heap.le_trans hle h4,h5⟩
  ·obtain⟨h1,v,h2,H2,O2,h3,h4,h5⟩:=HM hC' hd
   exact⟨h1,v,h2,v,H2,O2,rfl,h3,Heap.le_trans hle h4,h5⟩
 ·exact h.elim
def RJ (P:Program) (f:FuncId):Bool :=
 match P.funcs[f]? with
 | some fn=>!(fn.name == "runtime.NumGoroutine") && !fn.body.isNone
 | none=>false
def LE {α:Type} (l:List (Nat × α)) (n:Nat):Option α :=
 match l with
 | []=>none
 | (k,a)::r=>if k=n then some a else LE r n
def Pv (ok:List Nat) (rules:List (Nat × List Nat)) (loops:List (Nat × Vo)) (cuts:List (Nat × List Nat × List Nat × List (Nat × List Nat))):Vv :=
 { okf:=fun f=>ok.contains f,rules:=LE rules,loop:=fun n=>(LE loops n).getD (.unroll 20),cut:=LE cuts }
theorem Iw {P:Program} {ok:List Nat} (h:ok.all (RJ P)=true) (rules:List (Nat × List Nat)) (loops:List (Nat × Vo)) (cuts:List (Nat × List Nat × List Nat × List (Nat × List Nat))) :
  ∀ f,(Pv ok rules loops cuts).okf f=true→vA P f:=by
 intro f hf
 have hm:f ∈ ok:=by simpa [Pv] using hf
 have:=List.all_eq_true.1 h f hm
 unfold RJ at this
 split at this
 ·rename_i fn hfn
  simp only[Bool.and_eq_true,Bool.not_eq_true'] at this
  exact⟨fn,hfn,this.1,this.2⟩
 ·cases this
abbrev E (l:List Value):List Value × List Value:=(l,l)
def Ret (P:Program) (f:FuncId) (args:List Value) (H:Heap) (r:Value):Prop:=Triple P f args H [] fun v _ O'=>v=r∧O'=[]
def Wp (P:Program) (f:FuncId) (args:List Value) (H:Heap) (S:Value→Heap→Prop):Prop:=Triple P f args H [] fun v H' O'=>S v H'∧O'=[]
theorem Ret.gives {P:Program} {f:FuncId} {args:List Value} {H:Heap} {r:Value} (h:Ret P f args H r):Wp P f args H fun v _=>v=r:=h
theorem ab {P:Program} {op:POp} {args:List Value} {k:Value→Tree} {H:Heap} {O:Own} {Q:Value→Heap→Own→Prop} (v:Value) (h:ak op args=some v) (hk:(k v).den P Q H O) :
  (Tree.pure [] op args k).den P Q H O:=⟨v,fun _=>h,.inl rfl,hk⟩
theorem cG {P:Program} {p:Value} {m:Nat} {vs:List Value} {k:List Value→Tree} {H:Heap} {O:Own} {Q:Value→Heap→Own→Prop} (h:H.read p m=some vs) (hl:vs.length=m) (ho:Ones vs)
  (hk:(k vs).den P Q H O):(Tree.load [] p m k).den P Q H O:=⟨vs,hl,ho,fun _=>.inl h,hk⟩
theorem ai {P:Program} {b:Bool} {t e:Tree} {H:Heap} {O:Own} {Q:Value→Heap→Own→Prop} (h1:b=true→t.den P Q H O) (h2:b=false→e.den P Q H O) :
  (Tree.br (.bool b) t e).den P Q H O:=⟨b,rfl,h1,h2⟩
theorem af {P:Program} {k:Nat→Tree} {H:Heap} {O:Own} {Q:Value→Heap→Own→Prop} (h:∀ r,(k r).den P Q H O):(Tree.newbox k).den P Q H O:=h
theorem aa {P:Program} {a:Nat} {t:Tree} {H:Heap} {O:Own} {Q:Value→Heap→Own→Prop} (h:t.den P Q H O):(Tree.chk (.eqN a a) t).den P Q H O:=⟨rfl,h⟩
theorem ae {P:Program} {a:Value} {t:Tree} {H:Heap} {O:Own} {Q:Value→Heap→Own→Prop} (h:t.den P Q H O):(Tree.chk (.eqV a a) t).den P Q H O:=⟨rfl,h⟩
theorem aw {P:Program} {g:Gd} {v:Value} {t:Tree} {H:Heap} {O:Own} {Q:Value→Heap→Own→Prop} (hp:GI v=true) (h:t.den P Q H O):(Tree.chk (.ptr g v) t).den P Q H O:=⟨fun _=>hp,h⟩
theorem L9 {P:Program} (hm:P.follows .mixedOrders=true) {opts:Vv} (hokf:∀ f,opts.okf f=true→vA P f) {f:FuncId} {fn:Func} (hf:P.funcs[f]?=some fn)
  {T:List Value→Tree} (ht:∀ vs,Ri P fn opts vs=T vs) {args vs:List Value} (ha:uk P fn args=some vs) (ho:Ones vs) {H:Heap} {O:Own} {Q:Value→Heap→Own→Prop} (h:(T vs).den P Q H O) :
  Triple P f args H O Q:=Hu hm hokf hf ha ho (by rw[ht];exact h)
def Arr (H:Heap) (size:Nat) (a:Addr) (rows:List (List Value)):Prop :=
 ∀ i r,rows[i]?=some r→H.read (.pointer (some (a.add (i * size)))) size=some r∧r.length=size∧Ones r
theorem Arr.le {H H':Heap} (hl:Heap.le H H') {size:Nat} {a:Addr} {rows:List (List Value)} (h:Arr H size a rows):Arr H' size a rows :=
 fun i r hr=>⟨hl.read (h i r hr).1,(h i r hr).2⟩
def Sl (H:Heap) (size:Nat) (s:Value) (rows:List (List Value)):Prop :=
 ∃ a cap,s=.slice a rows.length cap∧rows.length≤cap∧cap < 2 ^ 63∧(rows ≠ []→∃ ad,a=some ad∧Arr H size ad rows)
theorem Sl.le {H H':Heap} (hl:Heap.le H H') {size:Nat} {s:Value} {rows:List (List Value)} (h:Sl H size s rows):Sl H' size s rows :=
 let ⟨a,cap,h1,h2,h3,h4⟩:=h
 ⟨a,cap,h1,h2,h3,fun hn=>let ⟨ad,e,hA⟩:=h4 hn;⟨ad,e,hA.le hl⟩⟩
theorem Sl.nil (H:Heap) (size:Nat):Sl H size (.slice none 0 0) []:=⟨none,0,rfl,Nat.le_refl _,by omega,fun h=>absurd rfl h⟩
theorem Sl.one {H:Heap} {size:Nat} {s:Value} {rows:List (List Value)} (h:Sl H size s rows):s.oneCell'=true:=by
 obtain⟨a,cap,rfl,_⟩:=h;rfl
theorem Sl.lenB {H:Heap} {size:Nat} {s:Value} {rows:List (List Value)} (h:Sl H size s rows):rows.length < 2 ^ 63:=by
 obtain⟨a,cap,rfl,h1,h2,_⟩:=h;omega
theorem Sl.len {H:Heap} {size:Nat} {s:Value} {rows:List (List Value)} (h:Sl H size s rows):ak .len [s]=some (.int .i64 rows.length):=by
 obtain⟨a,cap,rfl,_⟩:=h;rfl
theorem Sl.idx {H:Heap} {size:Nat} {s:Value} {rows:List (List Value)} (h:Sl H size s rows) {k:IntKind} {i:Nat} {r:List Value} (hr:rows[i]?=some r) :
  ∃ a,ak (.idx size) [s,.int k i]=some (.pointer (some a))∧H.read (.pointer (some a)) size=some r∧r.length=size∧Ones r:=by
 obtain⟨a,cap,rfl,_,_,h4⟩:=h
 have hlt:i < rows.length:=(List.getElem?_eq_some_iff.1 hr).1
 obtain⟨ad,rfl,hA⟩:=h4 (by intro e;simp[e] at hlt)
 refine⟨ad.add (i * size),?_,hA i r hr⟩
 simp only[ak,uj]
 rw[if_pos ⟨by omega,by omega⟩]
 simp
theorem Arr.pidx {H:Heap} {size:Nat} {a:Addr} {rows:List (List Value)} (h:Arr H size a rows) {k:IntKind} {n i:Nat} (hn:n=rows.length) {r:List Value} (hr:rows[i]?=some r) :
  ∃ b,ak (.pidx n size) [.pointer (some a),.int k i]=some (.pointer (some b))∧H.read (.pointer (some b)) size=some r∧r.length=size∧Ones r:=by
 subst hn
 have hlt:i < rows.length:=(List.getElem?_eq_some_iff.1 hr).1
 refine⟨a.add (i * size),?_,h i r hr⟩
 simp only[ak,vd]
 rw[if_pos ⟨by omega,by omega⟩]
 simp
theorem OJ {H:Heap} {a:Addr}:∀ {size:Nat} {r:List Value},H.read (.pointer (some a)) size=some r→∀ off m,off + m≤size→H.read (aO (.pointer (some a)) off) m=some ((r.drop off).take m):=by
 intro size r h off m hle
 simp only[Heap.read] at h
 have hlen:∀ {α β:Type} {f:α→Option β} {l:List α} {r:List β},l.mapM f=some r→r.length=l.length:=by
  intro α β f l
  induction l with
  | nil=>intro r h;simp at h;subst h;rfl
  | cons a l ih =>
   intro r h
   simp only[List.mapM_cons,Option.pure_def,Option.bind_eq_bind] at h
   cases ha:f a with
   | none=>simp[ha] at h
   | some b =>
    simp only[ha,Option.bind_some] at h
    cases hl:l.mapM f with
    | none=>simp[hl] at h
    | some bs=>simp only[hl,Option.bind_some,Option.some.injEq] at h;subst h;simp[ih hl]
 have hget:=xZ h
 have hl:=hlen h
 simp only[List.length_range] at hl
 show (List.range m).mapM (fun i=>H.cell? ((a.add off).add i))=_
 have key:∀ (n i:Nat),i + n=m→(List.range' i n).mapM (fun i=>H.cell? ((a.add off).add i))=some (((r.drop off).drop i).take n):=by
  intro n
  induction n with
  | zero=>intro i _;simp
  | succ n ih =>
   intro i hi
   have hlt:off + i < r.length:=by omega
   have hc:H.cell? ((a.add off).add i)=some r[off + i]:=by
    obtain⟨j,hj,hc⟩:=hget (off + i) r[off + i] (List.getElem?_eq_getElem hlt)
    have:off + i=j:=by
     rw[List.getElem?_eq_some_iff] at hj
     obtain⟨_,hj⟩:=hj
     simpa using hj
    subst this
    rw[D8];exact hc
   rw[List.range'_succ,List.mapM_cons,hc,ih (i + 1) (by omega)]
   simp only[Option.pure_def,Option.bind_eq_bind,Option.bind_some]
   congr 1
   rw[show (r.drop off).drop i=r[off + i]::(r.drop off).drop (i + 1) by
    rw[List.drop_drop,List.drop_drop,List.drop_eq_getElem_cons hlt];rfl]
   rfl
 rw[List.range_eq_range']
 simpa using key m 0 (by omega)
theorem ij:∀ {l:List BV} {H:Heap} {X:Own},Cons H (l.map BV.obj++X)→∀ b ∈ l,(H.insAll l) b.r=some b.obj.2
 | [],_,_,_,b,h=>by simp at h
 | c::l,H,X,hc,b,hb=>by
  obtain⟨w,F,hm⟩:=hc
  simp only[List.map_cons,List.cons_append] at hm
  have hf:Models w (H.ins c.r c.obj.2) (l.map BV.obj++X++F):=Models.freeze hm
  simp only[Heap.insAll]
  rcases List.mem_cons.1 hb with rfl | hb
  ·refine (Heap.le_insAll l _).1 b.r _ ?_
   have:=(hm.own (b.obj) (by simp)).2
   simp only[Heap.ins,show H b.r=none from this,if_true]
  ·exact ij (X:=X) ⟨w,F,hf⟩ b hb
theorem J7 {P:Program} {f:FuncId} {args:List Value} {H:Heap} {O:Own} {S:Value→Heap→Prop} {d:Bool} {frz:List BV} {shp:Shp} {K:List Value→List (List Value)→Heap→Own→Prop}
  (h:∀ Hf,Heap.le H Hf→(∀ b ∈ frz,Hf b.r=some b.obj.2)→Wp P f args Hf S∧∀ v H',S v H'→Heap.le Hf H'→∃ vs,shp.open v=some vs∧Ones vs∧K vs [] H' O) :
  dZ (fun H1 O1 R=>Triple P f args H1 O1 R) d frz [] shp K H O:=by
 intro hc
 obtain⟨h1,h2⟩:=h (H.insAll frz) (Heap.le_insAll frz H) (ij hc)
 refine⟨H.insAll frz,[],O,_,?_,h1,fun v H' O' hq hle=>?_⟩
 ·cases d
  ·exact Ghost.refl _ _
  ·exact⟨rfl,.inl ⟨rfl,rfl⟩⟩
 ·obtain⟨hs,rfl⟩:=hq
  obtain⟨vs,h3,h4,h5⟩:=h2 v H' hs hle
  exact⟨vs,[],[],h3,h4,trivial,rfl,h5⟩
theorem qp {H:Heap} {r:Nat} {cs:List Value} {T:TypeId} (h:H r=some (.cells cs.toArray T (0,0))) {off m:Nat} (hle:off + m≤cs.length) :
  H.read (.pointer (some ⟨r,off,none⟩)) m=some ((cs.drop off).take m):=by
 simp only[Heap.read]
 have key:∀ (n i:Nat),i + n=m→(List.range' i n).mapM (fun i=>H.cell? ((⟨r,off,none⟩:Addr).add i))=some (((cs.drop off).drop i).take n):=by
  intro n
  induction n with
  | zero=>intro i _;simp
  | succ n ih =>
   intro i hi
   have hlt:off + i < cs.length:=by omega
   have hc:H.cell? ((⟨r,off,none⟩:Addr).add i)=some cs[off + i]:=by
    rw[cL]
    simp[Heap.cell?,h,hlt]
   rw[List.range'_succ,List.mapM_cons,hc,ih (i + 1) (by omega)]
   simp only[Option.pure_def,Option.bind_eq_bind,Option.bind_some]
   congr 1
   rw[show (cs.drop off).drop i=cs[off + i]::(cs.drop off).drop (i + 1) by
    rw[List.drop_drop,List.drop_drop,List.drop_eq_getElem_cons hlt];rfl]
   rfl
 rw[List.range_eq_range']
 simpa using key m 0 (by omega)
theorem Arr.block {H:Heap} {r:Nat} {cs:List Value} {T:TypeId} (h:H r=some (.cells cs.toArray T (0,0))) (ho:Ones cs):Arr H 1 ⟨r,0,none⟩ (cs.map fun v=>[v]):=by
 intro i x hx
 rw[List.getElem?_map,Option.map_eq_some_iff] at hx
 obtain⟨v,hv,rfl⟩:=hx
 have hlt:=(List.getElem?_eq_some_iff.1 hv).1
 have hg:=ho.get i hlt
 rw[Qh hv] at hg
 refine⟨?_,rfl,hg,trivial⟩
 rw[cL,qp h (by omega),Nat.zero_add,Nat.mul_one,List.drop_eq_getElem_cons hlt]
 rw[List.getElem?_eq_getElem hlt] at hv
 simp only[Option.some.injEq] at hv
 simp[hv]
theorem Sl.block {H:Heap} {r:Nat} {cs:List Value} {T:TypeId} (h:H r=some (.cells cs.toArray T (0,0))) (ho:Ones cs) {n:Nat} (hn:n=cs.length) (hb:n < 2 ^ 63) :
  Sl H 1 (.slice (some ⟨r,0,none⟩) n n) (cs.map fun v=>[v]):=by
 subst hn
 exact⟨_,_,by simp,by simp,hb,fun _=>⟨_,rfl,Arr.block h ho⟩⟩
abbrev Str (l:List UInt8):Value:=.string ⟨l.toArray⟩
theorem VE (b:ByteArray):Value.string b=Str b.data.toList:=by
 show _=Value.string _
 congr
def L8 (I:List Value→Heap→Own→Prop) (μ:List Value→Heap→Own→Nat) (m:Nat):List Value→Heap→Own→Prop :=
 fun vs' H'' O''=>Cons H'' O''→∃ H3 O3,Ghost H'' O'' H3 O3∧I vs' H3 O3∧μ vs' H3 O3 < m
theorem fG {P:Program} {lab key:Nat} {init:List Value} {body:(List Value→Heap→Own→Prop)→List Value→Tree} {H:Heap} {O:Own} {Q:Value→Heap→Own→Prop}
  (I:List Value→Heap→Own→Prop) (μ:List Value→Heap→Own→Nat) (h0:I init H O)
  (step:∀ vs H' O',vs.length=init.length→Ones vs→Heap.le H H'→I vs H' O'→(body (L8 I μ (μ vs H' O')) vs).den P Q H' O'):(Tree.loop lab key init body).den P Q H O :=
 ⟨I,μ,fun _=>⟨H,O,Ghost.refl _ _,h0⟩,step⟩
theorem bU {P:Program} {lab m:Nat} {I:List Value→Heap→Own→Prop} {μ:List Value→Heap→Own→Nat} {vals:List Value} {eqs:List (List Value × List Value)} {H:Heap} {O:Own} {Q:Value→Heap→Own→Prop}
  (he:Eqs eqs) (hi:I vals H O) (hm:μ vals H O < m):(Tree.cont lab (L8 I μ m) vals eqs).den P Q H O:=⟨he,fun _=>⟨H,O,Ghost.refl _ _,hi,hm⟩⟩
theorem aQ {P:Program} {lab key:Nat} {body:(List Value→Heap→Own→Prop)→List Value→Tree} {H:Heap} {O:Own} {Q:Value→Heap→Own→Prop} (n:Nat) (R:Nat→Heap→Own→Prop)
  (h0:R 0 H O) (step:∀ i H' O',i≤n→Heap.le H H'→R i H' O'→(body (L8 (fun vs H O=>∃ i:Nat,vs=[.int .i64 i]∧i≤n∧R i H O) (fun vs _ _=>match g vs 0 with | .int _ k=>n - k.toNat | _=>0) (n - i)) [.int .i64 i]).den P Q H' O') :
  (Tree.loop lab key [.int .i64 0] body).den P Q H O:=by
 refine fG (fun vs H O=>∃ i:Nat,vs=[.int .i64 i]∧i≤n∧R i H O) (fun vs _ _=>match g vs 0 with | .int _ k=>n - k.toNat | _=>0) ⟨0,rfl,Nat.zero_le _,h0⟩ ?_
 rintro vs H' O' _ _ hle ⟨i,rfl,hi,hr⟩
 exact step i H' O' hi hle hr
theorem aI {P:Program} {lab n i:Nat} {R:Nat→Heap→Own→Prop} {eqs:List (List Value × List Value)} {H:Heap} {O:Own} {Q:Value→Heap→Own→Prop} (he:Eqs eqs) (hi:i < n) (hr:R (i + 1) H O) :
  (Tree.cont lab (L8 (fun vs H O=>∃ i:Nat,vs=[.int .i64 i]∧i≤n∧R i H O) (fun vs _ _=>match g vs 0 with | .int _ k=>n - k.toNat | _=>0) (n - i)) [.int .i64 ((i + 1:Nat):Int)] eqs).den P Q H O:=by
 refine bU he ⟨i + 1,rfl,hi,hr⟩ ?_
 show n - ((i + 1:Nat):Int).toNat < n - i
 simp;omega
theorem gJ {n:Int} (h1:-9223372036854775808≤n) (h2:n≤9223372036854775807):IntKind.i64.wrap n=n:=by
 simp only[IntKind.wrap,IntKind.bits,IntKind.signed]
 simp
 omega
theorem hY {i n:Nat} (h:i + n < 2 ^ 63):ak (.bin .add .int) [.int .i64 (i:Int),.int .i64 (n:Int)]=some (.int .i64 ((i + n:Nat):Int)):=by
 simp only[ak,fL,fg,if_true]
 rw[gJ (by omega) (by omega)]
 simp
theorem az {i:Nat} (h:i + 1 < 2 ^ 63):ak (.bin .add .int) [.int .i64 (i:Int),.int .i64 1]=some (.int .i64 ((i + 1:Nat):Int)):=hY (n:=1) h
theorem aB (a b:Int):ak (.bin .lss .int) [.int .i64 a,.int .i64 b]=some (.bool (decide (a < b))):=by simp[ak,fL,fg]
theorem bK (a b:Int):ak (.bin .gtr .int) [.int .i64 a,.int .i64 b]=some (.bool (decide (a > b))):=by simp[ak,fL,fg]
theorem eR (a b:Int):ak (.bin .leq .int) [.int .i64 a,.int .i64 b]=some (.bool (decide (a≤b))):=by simp[ak,fL,fg]
theorem cI (a b:Int):ak (.bin .geq .int) [.int .i64 a,.int .i64 b]=some (.bool (decide (a ≥ b))):=by simp[ak,fL,fg]
theorem ay (a b:Int):ak (.bin .eql .int) [.int .i64 a,.int .i64 b]=some (.bool (a == b)):=by simp[ak,fL,fg]
theorem aY (a b:Int):ak (.bin .neq .int) [.int .i64 a,.int .i64 b]=some (.bool (a != b)):=by simp[ak,fL,fg]
theorem aJ (b:Bool):ak .not [.bool b]=some (.bool (!b)):=rfl
theorem DZ {P:Program} {f:FuncId} {args:List Value} {H:Heap} {O:Own} {d:Bool} {frz:List BV} {shp:Shp} {K:List Value→List (List Value)→Heap→Own→Prop} {vs:List Value} (r:Value)
  (h:∀ Hf,Heap.le H Hf→(∀ b ∈ frz,Hf b.r=some b.obj.2)→Ret P f args Hf r) (ho:shp.open r=some vs) (h1:Ones vs)
  (hk:∀ H',Heap.le H H'→(∀ b ∈ frz,H' b.r=some b.obj.2)→K vs [] H' O):dZ (fun H1 O1 R=>Triple P f args H1 O1 R) d frz [] shp K H O :=
 J7 (S:=fun v _=>v=r) fun Hf hl hf=>⟨(h Hf hl hf).gives,fun v H' e hle=>⟨vs,by rw[e];exact ho,h1,hk H' (Heap.le_trans hl hle) fun b hb=>hle.1 _ _ (hf b hb)⟩⟩
theorem aR (b c:Bool):ak .pick [.bool b,.bool true,.bool c]=some (.bool (b || c)):=by cases b <;> rfl
theorem aT (b c:Bool):ak .pick [.bool b,.bool c,.bool false]=some (.bool (b && c)):=by cases b <;> rfl
theorem wX (b c:Bool):ak (.bin .eql .bool) [.bool b,.bool c]=some (.bool (b == c)):=rfl
theorem rI (b c:Bool):ak (.bin .neq .bool) [.bool b,.bool c]=some (.bool (!(b == c))):=rfl
theorem OG {P:Program} {v:Value} {own:List BV} {H:Heap} {O:Own} {Q:Value→Heap→Own→Prop} (h:∀ H',Heap.le H H'→(∀ b ∈ own,H' b.r=some b.obj.2)→Q v H' O):(Tree.ret v own).den P Q H O:=by
 intro hc
 refine⟨H.insAll own,O,fun w F hm=>?_,h _ (Heap.le_insAll own H) (ij hc)⟩
 rw[List.append_assoc] at hm
 exact ng hm
def RetO (P:Program) (f:FuncId) (args:List Value) (H:Heap) (O:Own) (r:Value):Prop:=Triple P f args H O fun v _ O'=>v=r∧O'=O
theorem aj {P:Program} {f:FuncId} {args:List Value} {H:Heap} {O:Own} {r:Value} {d:Bool} {shp:Shp} {K:List Value→List (List Value)→Heap→Own→Prop} {vs:List Value}
  (h:RetO P f args H O r) (ho:shp.open r=some vs) (h1:Ones vs) (hk:∀ H',Heap.le H H'→K vs [] H' O) :
  dZ (fun H1 O1 R=>Triple P f args H1 O1 R) d [] [] shp K H O:=by
 intro _
 refine⟨H,O,[],fun v _ O'=>v=r∧O'=O,?_,h,?_⟩
 ·cases d
  ·show Ghost H O H (O++[])
   rw[List.append_nil];exact Ghost.refl _ _
  ·exact⟨rfl,.inr ⟨rfl,rfl,rfl,fun v H' O' h=>h.2⟩⟩
 ·rintro v H' O' ⟨rfl,rfl⟩ hle
  exact⟨vs,[],O',ho,h1,trivial,rfl,by rw[List.append_nil];exact hk H' hle⟩
theorem rl:∀ own:List BV,nc own (own.map (·.vs))=own
 | []=>rfl
 | b::r=>by rw[List.map_cons,nc,rl r]
theorem SK {P:Program} {f:FuncId} {args:List Value} {H:Heap} {O:Own} {r:Value} {d:Bool} {own:List BV} {shp:Shp} {K:List Value→List (List Value)→Heap→Own→Prop} {vs:List Value}
  (h:RetO P f args H (own.map BV.obj) r) (ho:shp.open r=some vs) (h1:Ones vs) (hf:TT own (own.map (·.vs))) (hk:∀ H',Heap.le H H'→K vs (own.map (·.vs)) H' O) :
  dZ (fun H1 O1 R=>Triple P f args H1 O1 R) d [] own shp K H O:=by
 intro _
 refine⟨H,[],O,fun v _ O'=>v=r∧O'=own.map BV.obj,?_,by rw[List.append_nil];exact h,?_⟩
 ·cases d
  ·exact Ghost.refl _ _
  ·exact⟨rfl,.inl ⟨rfl,rfl⟩⟩
 ·rintro v H' O' ⟨rfl,rfl⟩ hle
  exact⟨vs,own.map (·.vs),[],ho,h1,hf,by rw[rl,List.append_nil],hk H' hle⟩
theorem ah {P:Program} {v:Value} {H:Heap} {O:Own} {Q:Value→Heap→Own→Prop} (h:Q v H O):(Tree.ret v []).den P Q H O:=fun _=>⟨H,O,Ghost.refl _ _,h⟩
end Go.Sx
namespace Go.Sx
open Go Go.ChangeShapes Go.WideShapes
def yd (W:World):Heap:=⟨fun b=>W.heap[b]?,pR W⟩
theorem JZ (W:World) (a:Addr):(yd W).cell? a=W.cell? a:=rfl
theorem GB (W:World):Models W (yd W) []:=⟨fun _ _ h=>h,by simp,by simp,rfl⟩
def Wf (P:Program) (H:Heap):Nat→TypeId→List Value→Prop
 | 0,_,_=>False
 | n + 1,t,cs =>
  match P.underlying t with
  | some .bool=>∃ b,cs=[.bool b]
  | some (.int k)=>∃ x,cs=[.int k x]∧k.min≤x∧x≤k.max
  | some .string=>∃ l,cs=[Str l]∧l.length < 2 ^ 63
  | some (.slice e)=>∃ s rows,cs=[s]∧Sl H (P.cellsOf e) s rows∧∀ r ∈ rows,Wf P H n e r
  | some (.struct fs)=>cs.length=P.cellsOf t∧∀ f ∈ fs.toList,Wf P H n f.type ((cs.drop f.offset).take (P.cellsOf f.type))
  | some (.array m e)=>cs.length=P.cellsOf t∧∀ i,i < m→Wf P H n e ((cs.drop (i * P.cellsOf e)).take (P.cellsOf e))
  | _=>True
variable {H:Type} {enc:TypeId × Value→H} {P:Program} {w:World} {base:Nat} {sp:Nat→Bool} {held:Bool}
theorem wL {α β:Type} {f:α→Option β}:∀ {l:List α} {r:List β},l.mapM f=some r→r.length=l.length
 | [],r,h=>by simp at h;subst h;rfl
 | a::l,r,h=>by
  simp only[List.mapM_cons,Option.pure_def,Option.bind_eq_bind] at h
  cases ha:f a with
  | none=>simp[ha] at h
  | some b =>
   simp only[ha,Option.bind_some] at h
   cases hl:l.mapM f with
   | none=>simp[hl] at h
   | some bs=>simp only[hl,Option.bind_some,Option.some.injEq] at h;subst h;simp[wL hl]
theorem LC {α β:Type} {f:α→Option β}:∀ {l:List α} {r:List β},l.mapM f=some r→∀ (i:Nat) a,l[i]?=some a→∃ b,r[i]?=some b∧f a=some b
 | [],r,h,i,a,hi=>by simp at hi
 | x::l,r,h,i,a,hi=>by
  simp only[List.mapM_cons,Option.pure_def,Option.bind_eq_bind] at h
  cases ha:f x with
  | none=>simp[ha] at h
  | some b =>
   simp only[ha,Option.bind_some] at h
   cases hl:l.mapM f with
   | none=>simp[hl] at h
   | some bs =>
    simp only[hl,Option.bind_some,Option.some.injEq] at h;subst h
    cases i with
    | zero=>simp at hi;subst hi;exact⟨b,rfl,ha⟩
    | succ i=>simpa using LC hl i a (by simpa using hi)
theorem nO {cs:List Value} (h:∀ v ∈ cs,v.oneCell'=true):Ones cs:=by
 induction cs with
 | nil=>trivial
 | cons v r ih=>exact⟨h v (by simp),ih fun u hu=>h u (by simp[hu])⟩
def Qo (parts:List (Nat × Nat)) (n:Nat):Bool:=(List.range n).all fun i=>parts.any fun p=>decide (p.1≤i) && decide (i < p.1 + p.2)
theorem Q3 {fuel:Nat} {t e:TypeId} {cs:List Value} {x:DataW H × List MemPlace} (ht:P.underlying t=some (.slice e)) (h:DataW.trod enc P w base sp held (fuel + 1) t cs=some x) :
  ∃ s rows,cs=[s]∧(∃ a cap,s=.slice a rows.length cap∧rows.length≤cap∧cap < 2 ^ 63∧(rows ≠ []→∃ ad,a=some ad ∧
   ∀ (i:Nat) (r:List Value),rows[i]?=some r→(yd w).read (.pointer (some (ad.add (i * P.cellsOf e)))) (P.cellsOf e)=some r∧r.length=P.cellsOf e∧∃ y,DataW.trod enc P w base sp held fuel e r=some y)):=by
 unfold DataW.trod at h
 rw[ht] at h
 split at h <;> try (first | (simp at h;done) | (rename_i e1 e2;cases e1;done) | (rename_i e1;cases e1;done))
 ·exact⟨_,[],rfl,none,0,rfl,Nat.le_refl _,by omega,fun h=>absurd rfl h⟩
 ·rename_i a len cap he
  cases he
  simp only[] at h
  split at h
  ·rename_i hc
   simp only[Option.bind_eq_some_iff] at h
   obtain⟨elems,hel,_⟩:=h
   have hlen:=wL hel
   simp only[List.length_range] at hlen
   have hrow:∀ i,i < len→∃ r,(List.range (P.cellsOf e)).mapM (fun j=>w.cell? ((a.add (i * P.cellsOf e)).add j))=some r∧∃ y,DataW.trod enc P w base sp held fuel e r=some y:=by
    intro i hi
    obtain⟨y,_,hy⟩:=LC hel i i (by simp[hi])
    simp only[Option.bind_eq_some_iff,World.cells?] at hy
    obtain⟨r,hr,hy⟩:=hy
    split at hr
    ·exact⟨r,hr,y,hy⟩
    ·cases hr
   refine⟨_,(List.range len).map fun i=>((List.range (P.cellsOf e)).mapM (fun j=>w.cell? ((a.add (i * P.cellsOf e)).add j))).getD [],rfl,some a,cap,by simp,by simp;exact hc.2.1,?_,fun _=>⟨a,rfl,fun i r hr=>?_⟩⟩
   ·have:=hc.2.2;simp only[maxLen] at this;omega
   ·rw[List.getElem?_map,Option.map_eq_some_iff] at hr
    obtain⟨i',hi',rfl⟩:=hr
    have hlt:i < len:=by have:=(List.getElem?_eq_some_iff.1 hi').1;simpa using this
    have:i'=i:=by rw[List.getElem?_range hlt] at hi';simpa using hi'.symm
    subst this
    obtain⟨r,hr,y,hy⟩:=hrow i' hlt
    rw[hr,Option.getD_some]
    exact⟨hr,by have:=wL hr;simpa using this,y,hy⟩
  ·cases h
def gP (P:Program):Bool:=(List.range P.types.size).all fun t =>
 match P.underlying t with
 | some (.struct fs)=>Qo (fs.toList.map fun f=>(f.offset,P.cellsOf f.type)) (P.cellsOf t) && fs.toList.all fun f=>decide (f.type < P.types.size)
 | some (.array n e)=>decide (P.cellsOf t=n * P.cellsOf e) && decide (e < P.types.size)
 | some (.slice e)=>decide (e < P.types.size)
 | _=>true
theorem lM (h:gP P=true) {t:TypeId} (ht:t < P.types.size) {fs:Array Field} (hu:P.underlying t=some (.struct fs)) :
  Qo (fs.toList.map fun f=>(f.offset,P.cellsOf f.type)) (P.cellsOf t)=true∧∀ f ∈ fs.toList,f.type < P.types.size:=by
 simp only[gP,List.all_eq_true,List.mem_range] at h
 have:=h t ht
 rw[hu] at this
 simp only[Bool.and_eq_true,List.all_eq_true,decide_eq_true_eq] at this
 exact this
theorem s9 (h:gP P=true) {t:TypeId} (ht:t < P.types.size) {n:Nat} {e:TypeId} (hu:P.underlying t=some (.array n e)):P.cellsOf t=n * P.cellsOf e∧e < P.types.size:=by
 simp only[gP,List.all_eq_true,List.mem_range] at h
 have:=h t ht
 rw[hu] at this
 simpa using this
theorem s8 (h:gP P=true) {t:TypeId} (ht:t < P.types.size) {e:TypeId} (hu:P.underlying t=some (.slice e)):e < P.types.size:=by
 simp only[gP,List.all_eq_true,List.mem_range] at h
 have:=h t ht
 rw[hu] at this
 simpa using this
theorem iP {cs:List Value} (h:Ones cs):∀ v ∈ cs,v.oneCell'=true:=by
 induction cs with
 | nil=>simp
 | cons v r ih=>intro u hu;rcases List.mem_cons.1 hu with rfl | hu;exact h.1;exact ih h.2 u hu
theorem xj (hsk:gP P=true):∀ {fuel:Nat} {t:TypeId} {cs:List Value} {x:DataW H × List MemPlace},t < P.types.size→DataW.trod enc P w base sp held fuel t cs=some x→Ones cs
 | 0,t,cs,x,_,h=>by simp[DataW.trod] at h
 | fuel + 1,t,cs,x,htl,h=>by
  cases hu:P.underlying t with
  | none=>unfold DataW.trod at h;rw[hu] at h;simp at h
  | some d =>
   by_cases hS:∃ fs,d=.struct fs
   ·obtain⟨fs,rfl⟩:=hS
    obtain⟨xs,n,hn,rfl,hl,hlen,hf⟩:=DataW.trod_struct hu h
    cases hn
    refine nO fun v hv=>?_
    obtain⟨i,hi,rfl⟩:=List.getElem_of_mem hv
    have hc:=(lM hsk htl hu).1
    have hft:=(lM hsk htl hu).2
    simp only[Qo,List.all_eq_true,List.mem_range] at hc
    have:=hc i (by omega)
    simp only[List.any_map,List.any_eq_true,Function.comp,Bool.and_eq_true,decide_eq_true_eq] at this
    obtain⟨f,hfm,h1,h2⟩:=this
    obtain⟨j,hj,rfl⟩:=List.getElem_of_mem hfm
    have hj':fs[j]?=some fs.toList[j]:=by simp at hj ⊢
    have hx:=hf j _ hj'
    have hjx:j < xs.length:=by rw[hlen];simpa using hj
    rw[List.getElem?_eq_getElem hjx] at hx
    have ho:=xj hsk (hft _ (List.getElem_mem hj)) hx
    refine iP ho _ ?_
    refine List.mem_iff_getElem?.2 ⟨i - fs.toList[j].offset,?_⟩
    rw[List.getElem?_take,if_pos (by omega),List.getElem?_drop,show fs.toList[j].offset + (i - fs.toList[j].offset)=i by omega,List.getElem?_eq_getElem hi]
   ·by_cases hA:∃ n e,d=.array n e
    ·obtain⟨m,e,rfl⟩:=hA
     obtain⟨xs,n,hn,rfl,hl,hlen,hf⟩:=DataW.trod_array hu h
     cases hn
     refine nO fun v hv=>?_
     obtain⟨i,hi,rfl⟩:=List.getElem_of_mem hv
     obtain⟨hsz,het⟩:=s9 hsk htl hu
     have hm:i < m * P.cellsOf e:=by omega
     have he:0 < P.cellsOf e:=by
      rcases Nat.eq_zero_or_pos (P.cellsOf e) with h0 | h0
      ·rw[h0] at hm;simp at hm
      ·exact h0
     have hq:i / P.cellsOf e < m:=(Nat.div_lt_iff_lt_mul he).2 hm
     have hx:=hf (i / P.cellsOf e) hq
     rw[List.getElem?_eq_getElem (by omega)] at hx
     have ho:=xj hsk het hx
     refine iP ho _ ?_
     have hdm:P.cellsOf e * (i / P.cellsOf e) + i % P.cellsOf e=i:=Nat.div_add_mod i _
     refine List.mem_iff_getElem?.2 ⟨i % P.cellsOf e,?_⟩
     rw[List.getElem?_take,if_pos (Nat.mod_lt _ he),List.getElem?_drop,Nat.mul_comm,hdm,List.getElem?_eq_getElem hi]
    ·unfold DataW.trod at h
     rw[hu] at h
     split at h
     all_goals first
      | exact⟨rfl,trivial⟩
      | (exact absurd ⟨_,Option.some.inj ‹_›⟩ hS)
      | (exact absurd ⟨_,_,Option.some.inj ‹_›⟩ hA)
      | (simp at h;done)
theorem pW (hsk:gP P=true):∀ {fuel:Nat} {t:TypeId} {cs:List Value} {x:DataW H × List MemPlace},t < P.types.size→DataW.trod enc P w base sp held fuel t cs=some x→Wf P (yd w) fuel t cs
 | 0,t,cs,x,_,h=>by simp[DataW.trod] at h
 | fuel + 1,t,cs,x,htl,h=>by
  unfold Wf
  split
  ·rename_i hu
   unfold DataW.trod at h
   rw[hu] at h
   split at h <;> first | (simp at h;done) | (rename_i e1;cases e1;done) | skip
   exact⟨_,rfl⟩
  ·rename_i k hu
   obtain⟨n,rfl,_,hw⟩:=DataW.trod_int hu h
   simp only[Lit.wf,Bool.and_eq_true,decide_eq_true_eq] at hw
   exact⟨n,rfl,hw.1,hw.2⟩
  ·rename_i hu
   obtain⟨s,rfl,_,hs⟩:=DataW.trod_string hu h
   refine⟨s.data.toList,by rw[VE],?_⟩
   have:s.data.toList.length=s.size:=rfl
   simp only[maxLen] at hs;omega
  ·rename_i e hu
   obtain⟨s,rows,rfl,a,cap,rfl,h1,h2,h3⟩:=Q3 hu h
   refine⟨_,rows,rfl,⟨a,cap,rfl,h1,h2,fun hn=>?_⟩,fun r hr=>?_⟩
   ·obtain⟨ad,e1,hA⟩:=h3 hn
    refine⟨ad,e1,fun i r hr=>?_⟩
    obtain⟨k1,k2,y,hy⟩:=hA i r hr
    exact⟨k1,k2,xj hsk (s8 hsk htl hu) hy⟩
   ·obtain⟨i,hi⟩:=List.mem_iff_getElem?.1 hr
    obtain⟨ad,e1,hA⟩:=h3 (by intro e;rw[e] at hr;simp at hr)
    obtain⟨_,_,y,hy⟩:=hA i r hi
    exact pW hsk (s8 hsk htl hu) hy
  ·rename_i fs hu
   obtain⟨xs,n,hn,rfl,hl,hlen,hf⟩:=DataW.trod_struct hu h
   cases hn
   refine⟨hl,fun f hfm=>?_⟩
   obtain⟨j,hj,rfl⟩:=List.getElem_of_mem hfm
   have hj':fs[j]?=some fs.toList[j]:=by simp at hj ⊢
   have hx:=hf j _ hj'
   have hjx:j < xs.length:=by rw[hlen];simpa using hj
   rw[List.getElem?_eq_getElem hjx] at hx
   exact pW hsk ((lM hsk htl hu).2 _ (List.getElem_mem hj)) hx
  ·rename_i m e hu
   obtain⟨xs,n,hn,rfl,hl,hlen,hf⟩:=DataW.trod_array hu h
   cases hn
   refine⟨hl,fun i hi=>?_⟩
   have hx:=hf i hi
   rw[List.getElem?_eq_getElem (by omega)] at hx
   exact pW hsk (s9 hsk htl hu).2 hx
  ·trivial
def Kept (W W':World):Prop:=pR W'=pR W∧∀ (b:Nat) (o:Obj),W.heap[b]?=some o→W'.heap[b]?=some o
theorem Kept.keptBut {W W':World} (h:Kept W W') (may:MemPlace→Prop):W.keptBut W' may:=by
 obtain⟨h1,h2⟩:=h
 simp only[pR,Prod.mk.injEq] at h1
 refine⟨h1.1,h1.2.2,fun i hi=>?_⟩
 have e1:W.heap[i]?=some W.heap[i]:=Array.getElem?_eq_getElem hi
 have e2:=h2 i _ e1
 rw[e1,e2]
 cases W.heap[i] with
 | cells c t fr=>exact⟨rfl,rfl,rfl,fun _ _=>rfl⟩
 | map es clock=>exact .inr ⟨rfl,rfl⟩
 | _=>rfl
theorem Kept.same {W W':World} (h:Kept W W') {p:MemPlace} (hp:p.block < W.heap.size):W.sameAt W' p:=by
 have e2:=h.2 p.block _ (Array.getElem?_eq_getElem hp)
 rw[← Array.getElem?_eq_getElem hp] at e2
 cases p with
 | cell b off=>simp only[MemPlace.block] at e2;simp only[World.sameAt,World.cell?,e2]
 | map b=>exact e2
theorem Kept.trodAll {W W':World} (h:Kept W W') (hl:laidOutB P=true) {B:Nat}:∀ {ts:List TypeId} {vs:List Value} {ds:List (DataW H)} {ps:List MemPlace},(∀ t ∈ ts,P.readableRec t=true∧t < P.types.size) →
  DataW.TrodAll enc P W 0 (fun _=>true) true ts vs ds ps→(∀ p ∈ ps,p.block < W.heap.size)→DataW.TrodAll enc P W' 0 (fun b=>decide (b < W.heap.size)) true ts vs ds ps
 | [],[],[],_,_,h',_=>h'
 | _::_,_::_,_::_,_,ht,⟨p,q,h1,h2,e⟩,hlt=>by
  subst e
  refine⟨p,q,?_,h.trodAll hl (B:=B) (fun t hm=>ht t (by simp[hm])) h2 (fun x hx=>hlt x (by simp[hx])),rfl⟩
  exact WideElems.Trod_stays hl (ht _ (by simp)).1 (ht _ (by simp)).2 h1 (fun x hx=>h.same (hlt x (by simp[hx]))) (fun x hx=>by simpa using hlt x (by simp[hx]))
 | [],_::_,_,_,_,h',_=>h'.elim
 | [],[],_::_,_,_,h',_=>h'.elim
 | _::_,[],_,_,_,h',_=>h'.elim
 | _::_,_::_,[],_,_,h',_=>h'.elim
theorem PH {f:FuncId} {fn:Func} {s:ChangeSpec} {W:World} {args:Array Value} {ds:List (DataW H)} {before:List MemPlace} {tb:TypeId}
  (hT:Triple P f args.toList (yd W) [] fun v _ O'=>v=.bool true∧O'=[])
  (hW:DataW.Whole enc P fn.params.toList s.vars false W args.toList ds [] before) (hv:s.vars=[]) (hs:s.fn H ds={ results:=[.lit (.bool true)],args:=ds })
  (hrt:fn.resultTypes=#[tb]) (htb:P.underlying tb=some .bool) (hl:laidOutB P=true) (hts:∀ t ∈ fn.params.toList,P.readableRec t=true∧t < P.types.size) :
  Calls P f args W fun e W'=>∃ v,e=.returned v∧s.post enc P fn false true false false W args v W':=by
 have hc:=hT W [] (by simpa using GB W)
 refine hc.mono ?_
 rintro e W' ⟨v,H',O',rfl,⟨rfl,rfl⟩,hle,hm⟩
 refine⟨_,rfl,?_⟩
 have hk:Kept W W':=⟨by rw[hm.env,hle.2];rfl,fun b o hb=>hm.pers b o (hle.1 b o hb)⟩
 have hW':=hW
 obtain⟨p,q,h1,h2,h3,h4,h5⟩:=hW
 rw[hv] at h2
 have hq:q=[]:=h2
 subst hq
 subst h3
 have hlt:∀ x ∈ p,x.block < W.heap.size:=fun x hx=>hW'.lt x (by simp[hx])
 refine⟨ds,[],p++[],[],p,[],hW',?_,?_,?_,hk.keptBut _,fun h=>by cases h⟩
 ·rw[List.append_nil,hs,hrt]
  exact trodAll_mk1 (RowKit.shut_bool htb true)
 ·rw[List.append_nil,hs]
  exact hk.trodAll hl (B:=0) hts h1 hlt
 ·rw[List.append_nil,hs,hv];rfl
theorem MQ {n:Nat} {e t:TypeId} {r:Reach} {v:Value} (ht:P.underlying t=some (.array n e)) (h:Value.okWide P w r base t v):∃ cs,v=.agg cs∧cs.size=P.cellsOf t:=by
 simp only[Value.okWide,ht] at h
 obtain⟨cs,h1,h2,_⟩:=h
 exact⟨cs,h1,h2⟩
end Go.Sx
namespace Go.Sx
open Go
def Leaf (P:Program) (H:Heap) (t:TypeId) (c:Value):Prop:=∃ k,Wf P H k t [c]
def Dp (P:Program) (rec:TypeId→Option (List TypeId)):List Field→Nat→Option (List TypeId)
 | [],_=>some []
 | f::r,o=>if f.offset=o then
   match rec f.type,Dp P rec r (o + P.cellsOf f.type) with
   | some a,some b=>if a.length=P.cellsOf f.type then some (a++b) else none
   | _,_=>none
  else none
def jk (P:Program):Nat→TypeId→Option (List TypeId)
 | 0,_=>none
 | n + 1,t =>
  match P.underlying t with
  | some (.struct fs)=>Dp P (jk P n) fs.toList 0
  | some (.array m e)=>match jk P n e with
   | some l=>if l.length=P.cellsOf e then some (List.replicate m l).flatten else none
   | none=>none
  | some .bool | some (.int _) | some .string | some (.slice _)=>some [t]
  | _=>none
theorem ye {cs:List Value} {o m i:Nat} (h:i < m):((cs.drop o).take m)[i]?=cs[o + i]?:=by
 rw[List.getElem?_take,if_pos h,List.getElem?_drop]
theorem DC {l:List TypeId} {s:Nat} (hs:l.length=s):∀ {m i:Nat} {t:TypeId},(List.replicate m l).flatten[i]?=some t→∃ q r,q < m∧r < s∧i=q * s + r∧l[r]?=some t
 | 0,i,t,h=>by simp at h
 | m + 1,i,t,h=>by
  rw[List.replicate_succ,List.flatten_cons] at h
  by_cases hi:i < l.length
  ·rw[List.getElem?_append_left hi] at h
   exact⟨0,i,by omega,by omega,by omega,h⟩
  ·rw[List.getElem?_append_right (by omega)] at h
   obtain⟨q,r,h1,h2,h3,h4⟩:=DC hs h
   refine⟨q + 1,r,by omega,h2,?_,h4⟩
   rw[Nat.add_mul];omega
theorem IG {P:Program} {H:Heap} {k n:Nat} {cs:List Value} (ih:∀ {t:TypeId} {ds:List Value} {ls:List TypeId},jk P n t=some ls→Wf P H k t ds→∀ (i:Nat) l,ls[i]?=some l→∃ c,ds[i]?=some c∧Leaf P H l c) :
  ∀ {fs:List Field} {o:Nat} {ls:List TypeId},Dp P (jk P n) fs o=some ls→(∀ f ∈ fs,Wf P H k f.type ((cs.drop f.offset).take (P.cellsOf f.type)))→∀ (i:Nat) l,ls[i]?=some l→∃ c,cs[o + i]?=some c∧Leaf P H l c
 | [],o,ls,h,_,i,l,hi=>by simp only[Dp,Option.some.injEq] at h;subst h;simp at hi
 | f::r,o,ls,h,hw,i,l,hi=>by
  simp only[Dp] at h
  split at h
  ·rename_i hoff
   split at h
   ·rename_i a b ha hb
    split at h
    ·rename_i hlen
     simp only[Option.some.injEq] at h;subst h
     by_cases hia:i < a.length
     ·rw[List.getElem?_append_left hia] at hi
      obtain⟨c,hc,hl⟩:=ih ha (hw f (by simp)) i l hi
      rw[ye (by omega),hoff] at hc
      exact⟨c,hc,hl⟩
     ·rw[List.getElem?_append_right (by omega)] at hi
      obtain⟨c,hc,hl⟩:=IG ih hb (fun f hf=>hw f (by simp[hf])) (i - a.length) l hi
      rw[show o + P.cellsOf f.type + (i - a.length)=o + i by omega] at hc
      exact⟨c,hc,hl⟩
    ·simp at h
   ·simp at h
  ·simp at h
theorem BD {P:Program} {H:Heap}:∀ {n k:Nat} {t:TypeId} {ds:List Value} {ls:List TypeId},jk P n t=some ls→Wf P H k t ds→∀ (i:Nat) l,ls[i]?=some l→∃ c,ds[i]?=some c∧Leaf P H l c
  | 0,_,_,_,_,h,_,_,_,_=>by simp[jk] at h
  | n + 1,0,_,_,_,_,hw,_,_,_=>hw.elim
  | n + 1,k + 1,t,ds,ls,h,hw,i,l,hi=>by
    have hw0:=hw
    unfold Wf at hw
    simp only[jk] at h
    split at h
    · rename_i fs hu
      rw[hu] at hw
      have:=IG (cs:=ds) (k:=k) (fun {t ds ls}=>BD (n:=n) (k:=k)) h hw.2 i l hi
      rwa [Nat.zero_add] at this
    · rename_i m e hu
      rw[hu] at hw
      split at h
      · rename_i a ha
        split at h
        · rename_i hlen
          simp only[Option.some.injEq] at h;subst h
          obtain⟨q,r,h1,h2,rfl,h4⟩:=DC hlen hi
          obtain⟨c,hc,hl⟩:=BD ha (hw.2 q h1) r l h4
          rw[ye h2] at hc
          exact⟨c,hc,hl⟩
        · simp at h
      · simp at h
    all_goals first
      | (simp at h;done)
      | (rename_i hu
         simp only[Option.some.injEq] at h;subst h
         cases i with
         | succ i=>simp at hi
         | zero =>
           simp only[List.getElem?_cons_zero,Option.some.injEq] at hi;subst hi
           rw[hu] at hw
           first
             | (obtain⟨x,rfl⟩:=hw;exact⟨_,rfl,k + 1,hw0⟩)
             | (obtain⟨x,rfl,h1⟩:=hw;exact⟨_,rfl,k + 1,hw0⟩)
             | (obtain⟨x,y,rfl,h1⟩:=hw;exact⟨_,rfl,k + 1,hw0⟩))
theorem Leaf.int {P:Program} {H:Heap} {t:TypeId} {k:IntKind} {c:Value} (hu:P.underlying t=some (.int k)) (h:Leaf P H t c):∃ x,c=.int k x∧k.min≤x∧x≤k.max:=by
 obtain⟨n,h⟩:=h
 cases n with
 | zero=>exact h.elim
 | succ n=>unfold Wf at h;rw[hu] at h;obtain⟨x,h1,h2⟩:=h;exact⟨x,(List.cons.inj h1).1,h2⟩
theorem Leaf.bool {P:Program} {H:Heap} {t:TypeId} {c:Value} (hu:P.underlying t=some .bool) (h:Leaf P H t c):∃ x,c=.bool x:=by
 obtain⟨n,h⟩:=h
 cases n with
 | zero=>exact h.elim
 | succ n=>unfold Wf at h;rw[hu] at h;obtain⟨x,h1⟩:=h;exact⟨x,(List.cons.inj h1).1⟩
theorem Leaf.str {P:Program} {H:Heap} {t:TypeId} {c:Value} (hu:P.underlying t=some .string) (h:Leaf P H t c):∃ l,c=Str l∧l.length < 2 ^ 63:=by
 obtain⟨n,h⟩:=h
 cases n with
 | zero=>exact h.elim
 | succ n=>unfold Wf at h;rw[hu] at h;obtain⟨x,h1,h2⟩:=h;exact⟨x,(List.cons.inj h1).1,h2⟩
theorem Leaf.slice {P:Program} {H:Heap} {t e:TypeId} {c:Value} (hu:P.underlying t=some (.slice e)) (h:Leaf P H t c):∃ rows,Sl H (P.cellsOf e) c rows∧∃ n,∀ r ∈ rows,Wf P H n e r:=by
 obtain⟨n,h⟩:=h
 cases n with
 | zero=>exact h.elim
 | succ n =>
  unfold Wf at h;rw[hu] at h
  obtain⟨s,rows,h1,h2,h3⟩:=h
  obtain rfl:=(List.cons.inj h1).1
  exact⟨rows,h2,n,h3⟩
theorem NP {P:Program} {T:Type} {enc:TypeId × Value→T} {w:World} {base:Nat} {sp:Nat→Bool} {held:Bool} {t:TypeId} {r:Reach} {v:Value} {d:DataW T} {p:List MemPlace} {ls:List TypeId} (n:Nat) (hl:jk P n t=some ls)
  (hsk:gP P=true) (htl:Nat.blt t P.types.size=true) (hA:eS P t=true) (hc:P.cellsOf t=ls.length) (hv:Value.okWide P w r base t v) (h:DataW.Trod enc P w 0 sp held t v d p) :
  ∃ cs,v=.agg cs.toArray∧cs.length=ls.length∧Ones cs∧∀ i l,ls[i]?=some l→Leaf P (yd w) l (g cs i):=by
 have htl:t < P.types.size:=Nat.le_of_ble_eq_true htl
 have hcs:∃ cs,v=.agg cs∧cs.size=P.cellsOf t:=by
  unfold eS at hA
  split at hA
  ·rename_i hu;exact WideShapes.okWide_struct hu hv
  ·rename_i hu;exact MQ hu hv
  ·cases hA
 obtain⟨cs,rfl,hs⟩:=hcs
 obtain⟨fuel,hf⟩:=h
 refine⟨cs.toList,by simp,by simp only[Array.length_toList];omega,xj hsk htl hf,fun i l hi=>?_⟩
 obtain⟨c,h1,h2⟩:=BD hl (pW hsk htl hf) i l hi
 have h1':cs.toList[i]?=some c:=h1
 rw[Qh h1'];exact h2
def OSl (e:TypeId) (size:Nat) (v:Value) (rows:List (List Value)) (O:Own):Prop :=
 ((∃ a,v=.slice a 0 0)∧rows=[]∧O=[]) ∨
 ∃ (r:Nat) (cs:List Value) (cap:Nat),v=.slice (some ⟨r,0,none⟩) rows.length cap∧O=[(r,.cells cs.toArray e (0,0))]∧cs.length=cap * size∧rows.length≤cap∧cap < 2 ^ 63 ∧
  (∀ row ∈ rows,row.length=size)∧(∀ row ∈ rows,Ones row)∧cs.take (rows.length * size)=rows.flatten
theorem OSl.nil (e:TypeId) (size:Nat):OSl e size (.slice none 0 0) [] []:=.inl ⟨⟨none,rfl⟩,rfl,rfl⟩
theorem OSl.one {e:TypeId} {size:Nat} {v:Value} {rows:List (List Value)} {O:Own} (h:OSl e size v rows O):v.oneCell'=true:=by
 rcases h with ⟨⟨a,rfl⟩,_⟩ | ⟨r,cs,cap,rfl,_⟩ <;> rfl
theorem OSl.len {e:TypeId} {size:Nat} {v:Value} {rows:List (List Value)} {O:Own} (h:OSl e size v rows O):ak .len [v]=some (.int .i64 rows.length):=by
 rcases h with ⟨⟨a,rfl⟩,rfl,_⟩ | ⟨r,cs,cap,rfl,_⟩ <;> rfl
theorem OSl.lenB {e:TypeId} {size:Nat} {v:Value} {rows:List (List Value)} {O:Own} (h:OSl e size v rows O):rows.length < 2 ^ 63:=by
 rcases h with ⟨⟨a,rfl⟩,rfl,_⟩ | ⟨r,cs,cap,rfl,_,_,h1,h2,_⟩
 ·simp
 ·omega
theorem eE {size:Nat}:∀ {rows:List (List Value)},(∀ row ∈ rows,row.length=size)→rows.flatten.length=rows.length * size
 | [],_=>by simp
 | r::rs,h=>by
  rw[List.flatten_cons,List.length_append,eE (fun x hx=>h x (by simp[hx])),h r (by simp),List.length_cons,Nat.add_mul];omega
theorem iZ {size:Nat}:∀ {rows:List (List Value)} {i:Nat} {row:List Value},(∀ row ∈ rows,row.length=size)→rows[i]?=some row→(rows.flatten.drop (i * size)).take size=row
 | [],i,row,_,h=>by simp at h
 | r::rs,0,row,hl,h=>by
  simp at h;subst h
  have:r.length=size:=hl r (by simp)
  simp[this]
 | r::rs,i + 1,row,hl,h=>by
  have hr:r.length=size:=hl r (by simp)
  rw[List.flatten_cons,Nat.add_mul,Nat.one_mul,Nat.add_comm,← List.drop_drop,← hr,List.drop_left,hr]
  exact iZ (fun x hx=>hl x (by simp[hx])) (by simpa using h)
theorem Ones.drop {vs:List Value} (h:Ones vs) (n:Nat):Ones (vs.drop n):=nO fun v hv=>iP h v (List.mem_of_mem_drop hv)
theorem Ones.take {vs:List Value} (h:Ones vs) (n:Nat):Ones (vs.take n):=nO fun v hv=>iP h v (List.mem_of_mem_take hv)
theorem OSl.rows_ok {e:TypeId} {size:Nat} {v:Value} {rows:List (List Value)} {O:Own} (h:OSl e size v rows O) {i:Nat} {row:List Value} (hr:rows[i]?=some row):row.length=size∧Ones row:=by
 rcases h with ⟨⟨a,rfl⟩,rfl,_⟩ | ⟨r,cs,cap,rfl,_,_,_,_,hl,ho,ht⟩
 ·simp at hr
 ·exact⟨hl row (List.mem_of_getElem? hr),ho row (List.mem_of_getElem? hr)⟩
theorem OSl.idx {e:TypeId} {size:Nat} {v:Value} {rows:List (List Value)} {O1 O:Own} (h:OSl e size v rows O1) (hO:∀ p ∈ O1,p ∈ O) (H:Heap) {k:IntKind} {i:Nat} {row:List Value} (hr:rows[i]?=some row) :
  ∃ a,ak (.idx size) [v,.int k i]=some (.pointer (some a))∧a.spot=none∧Reads H O (.pointer (some a)) size row∧∀ off m,off + m≤size→Reads H O (aO (.pointer (some a)) off) m ((row.drop off).take m):=by
 have hrow:=h.rows_ok hr
 rcases h with ⟨⟨a,rfl⟩,rfl,_⟩ | ⟨r,cs,cap,rfl,rfl,hcl,hlc,_,hl,ho,ht⟩
 ·simp at hr
 ·have hlt:i < rows.length:=(List.getElem?_eq_some_iff.1 hr).1
  have hfl:=iZ hl hr
  have hmul:(i + 1) * size≤rows.length * size:=Nat.mul_le_mul_right _ hlt
  have hmul2:rows.length * size≤cap * size:=Nat.mul_le_mul_right _ hlc
  rw[Nat.add_mul,Nat.one_mul] at hmul
  have hget:(cs.drop (i * size)).take size=row:=by
   rw[← hfl,← ht,List.drop_take,List.take_take,Nat.min_eq_left (by omega)]
  refine⟨⟨r,i * size,none⟩,?_,rfl,.inr ⟨_,cs.toArray,e,rfl,rfl,hO _ (by simp),by simpa using hget,hrow.1⟩,fun off m hle=>.inr ⟨⟨r,i * size + off,none⟩,cs.toArray,e,?_,rfl,hO _ (by simp),?_,?_⟩⟩
  ·simp only[ak,uj]
   rw[if_pos ⟨by omega,by omega⟩,cL]
   simp
  ·show Value.pointer (some ((⟨r,i * size,none⟩:Addr).add off))=_
   rw[cL]
  ·rw[← hget,List.drop_take,List.take_take,Nat.min_eq_left (by omega),List.drop_drop]
  ·rw[List.length_take,List.length_drop];omega
theorem ap {P:Program} {p:Value} {m:Nat} {vs:List Value} {k:List Value→Tree} {H:Heap} {O:Own} {Q:Value→Heap→Own→Prop} (h:Reads H O p m vs) (hl:vs.length=m) (ho:Ones vs)
  (hk:(k vs).den P Q H O):(Tree.load [] p m k).den P Q H O:=⟨vs,hl,ho,fun _=>h,hk⟩
theorem OSl.store {e:TypeId} {size:Nat} {v:Value} {rows:List (List Value)} {O1 O2 O:Own} (h:OSl e size v rows O1) (hO:O.Perm (O1++O2)) {k:IntKind} {i:Nat} {row:List Value} (hr:rows[i]?=some row) :
  ∃ a,ak (.idx size) [v,.int k i]=some (.pointer (some a))∧∀ off ys,off + ys.length≤size→Ones ys→∃ O1',vm O (aO (.pointer (some a)) off) ys (O1'++O2)∧OSl e size v (rows.set i (cj row off ys)) O1':=by
 have hrow:=h.rows_ok hr
 rcases h with ⟨⟨a,rfl⟩,rfl,_⟩ | ⟨r,cs,cap,rfl,rfl,hcl,hlc,hcap,hl,ho,ht⟩
 ·simp at hr
 ·have hlt:i < rows.length:=(List.getElem?_eq_some_iff.1 hr).1
  have hfl:=iZ hl hr
  have hmul:(i + 1) * size≤rows.length * size:=Nat.mul_le_mul_right _ hlt
  have hmul2:rows.length * size≤cap * size:=Nat.mul_le_mul_right _ hlc
  rw[Nat.add_mul,Nat.one_mul] at hmul
  refine⟨⟨r,i * size,none⟩,?_,fun off ys hle hys=>⟨[(r,.cells (cj cs (i * size + off) ys).toArray e (0,0))],⟨⟨r,i * size + off,none⟩,cs.toArray,e,O2,?_,rfl,hO,?_,?_⟩,.inr ⟨r,cj cs (i * size + off) ys,cap,?_,rfl,?_,?_,hcap,?_,?_,?_⟩⟩⟩
  ·simp only[ak,uj]
   rw[if_pos ⟨by omega,by omega⟩,cL]
   simp
  ·show Value.pointer (some ((⟨r,i * size,none⟩:Addr).add off))=_
   rw[cL]
  ·simp;omega
  ·simp
  ·simp
  ·simp only[cj,List.length_append,List.length_take,List.length_drop];omega
  ·simpa using hlc
  ·intro x hx
   rcases List.mem_or_eq_of_mem_set hx with hx | rfl
   ·exact hl x hx
   ·simp only[cj,List.length_append,List.length_take,List.length_drop];omega
  ·intro x hx
   rcases List.mem_or_eq_of_mem_set hx with hx | rfl
   ·exact ho x hx
   ·simp only[cj]
    exact Ones.append.2 ⟨Ones.append.2 ⟨hrow.2.take _,hys⟩,hrow.2.drop _⟩
  ·
   have key:∀ (rows:List (List Value)) (i:Nat) (cs:List Value),(∀ row ∈ rows,row.length=size)→rows[i]?=some row→cs.take (rows.length * size)=rows.flatten→rows.length * size≤cs.length →
     (cj cs (i * size + off) ys).take (rows.length * size)=(rows.set i (cj row off ys)).flatten:=by
    intro rows
    induction rows with
    | nil=>intro i cs _ h;simp at h
    | cons r0 rs ih =>
     intro i cs hl hi ht hcl
     have hr0:r0.length=size:=hl r0 (by simp)
     rw[List.length_cons,Nat.add_mul,Nat.one_mul,List.flatten_cons] at ht
     rw[List.length_cons,Nat.add_mul,Nat.one_mul] at hcl
     have e0:cs.take size=r0:=by
      have:=congrArg (fun l=>l.take size) ht
      simpa [List.take_take,hr0,Nat.min_eq_left] using this
     have e1:(cs.drop size).take (rs.length * size)=rs.flatten:=by
      have:=congrArg (fun l=>l.drop size) ht
      rw[List.drop_take] at this
      simpa [hr0] using this
     cases i with
     | zero =>
      simp only[List.getElem?_cons_zero,Option.some.injEq] at hi
      subst hi
      simp only[List.set_cons_zero,List.length_cons,List.flatten_cons,Nat.zero_mul,Nat.zero_add]
      have:cj cs off ys=cj r0 off ys++cs.drop size:=by
       simp only[cj]
       rw[← e0,List.take_take,Nat.min_eq_left (by omega),List.drop_take,List.append_assoc,List.append_assoc,List.append_assoc]
       congr 2
       rw[show cs.drop size=(cs.drop (off + ys.length)).drop (size - (off + ys.length)) by rw[List.drop_drop];congr 1;omega,List.take_append_drop]
      rw[this,Nat.add_mul,Nat.one_mul,Nat.add_comm,List.take_append]
      have hsl:(cj r0 off ys).length=size:=by simp only[cj,List.length_append,List.length_take,List.length_drop];omega
      rw[hsl,Nat.add_sub_cancel_left,e1,List.take_of_length_le (by omega)]
     | succ i =>
      have hi':rs[i]?=some row:=by simpa using hi
      have:=ih i (cs.drop size) (fun x hx=>hl x (by simp[hx])) hi' e1 (by rw[List.length_drop];omega)
      simp only[List.set_cons_succ,List.length_cons,List.flatten_cons]
      rw[← this]
      have e2:cj cs ((i + 1) * size + off) ys=cs.take size++cj (cs.drop size) (i * size + off) ys:=by
       simp only[cj]
       rw[← List.append_assoc,← List.append_assoc,List.drop_drop]
       congr 1
       ·congr 1
        rw[show (i + 1) * size + off=size + (i * size + off) by rw[Nat.add_mul];omega,List.take_add]
       ·congr 1;rw[Nat.add_mul];omega
      rw[e2,e0,Nat.add_mul,Nat.one_mul,Nat.add_comm,List.take_append,hr0,Nat.add_sub_cancel_left,List.take_of_length_le (by omega)]
   have:=key rows i cs hl hr ht (by omega)
   simpa using this
theorem OSl.freeze {e:TypeId} {size:Nat} {v:Value} {rows:List (List Value)} {O1 X:Own} {H:Heap} (h:OSl e size v rows O1) (hc:Cons H (O1++X)):∃ H',Ghost H (O1++X) H' X∧Sl H' size v rows∧Heap.le H H':=by
 rcases h with ⟨⟨a,rfl⟩,rfl,rfl⟩ | ⟨r,cs,cap,rfl,rfl,hcl,hlc,hcap,hl,ho,ht⟩
 ·exact⟨H,Ghost.refl _ _,⟨a,0,rfl,Nat.le_refl _,by omega,fun h=>absurd rfl h⟩,Heap.le_refl H⟩
 ·have hn:H r=none:=hc.none (p:=(r,.cells cs.toArray e (0,0))) (by simp)
  refine⟨H.ins r (.cells cs.toArray e (0,0)),Ghost.freeze H r _ X,⟨_,cap,rfl,hlc,hcap,fun _=>⟨_,rfl,fun i row hr=>?_⟩⟩,Heap.le_ins H r _⟩
  have hb:(H.ins r (.cells cs.toArray e (0,0))) r=some (.cells cs.toArray e (0,0)):=by simp only[Heap.ins,hn,if_true]
  have hlt:i < rows.length:=(List.getElem?_eq_some_iff.1 hr).1
  have hmul:(i + 1) * size≤rows.length * size:=Nat.mul_le_mul_right _ hlt
  have hmul2:rows.length * size≤cap * size:=Nat.mul_le_mul_right _ hlc
  rw[Nat.add_mul,Nat.one_mul] at hmul
  refine⟨?_,hl row (List.mem_of_getElem? hr),ho row (List.mem_of_getElem? hr)⟩
  rw[cL,Nat.zero_add,qp hb (by omega),← iZ hl hr,← ht,List.drop_take,List.take_take,Nat.min_eq_left (by omega)]
def Jk (P:Program) (t e:TypeId) (size bytes:Nat):Bool :=
 match P.underlying t,P.info? e with
 | some (.slice e'),some i=>e' == e && i.size == size && i.bytes == bytes && (i.zero.map fun z=>z.cells.size == size).getD false && decide (0 < size)
 | _,_=>false
theorem HD {size:Nat} {a:Addr} {news:List (List Value)} {H:Heap} {w:World} {O:Own} (h0:0 < size) (hA:news ≠ []→Arr H size a news) (hm:Models w H O) :
  (∀ row ∈ news,row.length=size∧Ones row)∧∀ j u,news.flatten[j]?=some u→w.cell? (a.add j)=some u:=by
 have hnl:∀ row ∈ news,row.length=size∧Ones row:=fun row hr=>by
  obtain⟨i,hi⟩:=List.mem_iff_getElem?.1 hr
  exact (hA (by intro e;rw[e] at hr;simp at hr) i row hi).2
 refine⟨hnl,fun j u hj=>?_⟩
 have hne:news ≠ []:=by intro e;rw[e] at hj;simp at hj
 have hjl:j < news.length * size:=by
  have:=(List.getElem?_eq_some_iff.1 hj).1
  rwa [eE fun r hr=>(hnl r hr).1] at this
 have hq:j / size < news.length:=(Nat.div_lt_iff_lt_mul h0).2 hjl
 obtain⟨hr1,hr2,_⟩:=hA hne (j / size) news[j / size] (List.getElem?_eq_getElem hq)
 have hfg:=iZ (fun r hr=>(hnl r hr).1) (List.getElem?_eq_getElem hq)
 have hdm:size * (j / size) + j % size=j:=Nat.div_add_mod j _
 have hu2:news[j / size][j % size]?=some u:=by
  rw[← hfg,List.getElem?_take,if_pos (Nat.mod_lt _ h0),List.getElem?_drop,Nat.mul_comm,hdm,hj]
 simp only[Heap.read] at hr1
 obtain⟨k,hk,hc⟩:=xZ hr1 (j % size) u hu2
 have:k=j % size:=by
  rw[List.getElem?_range (Nat.mod_lt _ h0)] at hk
  simpa using hk.symm
 subst this
 have:=hm.cell? hc
 rwa [D8,Nat.mul_comm,hdm] at this
theorem Pn {w w':World} {H:Heap} {F:Own} {e:TypeId} {size:Nat} {v':Value} {rows:List (List Value)} (hm:Models w H F) (hrows:∀ row ∈ rows,row.length=size∧Ones row)
  (ho:w'.ownsRow w.heap.size e size v' rows.length rows.flatten) (hg:w.grownBy w' none):∃ O',OSl e size v' rows O'∧Models w' H (O'++F):=by
 have hlt:∀ b (o:Obj),w.heap[b]?=some o→b < w.heap.size:=fun b o hb=>(Array.getElem?_eq_some_iff.1 hb).1
 have hother:∀ b (o:Obj),w.heap[b]?=some o→w'.heap[b]?=some o:=fun b o hb=>by
  rw[hg.block b (hlt b o hb) (by simp)];exact hb
 have henv:pR w'=pR w:=by simp only[pR,hg.os,hg.tape,hg.output]
 rcases ho.2 with ⟨rfl,hn0⟩ | ⟨gb,cap',cur,rfl,hgb0,hgb,hnc,hcm,hcs,htk⟩
 ·exact⟨[],.inl ⟨⟨none,rfl⟩,List.eq_nil_of_length_eq_zero hn0,rfl⟩,⟨fun b o hb=>hother b o (hm.pers b o hb),fun p hp=>⟨hother _ _ (hm.own p (by simpa using hp)).1,(hm.own p (by simpa using hp)).2⟩,by simpa using hm.nodup,henv.trans hm.env⟩⟩
 ·refine⟨[(gb,.cells cur e (0,0))],.inr ⟨gb,cur.toList,cap',rfl,by simp,by simpa using hcs,hnc,by simp only[maxLen] at hcm;omega,fun r hr=>(hrows r hr).1,fun r hr=>(hrows r hr).2,htk⟩,
   ⟨fun b o hb=>hother b o (hm.pers b o hb),fun p hp=>?_,?_,henv.trans hm.env⟩⟩
  ·rcases List.mem_append.1 hp with hp | hp
   ·simp at hp;subst hp
    refine⟨hgb,?_⟩
    cases hH:H gb with
    | none=>rfl
    | some o=>have:=hlt _ _ (hm.pers _ _ hH);omega
   ·exact⟨hother _ _ (hm.own p hp).1,(hm.own p hp).2⟩
  ·simp only[List.cons_append,List.nil_append,List.map_cons,List.nodup_cons]
   refine⟨fun hmem=>?_,hm.nodup⟩
   obtain⟨p,hp,he⟩:=List.mem_map.1 hmem
   have:=hlt _ _ (hm.own p hp).1
   omega
theorem append_empty {P:Program} {t ty e:TypeId} {size bytes:Nat} (ha:Jk P t e size bytes=true) {va:Option Addr} {x:Value} {news:List (List Value)} {H:Heap} (hs:Sl H size x news)
  (hb:news.length * bytes≤140737488355328) (h63:news.length < 2 ^ 63) :
  bW P ((PrimOp.bi .append #[t,t] ty).sem [.slice va 0 0,x]) H [] fun v' H' O'=>H'=H∧OSl e size v' news O':=by
 unfold Jk at ha
 split at ha
 ·rename_i e' i hu hi
  simp only[Bool.and_eq_true,beq_iff_eq,decide_eq_true_eq] at ha
  obtain⟨⟨⟨⟨rfl,hsz⟩,hby⟩,hz⟩,h0⟩:=ha
  intro w F hm
  simp only[List.nil_append] at hm
  obtain⟨xa,xcap,rfl,hx1,hx2,hx3⟩:=hs
  by_cases hne:news=[]
  ·subst hne
   have:(Builtin.append_ #[t,t] ty #[.slice va 0 0,.slice xa 0 xcap]).run P w=.ok (.slice va 0 0) w:=by
    cases va <;> cases xa <;> simp[Builtin.append_,run_underlying hu,sizeOf,typeInfo,hi,Builtin.lenOf,Builtin.firstCells,storeCells,loadCells,loadCellsFrom]
   refine⟨.slice va 0 0,w,H,[],?_,⟨rfl,.inl ⟨⟨va,rfl⟩,rfl,rfl⟩⟩,Heap.le_refl H,by simpa using hm⟩
   simp only[PrimOp.sem,builtin,List.length_nil]
   rw[Sem.run_bind,this]
   rfl
  ·obtain⟨a,rfl,hA⟩:=hx3 hne
   obtain⟨hnl,hcells⟩:=HD (H:=H) h0 (fun _=>hA) hm
   have hpos:0 < news.length:=List.length_pos_iff.2 hne
   cases hzz:i.zero with
   | none=>rw[hzz] at hz;simp at hz
   | some z =>
    rw[hzz] at hz
    simp only[Option.map_some,Option.getD_some,beq_iff_eq] at hz
    have hfl:=eE fun r hr=>(hnl r hr).1
    have hones:∀ u ∈ news.flatten,u.oneCell'=true:=by
     intro u hu
     obtain⟨r,hr,hur⟩:=List.mem_flatten.1 hu
     exact iP (hnl r hr).2 u hur
    obtain⟨v',w',hrun,ho,hg⟩:∃ v' w',(Builtin.append_ #[t,t] ty #[.slice va 0 0,.slice (some a) news.length xcap]).run P w=.ok v' w'∧w'.ownsRow w.heap.size e' size v' news.length news.flatten∧w.grownBy w' none:=by
     cases va with
     | none =>
      obtain⟨v',w',h1,h2,h3,_⟩:=run_append_own_at (P:=P) w w.heap.size t ty e' i z size bytes hu hi hzz hsz hby hz h0 (.slice none 0 0) 0 [] (World.ownsRow_nil w _ e' size) a news.length xcap news.flatten hfl hcells hones (by simp only[maxLen];omega) (by simpa using hb) (Nat.le_refl _)
      exact⟨v',w',h1,by simpa using h2,h3⟩
     | some b =>
      obtain⟨v',w',h1,h2,h3⟩:=run_append_arg_grows (P:=P) w t ty e' i z size bytes hu hi hzz hsz hby hz h0 b 0 0 [] (by simp) (by simp) a news.length xcap news.flatten hfl hcells (by omega) (by simp only[maxLen];omega) (by simpa using hb)
      exact⟨v',w',h1,by simpa using h2,h3⟩
    obtain⟨O',h1,h2⟩:=Pn hm hnl ho hg
    refine⟨v',w',H,O',?_,⟨rfl,h1⟩,Heap.le_refl H,h2⟩
    simp only[PrimOp.sem,builtin]
    rw[Sem.run_bind,hrun]
    rfl
 ·cases ha
theorem OSl.ownsRow {e:TypeId} {size:Nat} {v:Value} {rows:List (List Value)} {O1 F:Own} {H:Heap} {w:World} (h:OSl e size v rows O1) (hne:O1 ≠ []) (hm:Models w H (O1++F)):w.ownsRow 0 e size v rows.length rows.flatten:=by
 rcases h with ⟨⟨a,rfl⟩,rfl,rfl⟩ | ⟨r,cs,cap,rfl,rfl,hcl,hlc,hcap,hl,ho,ht⟩
 ·exact absurd rfl hne
 ·refine⟨eE hl,.inr ⟨r,cap,cs.toArray,rfl,Nat.zero_le _,(hm.own (r,.cells cs.toArray e (0,0)) (by simp)).1,hlc,by simp only[maxLen];omega,by simpa using hcl,by simpa using ht⟩⟩
theorem S5 {P:Program} {t ty e:TypeId} {size bytes:Nat} (ha:Jk P t e size bytes=true) {v x:Value} {rows news:List (List Value)} {O1:Own} {H:Heap} (h:OSl e size v rows O1) (hs:Sl H size x news)
  (hb:(rows.length + news.length) * bytes≤140737488355328) (h63:rows.length + news.length < 2 ^ 63) :
  bW P ((PrimOp.bi .append #[t,t] ty).sem [v,x]) H O1 fun v' H' O'=>H'=H∧OSl e size v' (rows++news) O':=by
 by_cases hne1:O1=[]
 ·subst hne1
  rcases h with ⟨⟨a,rfl⟩,rfl,_⟩ | ⟨r,cs,cap,_,h,_⟩
  ·exact append_empty ha hs (by simpa using hb) (by simpa using h63)
  ·cases h
 unfold Jk at ha
 split at ha
 ·rename_i e' i hu hi
  simp only[Bool.and_eq_true,beq_iff_eq,decide_eq_true_eq] at ha
  obtain⟨⟨⟨⟨rfl,hsz⟩,hby⟩,hz⟩,h0⟩:=ha
  intro w F hm
  have hnl:∀ row ∈ news,row.length=size∧Ones row:=fun row hr=>by
   obtain⟨i,hi⟩:=List.mem_iff_getElem?.1 hr
   obtain⟨a,cap,rfl,_,_,h4⟩:=hs
   obtain⟨ad,_,hA⟩:=h4 (by intro e;rw[e] at hr;simp at hr)
   exact (hA i row hi).2
  have hown:=h.ownsRow hne1 hm
  obtain⟨xa,xcap,rfl,hx1,hx2,hx3⟩:=hs
  cases xa with
  | none =>
   have hn:news=[]:=by
    by_cases hn:news=[]
    ·exact hn
    ·obtain⟨_,h,_⟩:=hx3 hn;cases h
   subst hn
   refine⟨v,w,H,O1,?_,⟨rfl,by simpa using h⟩,Heap.le_refl H,hm⟩
   have hv:∃ base n cap,v=.slice base n cap∧n≤cap:=by
    rcases h with ⟨⟨a,rfl⟩,_⟩ | ⟨r,cs,cap,rfl,_,_,hlc,_⟩
    ·exact⟨a,0,0,rfl,Nat.le_refl _⟩
    ·exact⟨_,_,cap,rfl,hlc⟩
   obtain⟨base,n,cap,rfl,hnc⟩:=hv
   have:(Builtin.append_ #[t,t] ty #[.slice base n cap,.slice none 0 xcap]).run P w=.ok (.slice base n cap) w:=by
    cases base <;> simp[Builtin.append_,run_underlying hu,sizeOf,typeInfo,hi,Builtin.lenOf,Builtin.firstCells,hnc,storeCells]
   simp only[PrimOp.sem,builtin,List.length_nil]
   rw[Sem.run_bind,this]
   rfl
  | some a =>
   cases hzz:i.zero with
   | none=>rw[hzz] at hz;simp at hz
   | some z =>
    rw[hzz] at hz
    simp only[Option.map_some,Option.getD_some,beq_iff_eq] at hz
    have hA:news ≠ []→Arr H size a news:=fun hn=>by obtain⟨_,h,hA⟩:=hx3 hn;cases h;exact hA
    have hcells:∀ j u,news.flatten[j]?=some u→w.cell? (a.add j)=some u:=by
     intro j u hj
     have hne:news ≠ []:=by intro e;rw[e] at hj;simp at hj
     have hjl:j < news.length * size:=by
      have:=(List.getElem?_eq_some_iff.1 hj).1
      rwa [eE fun r hr=>(hnl r hr).1] at this
     have hq:j / size < news.length:=(Nat.div_lt_iff_lt_mul h0).2 hjl
     obtain⟨hr1,hr2,_⟩:=hA hne (j / size) news[j / size] (List.getElem?_eq_getElem hq)
     have hfg:=iZ (fun r hr=>(hnl r hr).1) (List.getElem?_eq_getElem hq)
     have hdm:size * (j / size) + j % size=j:=Nat.div_add_mod j _
     have hu2:news[j / size][j % size]?=some u:=by
      rw[← hfg,List.getElem?_take,if_pos (Nat.mod_lt _ h0),List.getElem?_drop,Nat.mul_comm,hdm,hj]
     simp only[Heap.read] at hr1
     obtain⟨k,hk,hc⟩:=xZ hr1 (j % size) u hu2
     have:k=j % size:=by
      rw[List.getElem?_range (Nat.mod_lt _ h0)] at hk
      simpa using hk.symm
     subst this
     have:=hm.cell? hc
     rwa [D8,Nat.mul_comm,hdm] at this
    obtain⟨v',w',hrun,hown',hgr,hnil,hblk⟩:=run_append_own_at (P:=P) w 0 t ty e' i z size bytes hu hi hzz hsz hby hz h0 v rows.length rows.flatten hown a news.length xcap news.flatten
     (eE fun r hr=>(hnl r hr).1) hcells (by
      intro u hu
      obtain⟨r,hr,hur⟩:=List.mem_flatten.1 hu
      exact iP (hnl r hr).2 u hur) (by simp only[maxLen];omega) hb (Nat.zero_le _)
    have hrun':((PrimOp.bi .append #[t,t] ty).sem [v,.slice (some a) news.length xcap]).run P w=.ok (.value v') w':=by
     simp only[PrimOp.sem,builtin]
     rw[Sem.run_bind,hrun]
     rfl
    have hlenr:∀ row ∈ rows++news,row.length=size∧Ones row:=by
     intro row hr
     rcases List.mem_append.1 hr with hr | hr
     ·obtain⟨k,hk⟩:=List.mem_iff_getElem?.1 hr
      exact h.rows_ok hk
     ·exact hnl row hr
    have henv:pR w'=pR w:=by simp only[pR,hgr.os,hgr.tape,hgr.output]
    have hlt:∀ b (o:Obj),w.heap[b]?=some o→b < w.heap.size:=fun b o hb=>(Array.getElem?_eq_some_iff.1 hb).1
    have hO1:∀ p ∈ O1,v.ownBlock=some p.1:=by
     rcases h with ⟨_,_,rfl⟩ | ⟨r,cs,cap,rfl,rfl,_⟩
     ·simp
     ·intro p hp;simp at hp;subst hp;rfl
    have hv1:v.ownBlock=none→O1=[]:=by
     rcases h with ⟨_,_,rfl⟩ | ⟨r,cs,cap,rfl,rfl,_⟩
     ·exact fun _=>rfl
     ·intro h;simp[Value.ownBlock] at h
    have hv2:∀ g,v.ownBlock=some g→g < w.heap.size∧H g=none∧g ∉ F.map (·.1):=by
     rcases h with ⟨_,_,rfl⟩ | ⟨r,cs,cap,rfl,rfl,_⟩
     ·exact absurd rfl hne1
     ·intro g hg
      simp only[Value.ownBlock,Option.some.injEq] at hg
      subst hg
      have:=hm.own (r,.cells cs.toArray e' (0,0)) (by simp)
      refine⟨hlt _ _ this.1,this.2,?_⟩
      have hnd:=hm.nodup
      simp only[List.cons_append,List.nil_append,List.map_cons,List.nodup_cons] at hnd
      exact hnd.1
    have hother:∀ b (o:Obj),w.heap[b]?=some o→v.ownBlock ≠ some b→w'.heap[b]?=some o:=fun b o hb hne=>by
     rw[hgr.block b (hlt b o hb) (fun e=>hne e.symm)];exact hb
    have hpers:∀ b (o:Obj),H b=some o→w'.heap[b]?=some o:=fun b o hb=>hother b o (hm.pers b o hb) fun e=>by
     have:=(hv2 b e).2.1;rw[hb] at this;cases this
    have hF:∀ p ∈ F,w'.heap[p.1]?=some p.2∧H p.1=none:=fun p hp=>by
     have:=hm.own p (List.mem_append_right _ hp)
     exact⟨hother p.1 p.2 this.1 fun e=>(hv2 _ e).2.2 (List.mem_map_of_mem hp),this.2⟩
    have hFnd:(F.map (·.1)).Nodup:=by
     have:=hm.nodup
     rw[List.map_append] at this
     exact (List.nodup_append.1 this).2.1
    rcases hown'.2 with ⟨rfl,hn0⟩ | ⟨gb,cap',cur,rfl,_,hgb,hnc,hcm,hcs,htk⟩
    ·have hr0:rows++news=[]:=List.eq_nil_of_length_eq_zero (by rw[List.length_append];exact hn0)
     exact⟨_,w',H,[],hrun',⟨rfl,.inl ⟨⟨none,rfl⟩,hr0,rfl⟩⟩,Heap.le_refl H,⟨hpers,fun p hp=>hF p (by simpa using hp),by simpa using hFnd,henv.trans hm.env⟩⟩
    ·have hgn:H gb=none∧gb ∉ F.map (·.1):=by
      rcases hblk with hb | hb
      ·simp only[Value.ownBlock] at hb
       exact (hv2 gb hb.symm).2
      ·simp only[Value.ownBlock,Option.some.injEq] at hb
       subst hb
       refine⟨?_,fun hmem=>?_⟩
       ·cases hH:H w.heap.size with
        | none=>rfl
        | some o=>have:=hlt _ _ (hm.pers _ _ hH);omega
       ·obtain⟨p,hp,he⟩:=List.mem_map.1 hmem
        have:=hlt _ _ (hm.own p (List.mem_append_right _ hp)).1
        omega
     refine⟨_,w',H,[(gb,.cells cur e' (0,0))],hrun',⟨rfl,.inr ⟨gb,cur.toList,cap',by rw[List.length_append],by simp,by simpa using hcs,by rw[List.length_append];exact hnc,by simp only[maxLen] at hcm;omega,
      fun r hr=>(hlenr r hr).1,fun r hr=>(hlenr r hr).2,by rw[List.length_append,List.flatten_append];exact htk⟩⟩,Heap.le_refl H,⟨hpers,fun p hp=>?_,?_,henv.trans hm.env⟩⟩
     ·rcases List.mem_append.1 hp with hp | hp
      ·simp at hp;subst hp;exact⟨hgb,hgn.1⟩
      ·exact hF p hp
     ·simp only[List.cons_append,List.nil_append,List.map_cons,List.nodup_cons]
      exact⟨hgn.2,hFnd⟩
 ·cases ha
theorem aC {P:Program} {t ty e:TypeId} {size bytes:Nat} (ha:Jk P t e size bytes=true) {v x:Value} {rows news:List (List Value)} {O O1 O2:Own} {H:Heap} {frz:List BV} {K:List Value→List (List Value)→Heap→Own→Prop}
  (hO:O.Perm (O1++O2)) (h:OSl e size v rows O1) (hs:∀ Hf,Heap.le H Hf→(∀ b ∈ frz,Hf b.r=some b.obj.2)→Sl Hf size x news) (hb:(rows.length + news.length) * bytes≤140737488355328) (h63:rows.length + news.length < 2 ^ 63)
  (hk:∀ v' O1' H',Heap.le H H'→OSl e size v' (rows++news) O1'→K [v'] [] H' (O1'++O2)) :
  dZ (fun H1 O1 R=>bW P ((PrimOp.bi .append #[t,t] ty).sem [v,x]) H1 O1 R) false frz [] .one K H O:=by
 intro hc
 have hf:=ij hc
 refine⟨H.insAll frz,O1,O2,_,Ghost.perm hO,S5 ha h (hs _ (Heap.le_insAll frz H) hf) hb h63,?_⟩
 rintro v' H' O' ⟨rfl,ho⟩ hle
 exact⟨[v'],[],O',rfl,⟨ho.one,trivial⟩,trivial,rfl,hk v' O' _ (Heap.le_insAll frz H) ho⟩
structure RSl (H:Heap) (O:Own) (size:Nat) (v:Value) (rows:List (List Value)):Prop where
 one:v.oneCell'=true
 len:ak .len [v]=some (.int .i64 rows.length)
 lenB:rows.length < 2 ^ 63
 idx:∀ (k:IntKind) (i:Nat) (row:List Value),rows[i]?=some row→∃ a,ak (.idx size) [v,.int k i]=some (.pointer (some a))∧Reads H O (.pointer (some a)) size row ∧
  (∀ off m,off + m≤size→Reads H O (aO (.pointer (some a)) off) m ((row.drop off).take m))∧row.length=size∧Ones row
theorem Sl.rsl {H:Heap} {size:Nat} {v:Value} {rows:List (List Value)} (h:Sl H size v rows) (O:Own):RSl H O size v rows :=
 ⟨h.one,h.len,h.lenB,fun k i row hr=>by
  obtain⟨a,h1,h2,h3,h4⟩:=h.idx (k:=k) hr
  exact⟨a,h1,.inl h2,fun off m hle=>.inl (OJ h2 off m hle),h3,h4⟩⟩
theorem OSl.rsl {e:TypeId} {size:Nat} {v:Value} {rows:List (List Value)} {O1 O:Own} (h:OSl e size v rows O1) (hO:∀ p ∈ O1,p ∈ O) (H:Heap):RSl H O size v rows :=
 ⟨h.one,h.len,h.lenB,fun k i row hr=>by
  obtain⟨a,h1,_,h2,h3⟩:=h.idx hO H (k:=k) hr
  exact⟨a,h1,h2,h3,h.rows_ok hr⟩⟩
theorem RSl.le {H H':Heap} {O:Own} {size:Nat} {v:Value} {rows:List (List Value)} (h:RSl H O size v rows) (hl:Heap.le H H'):RSl H' O size v rows:=by
 have hr:∀ {p m vs},Reads H O p m vs→Reads H' O p m vs:=fun h=>h.imp (fun h=>hl.read h) id
 exact⟨h.one,h.len,h.lenB,fun k i row hi=>by
  obtain⟨a,h1,h2,h3,h4⟩:=h.idx k i row hi
  exact⟨a,h1,hr h2,fun off m hle=>hr (h3 off m hle),h4⟩⟩
theorem RSl.own {H:Heap} {O O':Own} {size:Nat} {v:Value} {rows:List (List Value)} (h:RSl H O size v rows) (ho:∀ p ∈ O,p ∈ O'):RSl H O' size v rows:=by
 have hr:∀ {p m vs},Reads H O p m vs→Reads H O' p m vs:=fun h=>h.imp id fun ⟨a,cs,T,h1,h2,h3,h4⟩=>⟨a,cs,T,h1,h2,ho _ h3,h4⟩
 exact⟨h.one,h.len,h.lenB,fun k i row hi=>by
  obtain⟨a,h1,h2,h3,h4⟩:=h.idx k i row hi
  exact⟨a,h1,hr h2,fun off m hle=>hr (h3 off m hle),h4⟩⟩
def FunB (P:Program) (fv:Value) (H:Heap) (O:Own) (args:List Value→List Value) (Dom:List Value→Prop) (p:List Value→Bool):Prop :=
 ∃ f caps,fv=.func (.func f) #[] caps∧vA P f∧∀ H',Heap.le H H'→∀ row,Dom row→RetO P f (args row++caps.toList) H' O (.bool (p row))
theorem FunB.one {P:Program} {fv:Value} {H:Heap} {O:Own} {args:List Value→List Value} {Dom:List Value→Prop} {p:List Value→Bool} (h:FunB P fv H O args Dom p):fv.oneCell'=true:=by
 obtain⟨f,caps,rfl,_⟩:=h;rfl
theorem hJ {P:Program} {fv:Value} {args:List Value} {H:Heap} {O:Own} {r:Value} {shp:Shp} {k:List Value→List (List Value)→Tree} {Q:Value→Heap→Own→Prop} {vs:List Value} {f:FuncId} {caps:Array Value}
  (hf:fv=.func (.func f) #[] caps) (hok:vA P f) (h:RetO P f (args++caps.toList) H O r) (ho:shp.open r=some vs) (h1:Ones vs) (hk:∀ H',Heap.le H H'→(k vs []).den P Q H' O) :
  (Tree.callv false fv args [] [] shp k).den P Q H O:=⟨f,caps,hf,hok,aj h ho h1 hk⟩
theorem yk {P:Program} {m:String} {x:Value} {f:FuncId} {y:Value} {args:List Value} {H:Heap} {O:Own} {r:Value} {shp:Shp} {k:List Value→List (List Value)→Tree} {Q:Value→Heap→Own→Prop} {vs:List Value}
  (hf:AN P m x f y) (hok:vA P f) (h:RetO P f (y::args) H O r) (ho:shp.open r=some vs) (h1:Ones vs) (hk:∀ H',Heap.le H H'→(k vs []).den P Q H' O) :
  (Tree.callm false m x args [] [] shp k).den P Q H O:=⟨f,y,hf,hok,aj h ho h1 hk⟩
theorem iW {P:Program} {ok:List Nat} (h:ok.all (RJ P)=true) {f:FuncId} (hf:ok.contains f=true):vA P f:=Iw h [] [] [] f hf
theorem JD {P:Program} {op:PrimOp} {args:List Value} {H:Heap} {O:Own} {v:Value} {shp:Shp} {K:List Value→List (List Value)→Heap→Own→Prop} {vs:List Value}
  (h:∀ w F,Models w H (O++F)→(op.sem args).run P w=.ok (.value v) w) (ho:shp.open v=some vs) (h1:Ones vs) (hk:K vs [] H O) :
  dZ (fun H1 O1 R=>bW P (op.sem args) H1 O1 R) false [] [] shp K H O:=by
 intro _
 refine⟨H,O,[],fun v' H' O'=>v'=v∧H'=H∧O'=O,?_,fun w F hm=>⟨v,w,H,O,h w F hm,⟨rfl,rfl,rfl⟩,Heap.le_refl _,hm⟩,?_⟩
 ·rw[List.append_nil];exact Ghost.refl _ _
 ·rintro v' H' O' ⟨rfl,rfl,rfl⟩ _
  exact⟨vs,[],O',ho,h1,trivial,rfl,by rw[List.append_nil];exact hk⟩
abbrev Hl:=List (Int × Value)
def dd (m:Hl) (k:Int):Option Value:=(m.find? fun p=>k == p.1).map (·.2)
def Bz:Hl→Int→Value→Hl
 | [],k,v=>[(k,v)]
 | p::r,k,v=>if k == p.1 then (k,v)::r else p::Bz r k v
theorem Do (m:Hl) (k j:Int) (v:Value):dd (Bz m k v) j=if j=k then some v else dd m j:=by
 induction m with
 | nil =>
  by_cases h:j=k
  ·subst h;simp[Bz,dd]
  ·have:¬ k=j:=fun e=>h e.symm
   simp[Bz,dd,h]
 | cons p r ih =>
  simp only[Bz]
  by_cases hk:k=p.1
  ·rw[if_pos (by simpa using hk)]
   by_cases h:j=k
   ·subst h;simp[dd]
   ·have h2:¬ j=p.1:=fun e=>h (e.trans hk.symm)
    simp[dd,h,h2]
  ·rw[if_neg (by simpa using hk)]
   by_cases h:j=k
   ·subst h
    have e:dd (p::Bz r j v) j=dd (Bz r j v) j:=by simp[dd,hk]
    rw[e,ih,if_pos rfl,if_pos rfl]
   ·by_cases h2:j=p.1
    ·simp[dd,h2,show ¬ p.1=k from fun e=>hk e.symm]
    ·have e1:dd (p::Bz r k v) j=dd (Bz r k v) j:=by simp[dd,h2]
     have e2:dd (p::r) j=dd r j:=by simp[dd,h2]
     rw[e1,e2,ih]
def OMap (kd:IntKind) (v:Value) (m:Hl) (O:Own):Prop :=
 ∃ r es clock,v=.map (some r)∧O=[(r,.map es clock)]∧es.toList.map (fun e=>(e.key,e.val))=m.map fun p=>(.int kd p.1,p.2)
theorem OMap.one {kd:IntKind} {v:Value} {m:Hl} {O:Own} (h:OMap kd v m O):v.oneCell'=true:=by obtain⟨r,es,c,rfl,_⟩:=h;rfl
theorem wO {kd k':IntKind} {x:Int}:∀ {es:List MapEntry} {m:Hl} {i:Nat},es.map (fun e=>(e.key,e.val))=m.map (fun p=>((.int kd p.1:Value),p.2)) →
  (Instr.findNow (.int k') (.int kd x) es i=some none∧dd m x=none∧m.findIdx? (fun p=>x == p.1)=none) ∨
  ∃ j v,Instr.findNow (.int k') (.int kd x) es i=some (some (i + j,v))∧dd m x=some v∧m.findIdx? (fun p=>x == p.1)=some j
 | [],[],i,_=>.inl ⟨rfl,rfl,rfl⟩
 | [],_::_,_,h=>by simp at h
 | _::_,[],_,h=>by simp at h
 | e::es,p::m,i,h=>by
  simp only[List.map_cons,List.cons.injEq,Prod.mk.injEq] at h
  obtain⟨⟨h1,h2⟩,h3⟩:=h
  have hs:Instr.sameNow (.int k') (.int kd x) e.key=some (x == p.1):=by rw[h1];simp[Instr.sameNow]
  simp only[Instr.findNow,hs]
  by_cases hx:x=p.1
  ·right
   refine⟨0,p.2,?_,?_,?_⟩
   ·simp[hx,h2]
   ·simp[dd,hx]
   ·simp[List.findIdx?_cons,hx]
  ·have hb:(x == p.1)=false:=by simpa using hx
   rw[hb]
   rcases wO (i:=i + 1) h3 with ⟨a,b,c⟩ | ⟨j,v,a,b,c⟩
   ·left
    refine⟨by simpa using a,?_,?_⟩
    ·simp only[dd,List.find?_cons,hb];exact b
    ·simp[List.findIdx?_cons,hb,c]
   ·right
    refine⟨j + 1,v,?_,?_,?_⟩
    ·simp only;rw[a];congr 3;omega
    ·simp only[dd,List.find?_cons,hb];exact b
    ·simp[List.findIdx?_cons,hb,c]
theorem Az {P:Program} {kt:TypeId} {k:IntKind} (hk:P.underlying kt=some (.int k)) (em:Bool) (v:Value) (w:World):(Instr.checkKey em 10000 kt v).run P w=.ok () w:=by
 show (Instr.checkKey em (9999 + 1) kt v).run P w=_
 unfold Instr.checkKey
 rw[Sem.run_bind,aG hk]
 rfl
theorem vE {P:Program} {t kt et:TypeId} {k kd:IntKind} (ht:P.underlying t=some (.map kt et)) (hk:P.underlying kt=some (.int k)) {z:Value} (hz:∀ w,(zeroValue et).run P w=.ok z w)
  {v:Value} {m:Hl} {O1 O:Own} (h:OMap kd v m O1) (hO:∀ p ∈ O1,p ∈ O) {H:Heap} {w:World} {F:Own} (hm:Models w H (O++F)) (x:Int) (ok:Bool) :
  ((PrimOp.lookup t ok).sem [v,.int kd x]).run P w=.ok (.value (if ok then .tuple #[(dd m x).getD z,.bool (dd m x).isSome] else (dd m x).getD z)) w:=by
 obtain⟨r,es,clock,rfl,rfl,he⟩:=h
 have hrow:=(hm.own (r,.map es clock) (List.mem_append_left _ (hO _ (by simp)))).1
 have hg:(getObj r).run P w=.ok (.map es clock) w:=by simp[getObj,Sem.run,hrow]
 simp only[PrimOp.sem,Instr.lookup,Sem.run_bind,aG ht,Result.andThen_ok,hg,Sem.run_pure,Az hk,Instr.findKey,aG hk]
 rcases wO (k':=k) (x:=x) (i:=0) he with ⟨a,b,_⟩ | ⟨j,u,a,b,_⟩
 ·rw[a,b]
  simp only[Sem.run_pure,Result.andThen_ok,hz,Option.getD_none,Option.isSome_none,Sem.run_bind]
 ·rw[a,b]
  simp only[Sem.run_pure,Result.andThen_ok,Option.getD_some,Option.isSome_some,Sem.run_bind]
theorem Ht {m:Hl} {k:Int} {v:Value} (h:m.findIdx? (fun p=>k == p.1)=none):Bz m k v=m++[(k,v)]:=by
 induction m with
 | nil=>rfl
 | cons p r ih =>
  simp only[List.findIdx?_cons] at h
  split at h
  ·cases h
  ·rename_i hb
   simp only[Option.map_eq_none_iff] at h
   simp only[Bz,hb,Bool.false_eq_true,if_false,ih h,List.cons_append]
theorem NZ {m:Hl} {k:Int} {v:Value} {j:Nat} (h:m.findIdx? (fun p=>k == p.1)=some j):Bz m k v=m.set j (k,v)∧∃ u,m[j]?=some (k,u):=by
 induction m generalizing j with
 | nil=>simp at h
 | cons p r ih =>
  simp only[List.findIdx?_cons] at h
  split at h
  ·rename_i hb
   simp only[Option.some.injEq] at h;subst h
   have:k=p.1:=by simpa using hb
   exact⟨by simp[Bz,hb],p.2,by simp[this]⟩
  ·rename_i hb
   simp only[Option.map_eq_some_iff] at h
   obtain⟨i,hi,rfl⟩:=h
   obtain⟨h1,u,h2⟩:=ih hi
   refine⟨?_,u,by simpa using h2⟩
   simp only[Bz,hb,Bool.false_eq_true,if_false,h1,List.set_cons_succ]
theorem FZ {P:Program} {t kt et:TypeId} {k kd:IntKind} (ht:P.underlying t=some (.map kt et)) (hk:P.underlying kt=some (.int k)) {v:Value} {m:Hl} {O1:Own} (h:OMap kd v m O1) (H:Heap) (x:Int) (u:Value) :
  bW P ((PrimOp.mapUpdate t).sem [v,.int kd x,u]) H O1 fun _ H' O'=>H'=H∧OMap kd v (Bz m x u) O':=by
 intro w F hm
 obtain⟨r,es,clock,rfl,rfl,he⟩:=h
 have hrow:=(hm.own (r,.map es clock) (by simp)).1
 have hlt:r < w.heap.size:=(Array.getElem?_eq_some_iff.1 hrow).1
 have hg:(getObj r).run P w=.ok (.map es clock) w:=by simp[getObj,Sem.run,hrow]
 have hset:∀ o,(setObj r o).run P w=.ok () { w with heap:=w.heap.setIfInBounds r o }:=fun o=>by
  simp only[setObj,Sem.run,hrow]
 have key:∀ es' clock' m',es'.toList.map (fun e=>(e.key,e.val))=m'.map (fun p=>((.int kd p.1:Value),p.2))→Models { w with heap:=w.heap.setIfInBounds r (.map es' clock') } H ([(r,.map es' clock')]++F)∧OMap kd (.map (some r)) m' [(r,.map es' clock')]:=by
  intro es' clock' m' hm'
  refine⟨?_,r,es',clock',rfl,rfl,hm'⟩
  have hm0:Models w H ((r,.map es clock)::F):=by simpa using hm
  refine hm0.update (fun b hb=>?_) ?_ rfl
  ·simp[Ne.symm hb]
  ·simp[hlt]
 simp only[PrimOp.sem,Instr.mapUpdate,Sem.run_bind,aG ht,Result.andThen_ok,hg,Az hk,Instr.findKey,aG hk]
 rcases wO (k':=k) (x:=x) (i:=0) he with ⟨a,_,c⟩ | ⟨j,u',a,_,c⟩
 ·rw[a]
  simp only[Sem.run_pure,Result.andThen_ok,hset,Sem.run_bind]
  obtain⟨k1,k2⟩:=key (es.push { key:=.int kd x,val:=u,born:=clock }) (clock + 1) (Bz m x u) (by rw[Ht c];simp[he])
  exact⟨_,_,H,_,rfl,⟨rfl,k2⟩,Heap.le_refl H,k1⟩
 ·rw[a]
  obtain⟨e1,u0,e2⟩:=NZ (v:=u) c
  have hj:(es.toList.map fun e=>(e.key,e.val))[j]?=some (.int kd x,u0):=by rw[he,List.getElem?_map,e2];rfl
  rw[List.getElem?_map,Option.map_eq_some_iff] at hj
  obtain⟨ent,hent,hk2⟩:=hj
  simp only[Prod.mk.injEq] at hk2
  have hent':es[j]?=some ent:=by simpa using hent
  have hjlt:j < es.size:=(Array.getElem?_eq_some_iff.1 hent').1
  have hstay:(Instr.keyThatStays (.int kd x) (.int kd x)).run P w=.ok (.int kd x) w:=by
   have:Instr.sameBits 10000 (.int kd x) (.int kd x)=true:=by unfold Instr.sameBits;simp
   simp[Instr.keyThatStays,this]
  have hes:(es[0 + j]?).map (·.key)=some (.int kd x):=by rw[Nat.zero_add,hent',Option.map_some,hk2.1]
  simp only[Sem.run_pure,Result.andThen_ok,Sem.run_bind,hes,Option.getD_some,hstay,hset]
  obtain⟨k1,k2⟩:=key (es.modify (0 + j) fun e=>{ e with key:=.int kd x,val:=u }) clock (Bz m x u) (by
   rw[e1,List.map_set,← he,Nat.zero_add]
   refine List.ext_getElem? fun i=>?_
   simp only[Array.toList_modify,List.getElem?_map,List.getElem?_modify,List.getElem?_set,List.length_map]
   by_cases hij:j=i
   ·subst hij
    simp[hent',hjlt]
   ·simp[hij])
  exact⟨_,_,H,_,rfl,⟨rfl,k2⟩,Heap.le_refl H,k1⟩
theorem JM {P:Program} (t:TypeId) (kd:IntKind) (H:Heap):bW P ((PrimOp.makeMap t false).sem []) H [] fun v H' O'=>H'=H∧OMap kd v [] O':=by
 intro w F hm
 refine⟨.map (some w.heap.size),{ w with heap:=w.heap.push (.map #[] 0) },H,[(w.heap.size,.map #[] 0)],?_,⟨rfl,_,_,_,rfl,rfl,rfl⟩,Heap.le_refl H,?_⟩
 ·simp only[PrimOp.sem,Instr.makeMap,Sem.run_bind,Sem.run_pure,Result.andThen_ok,run_newObj]
 ·simpa using Models.push (by simpa using hm) (.map #[] 0)
theorem wT {P:Program} {t kt et:TypeId} {k kd:IntKind} (ht:P.underlying t=some (.map kt et)) (hk:P.underlying kt=some (.int k)) {z:Value} (hz:∀ w,(zeroValue et).run P w=.ok z w)
  {v:Value} {m:Hl} {O1 O:Own} (h:OMap kd v m O1) (hO:∀ p ∈ O1,p ∈ O) {H:Heap} (x:Int) {K:List Value→List (List Value)→Heap→Own→Prop}
  (h1:((dd m x).getD z).oneCell'=true) (hK:K [(dd m x).getD z,.bool (dd m x).isSome] [] H O) :
  dZ (fun H1 O1 R=>bW P ((PrimOp.lookup t true).sem [v,.int kd x]) H1 O1 R) false [] [] (.tup [none,none]) K H O :=
 JD (fun w F hm=>vE ht hk hz h hO hm x true) rfl ⟨h1,rfl,trivial⟩ hK
theorem ut {P:Program} {t kt et:TypeId} {k kd:IntKind} (ht:P.underlying t=some (.map kt et)) (hk:P.underlying kt=some (.int k)) {z:Value} (hz:∀ w,(zeroValue et).run P w=.ok z w)
  {v:Value} {m:Hl} {O1 O:Own} (h:OMap kd v m O1) (hO:∀ p ∈ O1,p ∈ O) {H:Heap} (x:Int) {K:List Value→List (List Value)→Heap→Own→Prop}
  (h1:((dd m x).getD z).oneCell'=true) (hK:K [(dd m x).getD z] [] H O) :
  dZ (fun H1 O1 R=>bW P ((PrimOp.lookup t false).sem [v,.int kd x]) H1 O1 R) false [] [] .one K H O :=
 JD (fun w F hm=>vE ht hk hz h hO hm x false) rfl ⟨h1,trivial⟩ hK
theorem nX {P:Program} {t kt et:TypeId} {k kd:IntKind} (ht:P.underlying t=some (.map kt et)) (hk:P.underlying kt=some (.int k)) {v:Value} {m:Hl} {O O1 O2:Own} (h:OMap kd v m O1) (hO:O.Perm (O1++O2)) {H:Heap} (x:Int) (u:Value)
  {K:List Value→List (List Value)→Heap→Own→Prop} (hK:∀ r O1',OMap kd v (Bz m x u) O1'→r.oneCell'=true→K [r] [] H (O1'++O2)) :
  dZ (fun H1 O1 R=>bW P ((PrimOp.mapUpdate t).sem [v,.int kd x,u]) H1 O1 R) false [] [] .one K H O:=by
 intro _
 refine⟨H,O1,O2,fun r H' O'=>r=.bool false∧H'=H∧OMap kd v (Bz m x u) O',Ghost.perm hO,fun w F hm=>?_,?_⟩
 ·obtain⟨r,w',H',O',h1,⟨rfl,h3⟩,h4,h5⟩:=FZ ht hk h H x u w F hm
  refine⟨r,w',H',O',h1,⟨?_,rfl,h3⟩,h4,h5⟩
  simp only[PrimOp.sem,Sem.run_bind] at h1
  cases hr:(Instr.mapUpdate t v (.int kd x) u).run P w with
  | ok a w1=>rw[hr] at h1;simp only[Result.andThen_ok,Sem.run_pure,Result.ok.injEq,Next.value.injEq] at h1;exact h1.1.symm
  | halt a w1=>rw[hr] at h1;simp at h1
 ·rintro r H' O' ⟨rfl,rfl,ho⟩ _
  exact⟨[.bool false],[],O',rfl,⟨rfl,trivial⟩,trivial,rfl,hK _ O' ho rfl⟩
theorem D2 {P:Program} {t:TypeId} (kd:IntKind) {H:Heap} {O:Own} {K:List Value→List (List Value)→Heap→Own→Prop} (hK:∀ v O1,OMap kd v [] O1→K [v] [] H (O1++O)) :
  dZ (fun H1 O1 R=>bW P ((PrimOp.makeMap t false).sem []) H1 O1 R) false [] [] .one K H O:=by
 intro _
 refine⟨H,[],O,_,Ghost.refl _ _,JM t kd H,?_⟩
 rintro v H' O' ⟨rfl,ho⟩ _
 exact⟨[v],[],O',rfl,⟨ho.one,trivial⟩,trivial,rfl,hK v O' ho⟩
abbrev iv (n:Int):Value:=.int .i64 n
abbrev pt (r n:Nat):Value:=.pointer (some ⟨r,n,none⟩)
abbrev gd (c:List (List Value)) (i:Nat):List Value:=c.getD i []
abbrev ag (l:List Value):Value:=.agg l.toArray
abbrev kN (a:Nat) (t:Tree):Tree:=.chk (.eqN a a) t
abbrev kV (a:Value) (t:Tree):Tree:=.chk (.eqV a a) t
abbrev kW (a:Value) (r n:Nat) (t:Tree):Tree:=.chk (.eqV a (.pointer (some ⟨r,n,none⟩))) t
abbrev kP (a:Value) (t:Tree):Tree:=.chk (.ptr [] a) t
abbrev pE (a b:Value) (k:Value→Tree):Tree:=.pure [] (.bin .eql .int) [a,b] k
abbrev pN (a b:Value) (k:Value→Tree):Tree:=.pure [] (.bin .neq .int) [a,b] k
abbrev pL (a b:Value) (k:Value→Tree):Tree:=.pure [] (.bin .lss .int) [a,b] k
abbrev pM (a b:Value) (k:Value→Tree):Tree:=.pure [] (.bin .leq .int) [a,b] k
abbrev pG (a b:Value) (k:Value→Tree):Tree:=.pure [] (.bin .gtr .int) [a,b] k
abbrev pH (a b:Value) (k:Value→Tree):Tree:=.pure [] (.bin .geq .int) [a,b] k
abbrev pA (a b:Value) (k:Value→Tree):Tree:=.pure [] (.bin .add .int) [a,b] k
abbrev pS (a b:Value) (k:Value→Tree):Tree:=.pure [] (.bin .sub .int) [a,b] k
abbrev pZ (a:Value) (k:Value→Tree):Tree:=.pure [] .len [a] k
abbrev pO (a:Value) (k:Value→Tree):Tree:=.pure [] .not [a] k
abbrev pK (a b c:Value) (k:Value→Tree):Tree:=.pure [] .pick [a,b,c] k
abbrev pI (n:Nat) (a b:Value) (k:Value→Tree):Tree:=.pure [] (.idx n) [a,b] k
abbrev c1 (f:FuncId) (args:List Value) (k:List Value→Tree):Tree:=.call false f args [] [] .one fun l _=>k l
abbrev cS (f:FuncId) (args:List Value) (s:Shp) (k:List Value→Tree):Tree:=.call false f args [] [] s fun l _=>k l
abbrev Es (l:List (List Value)):List (List Value × List Value):=l.map E
abbrev G4 (v:List Value) (a:Nat):List Value:=[g v a,g v (a + 1),g v (a + 2),g v (a + 3)]
abbrev G5 (v:List Value) (a:Nat):List Value:=[g v a,g v (a + 1),g v (a + 2),g v (a + 3),g v (a + 4)]
abbrev G6 (v:List Value) (a:Nat):List Value:=[g v a,g v (a + 1),g v (a + 2),g v (a + 3),g v (a + 4),g v (a + 5)]
abbrev G7 (v:List Value) (a:Nat):List Value:=[g v a,g v (a + 1),g v (a + 2),g v (a + 3),g v (a + 4),g v (a + 5),g v (a + 6)]
abbrev G8 (v:List Value) (a:Nat):List Value:=[g v a,g v (a + 1),g v (a + 2),g v (a + 3),g v (a + 4),g v (a + 5),g v (a + 6),g v (a + 7)]
abbrev G9 (v:List Value) (a:Nat):List Value:=[g v a,g v (a + 1),g v (a + 2),g v (a + 3),g v (a + 4),g v (a + 5),g v (a + 6),g v (a + 7),g v (a + 8)]
abbrev G10 (v:List Value) (a:Nat):List Value:=[g v a,g v (a + 1),g v (a + 2),g v (a + 3),g v (a + 4),g v (a + 5),g v (a + 6),g v (a + 7),g v (a + 8),g v (a + 9)]
abbrev G11 (v:List Value) (a:Nat):List Value:=[g v a,g v (a + 1),g v (a + 2),g v (a + 3),g v (a + 4),g v (a + 5),g v (a + 6),g v (a + 7),g v (a + 8),g v (a + 9),g v (a + 10)]
abbrev G12 (v:List Value) (a:Nat):List Value:=[g v a,g v (a + 1),g v (a + 2),g v (a + 3),g v (a + 4),g v (a + 5),g v (a + 6),g v (a + 7),g v (a + 8),g v (a + 9),g v (a + 10),g v (a + 11)]
abbrev G13 (v:List Value) (a:Nat):List Value:=[g v a,g v (a + 1),g v (a + 2),g v (a + 3),g v (a + 4),g v (a + 5),g v (a + 6),g v (a + 7),g v (a + 8),g v (a + 9),g v (a + 10),g v (a + 11),g v (a + 12)]
abbrev G14 (v:List Value) (a:Nat):List Value:=[g v a,g v (a + 1),g v (a + 2),g v (a + 3),g v (a + 4),g v (a + 5),g v (a + 6),g v (a + 7),g v (a + 8),g v (a + 9),g v (a + 10),g v (a + 11),g v (a + 12),g v (a + 13)]
abbrev G15 (v:List Value) (a:Nat):List Value:=[g v a,g v (a + 1),g v (a + 2),g v (a + 3),g v (a + 4),g v (a + 5),g v (a + 6),g v (a + 7),g v (a + 8),g v (a + 9),g v (a + 10),g v (a + 11),g v (a + 12),g v (a + 13),g v (a + 14)]
abbrev G16 (v:List Value) (a:Nat):List Value:=[g v a,g v (a + 1),g v (a + 2),g v (a + 3),g v (a + 4),g v (a + 5),g v (a + 6),g v (a + 7),g v (a + 8),g v (a + 9),g v (a + 10),g v (a + 11),g v (a + 12),g v (a + 13),g v (a + 14),g v (a + 15)]
abbrev G17 (v:List Value) (a:Nat):List Value:=[g v a,g v (a + 1),g v (a + 2),g v (a + 3),g v (a + 4),g v (a + 5),g v (a + 6),g v (a + 7),g v (a + 8),g v (a + 9),g v (a + 10),g v (a + 11),g v (a + 12),g v (a + 13),g v (a + 14),g v (a + 15),g v (a + 16)]
abbrev G18 (v:List Value) (a:Nat):List Value:=[g v a,g v (a + 1),g v (a + 2),g v (a + 3),g v (a + 4),g v (a + 5),g v (a + 6),g v (a + 7),g v (a + 8),g v (a + 9),g v (a + 10),g v (a + 11),g v (a + 12),g v (a + 13),g v (a + 14),g v (a + 15),g v (a + 16),g v (a + 17)]
abbrev G19 (v:List Value) (a:Nat):List Value:=[g v a,g v (a + 1),g v (a + 2),g v (a + 3),g v (a + 4),g v (a + 5),g v (a + 6),g v (a + 7),g v (a + 8),g v (a + 9),g v (a + 10),g v (a + 11),g v (a + 12),g v (a + 13),g v (a + 14),g v (a + 15),g v (a + 16),g v (a + 17),g v (a + 18)]
abbrev G20 (v:List Value) (a:Nat):List Value:=[g v a,g v (a + 1),g v (a + 2),g v (a + 3),g v (a + 4),g v (a + 5),g v (a + 6),g v (a + 7),g v (a + 8),g v (a + 9),g v (a + 10),g v (a + 11),g v (a + 12),g v (a + 13),g v (a + 14),g v (a + 15),g v (a + 16),g v (a + 17),g v (a + 18),g v (a + 19)]
abbrev G21 (v:List Value) (a:Nat):List Value:=[g v a,g v (a + 1),g v (a + 2),g v (a + 3),g v (a + 4),g v (a + 5),g v (a + 6),g v (a + 7),g v (a + 8),g v (a + 9),g v (a + 10),g v (a + 11),g v (a + 12),g v (a + 13),g v (a + 14),g v (a + 15),g v (a + 16),g v (a + 17),g v (a + 18),g v (a + 19),g v (a + 20)]
abbrev G22 (v:List Value) (a:Nat):List Value:=[g v a,g v (a + 1),g v (a + 2),g v (a + 3),g v (a + 4),g v (a + 5),g v (a + 6),g v (a + 7),g v (a + 8),g v (a + 9),g v (a + 10),g v (a + 11),g v (a + 12),g v (a + 13),g v (a + 14),g v (a + 15),g v (a + 16),g v (a + 17),g v (a + 18),g v (a + 19),g v (a + 20),g v (a + 21)]
abbrev G23 (v:List Value) (a:Nat):List Value:=[g v a,g v (a + 1),g v (a + 2),g v (a + 3),g v (a + 4),g v (a + 5),g v (a + 6),g v (a + 7),g v (a + 8),g v (a + 9),g v (a + 10),g v (a + 11),g v (a + 12),g v (a + 13),g v (a + 14),g v (a + 15),g v (a + 16),g v (a + 17),g v (a + 18),g v (a + 19),g v (a + 20),g v (a + 21),g v (a + 22)]
abbrev G24 (v:List Value) (a:Nat):List Value:=[g v a,g v (a + 1),g v (a + 2),g v (a + 3),g v (a + 4),g v (a + 5),g v (a + 6),g v (a + 7),g v (a + 8),g v (a + 9),g v (a + 10),g v (a + 11),g v (a + 12),g v (a + 13),g v (a + 14),g v (a + 15),g v (a + 16),g v (a + 17),g v (a + 18),g v (a + 19),g v (a + 20),g v (a + 21),g v (a + 22),g v (a + 23)]
abbrev G27 (v:List Value) (a:Nat):List Value:=[g v a,g v (a + 1),g v (a + 2),g v (a + 3),g v (a + 4),g v (a + 5),g v (a + 6),g v (a + 7),g v (a + 8),g v (a + 9),g v (a + 10),g v (a + 11),g v (a + 12),g v (a + 13),g v (a + 14),g v (a + 15),g v (a + 16),g v (a + 17),g v (a + 18),g v (a + 19),g v (a + 20),g v (a + 21),g v (a + 22),g v (a + 23),g v (a + 24),g v (a + 25),g v (a + 26)]
abbrev G28 (v:List Value) (a:Nat):List Value:=[g v a,g v (a + 1),g v (a + 2),g v (a + 3),g v (a + 4),g v (a + 5),g v (a + 6),g v (a + 7),g v (a + 8),g v (a + 9),g v (a + 10),g v (a + 11),g v (a + 12),g v (a + 13),g v (a + 14),g v (a + 15),g v (a + 16),g v (a + 17),g v (a + 18),g v (a + 19),g v (a + 20),g v (a + 21),g v (a + 22),g v (a + 23),g v (a + 24),g v (a + 25),g v (a + 26),g v (a + 27)]
abbrev G29 (v:List Value) (a:Nat):List Value:=[g v a,g v (a + 1),g v (a + 2),g v (a + 3),g v (a + 4),g v (a + 5),g v (a + 6),g v (a + 7),g v (a + 8),g v (a + 9),g v (a + 10),g v (a + 11),g v (a + 12),g v (a + 13),g v (a + 14),g v (a + 15),g v (a + 16),g v (a + 17),g v (a + 18),g v (a + 19),g v (a + 20),g v (a + 21),g v (a + 22),g v (a + 23),g v (a + 24),g v (a + 25),g v (a + 26),g v (a + 27),g v (a + 28)]
abbrev G30 (v:List Value) (a:Nat):List Value:=[g v a,g v (a + 1),g v (a + 2),g v (a + 3),g v (a + 4),g v (a + 5),g v (a + 6),g v (a + 7),g v (a + 8),g v (a + 9),g v (a + 10),g v (a + 11),g v (a + 12),g v (a + 13),g v (a + 14),g v (a + 15),g v (a + 16),g v (a + 17),g v (a + 18),g v (a + 19),g v (a + 20),g v (a + 21),g v (a + 22),g v (a + 23),g v (a + 24),g v (a + 25),g v (a + 26),g v (a + 27),g v (a + 28),g v (a + 29)]
abbrev G31 (v:List Value) (a:Nat):List Value:=[g v a,g v (a + 1),g v (a + 2),g v (a + 3),g v (a + 4),g v (a + 5),g v (a + 6),g v (a + 7),g v (a + 8),g v (a + 9),g v (a + 10),g v (a + 11),g v (a + 12),g v (a + 13),g v (a + 14),g v (a + 15),g v (a + 16),g v (a + 17),g v (a + 18),g v (a + 19),g v (a + 20),g v (a + 21),g v (a + 22),g v (a + 23),g v (a + 24),g v (a + 25),g v (a + 26),g v (a + 27),g v (a + 28),g v (a + 29),g v (a + 30)]
abbrev G32 (v:List Value) (a:Nat):List Value:=[g v a,g v (a + 1),g v (a + 2),g v (a + 3),g v (a + 4),g v (a + 5),g v (a + 6),g v (a + 7),g v (a + 8),g v (a + 9),g v (a + 10),g v (a + 11),g v (a + 12),g v (a + 13),g v (a + 14),g v (a + 15),g v (a + 16),g v (a + 17),g v (a + 18),g v (a + 19),g v (a + 20),g v (a + 21),g v (a + 22),g v (a + 23),g v (a + 24),g v (a + 25),g v (a + 26),g v (a + 27),g v (a + 28),g v (a + 29),g v (a + 30),g v (a + 31)]
abbrev G33 (v:List Value) (a:Nat):List Value:=[g v a,g v (a + 1),g v (a + 2),g v (a + 3),g v (a + 4),g v (a + 5),g v (a + 6),g v (a + 7),g v (a + 8),g v (a + 9),g v (a + 10),g v (a + 11),g v (a + 12),g v (a + 13),g v (a + 14),g v (a + 15),g v (a + 16),g v (a + 17),g v (a + 18),g v (a + 19),g v (a + 20),g v (a + 21),g v (a + 22),g v (a + 23),g v (a + 24),g v (a + 25),g v (a + 26),g v (a + 27),g v (a + 28),g v (a + 29),g v (a + 30),g v (a + 31),g v (a + 32)]
abbrev G34 (v:List Value) (a:Nat):List Value:=[g v a,g v (a + 1),g v (a + 2),g v (a + 3),g v (a + 4),g v (a + 5),g v (a + 6),g v (a + 7),g v (a + 8),g v (a + 9),g v (a + 10),g v (a + 11),g v (a + 12),g v (a + 13),g v (a + 14),g v (a + 15),g v (a + 16),g v (a + 17),g v (a + 18),g v (a + 19),g v (a + 20),g v (a + 21),g v (a + 22),g v (a + 23),g v (a + 24),g v (a + 25),g v (a + 26),g v (a + 27),g v (a + 28),g v (a + 29),g v (a + 30),g v (a + 31),g v (a + 32),g v (a + 33)]
abbrev G35 (v:List Value) (a:Nat):List Value:=[g v a,g v (a + 1),g v (a + 2),g v (a + 3),g v (a + 4),g v (a + 5),g v (a + 6),g v (a + 7),g v (a + 8),g v (a + 9),g v (a + 10),g v (a + 11),g v (a + 12),g v (a + 13),g v (a + 14),g v (a + 15),g v (a + 16),g v (a + 17),g v (a + 18),g v (a + 19),g v (a + 20),g v (a + 21),g v (a + 22),g v (a + 23),g v (a + 24),g v (a + 25),g v (a + 26),g v (a + 27),g v (a + 28),g v (a + 29),g v (a + 30),g v (a + 31),g v (a + 32),g v (a + 33),g v (a + 34)]
abbrev G36 (v:List Value) (a:Nat):List Value:=[g v a,g v (a + 1),g v (a + 2),g v (a + 3),g v (a + 4),g v (a + 5),g v (a + 6),g v (a + 7),g v (a + 8),g v (a + 9),g v (a + 10),g v (a + 11),g v (a + 12),g v (a + 13),g v (a + 14),g v (a + 15),g v (a + 16),g v (a + 17),g v (a + 18),g v (a + 19),g v (a + 20),g v (a + 21),g v (a + 22),g v (a + 23),g v (a + 24),g v (a + 25),g v (a + 26),g v (a + 27),g v (a + 28),g v (a + 29),g v (a + 30),g v (a + 31),g v (a + 32),g v (a + 33),g v (a + 34),g v (a + 35)]
abbrev G37 (v:List Value) (a:Nat):List Value:=[g v a,g v (a + 1),g v (a + 2),g v (a + 3),g v (a + 4),g v (a + 5),g v (a + 6),g v (a + 7),g v (a + 8),g v (a + 9),g v (a + 10),g v (a + 11),g v (a + 12),g v (a + 13),g v (a + 14),g v (a + 15),g v (a + 16),g v (a + 17),g v (a + 18),g v (a + 19),g v (a + 20),g v (a + 21),g v (a + 22),g v (a + 23),g v (a + 24),g v (a + 25),g v (a + 26),g v (a + 27),g v (a + 28),g v (a + 29),g v (a + 30),g v (a + 31),g v (a + 32),g v (a + 33),g v (a + 34),g v (a + 35),g v (a + 36)]
abbrev G38 (v:List Value) (a:Nat):List Value:=[g v a,g v (a + 1),g v (a + 2),g v (a + 3),g v (a + 4),g v (a + 5),g v (a + 6),g v (a + 7),g v (a + 8),g v (a + 9),g v (a + 10),g v (a + 11),g v (a + 12),g v (a + 13),g v (a + 14),g v (a + 15),g v (a + 16),g v (a + 17),g v (a + 18),g v (a + 19),g v (a + 20),g v (a + 21),g v (a + 22),g v (a + 23),g v (a + 24),g v (a + 25),g v (a + 26),g v (a + 27),g v (a + 28),g v (a + 29),g v (a + 30),g v (a + 31),g v (a + 32),g v (a + 33),g v (a + 34),g v (a + 35),g v (a + 36),g v (a + 37)]
inductive G (α:Type) where
 | fail (n:Nat)
 | done (a:α)
 | box (k:Nat→G α)
 | chk (c:List Ck) (g:G α)
 | eql (a b:List At) (g:G α)
variable {α β:Type}
def G.bind:G α→(α→G β)→G β
 | .fail n,_=>.fail n
 | .done a,f=>f a
 | .box k,f=>.box fun r=>(k r).bind f
 | .chk c g,f=>.chk c (g.bind f)
 | .eql a b g,f=>.eql a b (g.bind f)
def G.den:G α→(α→Prop)→Prop
 | .fail _,_=>False
 | .done a,P=>P a
 | .box k,P=>∀ r,(k r).den P
 | .chk c g,P=>AllCk c∧g.den P
 | .eql a b g,P=>a=b∧g.den P
theorem G.den_mono {P Q:α→Prop} (h:∀ a,P a→Q a):∀ {g:G α},g.den P→g.den Q
 | .fail _,hg=>hg
 | .done a,hg=>h a hg
 | .box _,hg=>fun r=>den_mono h (hg r)
 | .chk _ _,hg=>⟨hg.1,den_mono h hg.2⟩
 | .eql _ _ _,hg=>⟨hg.1,den_mono h hg.2⟩
theorem G.den_ex {P:α→Prop}:∀ {g:G α},g.den P→∃ a,P a
 | .fail _,hg=>hg.elim
 | .done a,hg=>⟨a,hg⟩
 | .box _,hg=>den_ex (hg 0)
 | .chk _ _,hg=>den_ex hg.2
 | .eql _ _ _,hg=>den_ex hg.2
theorem G.den_forall {P:Nat→α→Prop}:∀ {g:G α},(∀ r,g.den (P r))→g.den fun a=>∀ r,P r a
 | .fail _,hg=>hg 0
 | .done _,hg=>hg
 | .box _,hg=>fun r=>den_forall fun r'=>hg r' r
 | .chk _ _,hg=>⟨(hg 0).1,den_forall fun r=>(hg r).2⟩
 | .eql _ _ _,hg=>⟨(hg 0).1,den_forall fun r=>(hg r).2⟩
theorem G.den_and {c:Prop} {P:α→Prop} (hc:c) {g:G α} (h:g.den P):g.den fun a=>c∧P a:=den_mono (fun _ h=>⟨hc,h⟩) h
theorem G.den_comm {R:α→β→Prop}:∀ {a:G α} {b:G β},a.den (fun u=>b.den fun v=>R u v)→b.den fun v=>a.den fun u=>R u v
 | .fail _,_,h=>h.elim
 | .done _,_,h=>h
 | .box _,_,h=>den_forall fun r=>den_comm (h r)
 | .chk _ _,_,h=>den_and h.1 (den_comm h.2)
 | .eql _ _ _,_,h=>den_and h.1 (den_comm h.2)
structure MB where
 r:Nat
 kd:IntKind
 m:List (Int × Value)
def MB.is (m:MB) (p:Nat × Obj):Prop:=∃ es clock,p=(m.r,.map es clock)∧es.toList.map (fun e=>(e.key,e.val))=m.m.map fun p=>(.int m.kd p.1,p.2)
def Wj:List (Nat × MB)→Own→Prop
 | [],O=>O=[]
 | (_,m)::r,O=>∃ p O',O=p::O'∧m.is p∧Wj r O'
structure HS where
 ms:List (Nat × MB)
 gr:List (Nat × Nat × Nat)
structure CS where
 s:SS
 h:HS
structure Upd where
 val:Option SV
 bx:List (Nat × Option Bx)
 hv:Option (Nat × HS)
def Bo (l:List (Nat × Option Bx)) (n:Nat):Option (Option Bx) :=
 match l with
 | []=>none
 | (k,a)::r=>if n=k then some a else Bo r n
def RD (d:Option Tmp) (v:Option SV) (f:Nat→SV):Nat→SV :=
 match d,v with
 | some d,some v=>fun t=>if t=d then v else f t
 | _,_=>f
def W8 (l:List (Nat × Option Bx)) (f:Nat→Option Bx):Nat→Option Bx :=
 match l with
 | []=>f
 | p::r=>fun n=>match Bo (p::r) n with | some b=>b | none=>f n
def CS.app (d:Option Tmp) (u:Upd) (x:CS):CS :=
  { s :=
    { sz:=x.s.sz
      tmps:=RD d u.val x.s.tmps
      mem:=W8 u.bx x.s.mem
      next:=match u.hv with | some h=>h.1 | none=>x.s.next }
    h:=match u.hv with | some h=>h.2 | none=>x.h }
structure Ef where
 cs:List Ck
 body:G Upd
 rd:List Nat
 wr:List Nat
 lo:Option Nat
def okU (hi:Nat) (e:Ef) (u:Upd):Bool :=
 match e.lo with
 | none=>u.hv.isNone && u.bx.all (fun p=>e.wr.contains p.1) && e.wr.all (fun n=>decide (n < hi))
 | some l=>match u.hv with
  | some h=>decide (l≤h.1) && decide (hi≤l) && u.bx.all fun p=>(e.wr.contains p.1 || decide (l≤p.1)) && decide (p.1 < h.1)
  | none=>false
def Ef.run (hi:Nat) (e:Ef) (d:Option Tmp) (x:CS) (K:CS→Prop):Prop:=AllCk e.cs∧e.body.den fun u=>okU hi e u=true∧K (x.app d u)
theorem Ef.run_mono {hi:Nat} {e:Ef} {d:Option Tmp} {x:CS} {K K':CS→Prop} (hk:∀ x,K x→K' x) (h:e.run hi d x K):e.run hi d x K' :=
 ⟨h.1,G.den_mono (fun _ h=>⟨h.1,hk _ h.2⟩) h.2⟩
theorem Fj {l:List (Nat × Option Bx)} {n:Nat} (h:∀ p ∈ l,p.1 ≠ n):Bo l n=none:=by
 induction l with
 | nil=>rfl
 | cons p r ih =>
  obtain⟨k,a⟩:=p
  have:=h (k,a) (by simp)
  simp only at this
  simp only[Bo,if_neg (fun e:n=k=>this e.symm)]
  exact ih fun p hp=>h p (List.mem_cons_of_mem _ hp)
theorem Ni {l:List (Nat × Option Bx)} {n:Nat} {b:Option Bx} (h:Bo l n=some b):(n,b) ∈ l:=by
 induction l with
 | nil=>simp[Bo] at h
 | cons p r ih =>
  obtain⟨k,a⟩:=p
  simp only[Bo] at h
  split at h
  ·rename_i e;simp only[Option.some.injEq] at h;subst h;subst e;simp
  ·exact List.mem_cons_of_mem _ (ih h)
theorem Us {d:Option Tmp} {v:Option SV} {f:Nat→SV} {t:Nat} (h:∀ e,d=some e→t ≠ e):RD d v f t=f t:=by
 unfold RD
 split
 ·simp only[if_neg (h _ rfl)]
 ·rfl
theorem Gv {d:Tmp} {v:Option SV} {f:Nat→SV}:RD (some d) v f d=v.getD (f d):=by
 cases v <;> simp[RD]
theorem Ut {l:List (Nat × Option Bx)} {f:Nat→Option Bx} {n:Nat}:W8 l f n=match Bo l n with | some b=>b | none=>f n:=by
 cases l <;> rfl
theorem CS.app_tmps {d:Option Tmp} {u:Upd} {x:CS} {t:Nat} (h:∀ e,d=some e→t ≠ e):(x.app d u).s.tmps t=x.s.tmps t:=Us h
theorem CS.app_mem {d:Option Tmp} {u:Upd} {x:CS} {n:Nat}:(x.app d u).s.mem n=match Bo u.bx n with | some b=>b | none=>x.s.mem n:=Ut
theorem CS.app_mem' {d:Option Tmp} {u:Upd} {x:CS} {n:Nat} (h:∀ p ∈ u.bx,p.1 ≠ n):(x.app d u).s.mem n=x.s.mem n:=by
 rw[CS.app_mem,Fj h]
theorem CS.ext' {x y:CS} (h1:x.s.sz=y.s.sz) (h2:∀ t,x.s.tmps t=y.s.tmps t) (h3:∀ n,x.s.mem n=y.s.mem n) (h4:x.s.next=y.s.next) (h5:x.h=y.h):x=y:=by
 obtain⟨⟨a,b,c,d⟩,e⟩:=x
 obtain⟨⟨a',b',c',d'⟩,e'⟩:=y
 simp only at *
 subst h1;subst h4;subst h5
 have:b=b':=funext h2
 subst this
 have:c=c':=funext h3
 subst this
 rfl
theorem CS.app_comm {da db:Option Tmp} {u v:Upd} {x:CS} (hd:∀ d,da=some d→db ≠ some d) (hb:∀ p ∈ u.bx,∀ q ∈ v.bx,p.1 ≠ q.1) (hh:u.hv=none∨v.hv=none) :
  (x.app db v).app da u=(x.app da u).app db v:=by
 refine CS.ext' rfl (fun t=>?_) (fun n=>?_) ?_ ?_
 ·by_cases h1:da=some t
  ·have h2:∀ e,db=some e→t ≠ e:=fun e he e'=>hd t h1 (e' ▸ he)
   rw[CS.app_tmps (d:=db) h2]
   subst h1
   show RD _ _ (x.app db v).s.tmps t=RD _ _ x.s.tmps t
   rw[Gv,Gv,CS.app_tmps h2]
  ·have h1':∀ e,da=some e→t ≠ e:=fun e he e'=>h1 (e' ▸ he)
   rw[CS.app_tmps (d:=da) h1']
   by_cases h2:db=some t
   ·subst h2
    show RD _ _ x.s.tmps t=RD _ _ (x.app da u).s.tmps t
    rw[Gv,Gv,CS.app_tmps h1']
   ·have h2':∀ e,db=some e→t ≠ e:=fun e he e'=>h2 (e' ▸ he)
    rw[CS.app_tmps h2',CS.app_tmps h2',CS.app_tmps h1']
 ·rw[CS.app_mem,CS.app_mem]
  cases hu:Bo u.bx n with
  | none =>
   simp only
   rw[CS.app_mem]
   cases hv:Bo v.bx n with
   | none=>simp only;rw[CS.app_mem,hu]
   | some b=>rfl
  | some b =>
   have:Bo v.bx n=none:=Fj fun q hq e=>hb _ (Ni hu) q hq e.symm
   simp only
   rw[CS.app_mem,this]
   simp only
   rw[CS.app_mem,hu]
 ·unfold CS.app
  rcases hh with h | h <;> simp only[h]
 ·unfold CS.app
  rcases hh with h | h <;> simp only[h]
def QV (N:CS→Option Ef) (l:List Tmp):Prop :=
 ∀ x x' e,N x=some e→x'.s.sz=x.s.sz→(∀ t ∈ l,x'.s.tmps t=x.s.tmps t)→(∀ n ∈ e.rd,x'.s.mem n=x.s.mem n)→(e.lo.isSome=true→x'.s.next=x.s.next∧x'.h=x.h)→N x'=some e
def Br (a b:Ef):Bool:=LL a.wr b.rd && LL a.wr b.wr && LL a.rd b.wr &&
 match a.lo,b.lo with
 | some _,some _=>false
 | some l,none=>b.rd.all (fun n=>decide (n < l)) && b.wr.all (fun n=>decide (n < l))
 | none,some l=>a.rd.all (fun n=>decide (n < l)) && a.wr.all (fun n=>decide (n < l))
 | none,none=>true
theorem wN {hi:Nat} {a b:Ef} {u:Upd} (h:Br a b=true) (hu:okU hi a u=true):∀ p ∈ u.bx,p.1 ∉ b.rd∧p.1 ∉ b.wr∧(∀ l,b.lo=some l→p.1 < l):=by
 intro p hp
 simp only[Br,Bool.and_eq_true] at h
 obtain⟨⟨⟨h1,h2⟩,h3⟩,h4⟩:=h
 unfold okU at hu
 cases hl:a.lo with
 | none =>
  simp only[hl,Bool.and_eq_true,List.all_eq_true] at hu
  have:=hu.1.2 p hp
  have hin:p.1 ∈ a.wr:=by simpa using this
  refine⟨nV h1 hin,nV h2 hin,fun l hb=>?_⟩
  simp only[hl,hb,Bool.and_eq_true,List.all_eq_true] at h4
  simpa using h4.2 _ hin
 | some l =>
  simp only[hl] at hu
  split at hu
  ·rename_i hh hhv
   simp only[Bool.and_eq_true,List.all_eq_true] at hu
   have hp':=(hu.2 p hp).1
   simp only[Bool.or_eq_true,decide_eq_true_eq] at hp'
   cases hb:b.lo with
   | some l'=>simp only[hl,hb] at h4;cases h4
   | none =>
    simp only[hl,hb,Bool.and_eq_true,List.all_eq_true,decide_eq_true_eq] at h4
    rcases hp' with hin | hge
    ·have hin:p.1 ∈ a.wr:=by simpa using hin
     exact⟨nV h1 hin,nV h2 hin,fun _ e=>by cases e⟩
    ·exact⟨fun hr=>by have:=h4.1 _ hr;omega,fun hw=>by have:=h4.2 _ hw;omega,fun _ e=>by cases e⟩
  ·cases hu
theorem Ft {a b:Ef} (h:Br a b=true):Br b a=true:=by
 simp only[Br,Bool.and_eq_true] at h ⊢
 obtain⟨⟨⟨h1,h2⟩,h3⟩,h4⟩:=h
 have sw:∀ {x y:List Nat},LL x y=true→LL y x=true:=by
  intro x y hxy
  unfold LL
  rw[List.all_eq_true]
  intro n hn
  simpa using zE hxy hn
 refine⟨⟨⟨sw h3,sw h2⟩,sw h1⟩,?_⟩
 cases ha:a.lo <;> cases hb:b.lo <;> simp_all
theorem Pe {hi:Nat} {a:Ef} {u:Upd} (hu:okU hi a u=true) (h:a.lo=none):u.hv=none:=by
 unfold okU at hu
 simp only[h,Bool.and_eq_true,Option.isNone_iff_eq_none] at hu
 exact hu.1.1
theorem LG {a b:Ef} (h:Br a b=true):a.lo=none∨b.lo=none:=by
 simp only[Br,Bool.and_eq_true] at h
 cases ha:a.lo with
 | none=>exact .inl rfl
 | some l=>cases hb:b.lo with
  | none=>exact .inr rfl
  | some l'=>simp[ha,hb] at h
theorem GV {hi:Nat} {N:CS→Option Ef} {l:List Tmp} (hC:QV N l) {da:Option Tmp} (hd:∀ d,da=some d→d ∉ l) {a b:Ef} {u:Upd} {x:CS} (hi':Br a b=true) (hu:okU hi a u=true) :
  N x=some b ↔ N (x.app da u)=some b:=by
 have hn:=wN hi' hu
 have hne:∀ n ∈ b.rd,(x.app da u).s.mem n=x.s.mem n:=fun n hr=>CS.app_mem' fun p hp e=>(hn p hp).1 (e ▸ hr)
 have ht:∀ t ∈ l,(x.app da u).s.tmps t=x.s.tmps t:=fun t htl=>CS.app_tmps fun e he e'=>hd e he (e' ▸ htl)
 have hs:b.lo.isSome=true→(x.app da u).s.next=x.s.next∧(x.app da u).h=x.h:=by
  intro hb
  have hau:u.hv=none:=Pe hu ((LG hi').resolve_right (fun e=>by simp[e] at hb))
  unfold CS.app
  simp only[hau]
  exact⟨trivial,trivial⟩
 constructor
 ·intro h;exact hC x _ b h rfl ht hne hs
 ·intro h;exact hC _ x b h rfl (fun t h'=>(ht t h').symm) (fun n h'=>(hne n h').symm) (fun h'=>⟨(hs h').1.symm,(hs h').2.symm⟩)
theorem WE {hi:Nat} {da db:Option Tmp} {la lb:List Tmp} {Na Nb:CS→Option Ef} (Ca:QV Na la) (Cb:QV Nb lb)
  (h1:∀ d,da=some d→d ∉ lb) (h2:∀ d,da=some d→db ≠ some d) (h3:∀ d,db=some d→d ∉ la)
  {x:CS} {ea:Ef} (ha:Na x=some ea) {C:Ef→Prop} {K:CS→Prop}
  (hb:ea.run hi da x fun x'=>∃ eb,Nb x'=some eb∧Br ea eb=true∧C eb∧eb.run hi db x' K) :
  ∃ eb,Nb x=some eb∧Br ea eb=true∧C eb∧eb.run hi db x fun x'=>Na x'=some ea∧ea.run hi da x' K:=by
 obtain⟨hcs,hb⟩:=hb
 obtain⟨u0,hu0,eb,hn0,hi0,hC0,hr0⟩:=G.den_ex hb
 have hNb:Nb x=some eb:=(GV Cb h1 hi0 hu0).2 hn0
 refine⟨eb,hNb,hi0,hC0,hr0.1,?_⟩
 have hb':ea.body.den fun u=>eb.body.den fun v=>okU hi ea u=true∧okU hi eb v=true∧K ((x.app da u).app db v):=by
  refine G.den_mono ?_ hb
  rintro u ⟨hu,eb',hn',hi',_,hr'⟩
  have:eb'=eb:=by
   have:=(GV Cb h1 hi' hu).2 hn'
   rw[hNb] at this
   exact (Option.some.inj this).symm
  subst this
  exact G.den_mono (fun v hv=>⟨hu,hv.1,hv.2⟩) hr'.2
 have hc:=G.den_comm hb'
 refine G.den_mono ?_ hc
 intro v hv
 obtain⟨u1,hu1,hv1,_⟩:=G.den_ex hv
 refine⟨hv1,(GV Ca h3 (Ft hi0) hv1).1 ha,hcs,G.den_mono ?_ hv⟩
 rintro u ⟨hu,_,hk⟩
 refine⟨hu,?_⟩
 rw[CS.app_comm h2 ?_ ?_]
 ·exact hk
 ·intro p hp q hq e
  have hp':=wN hi0 hu p hp
  have hq':=wN (Ft hi0) hv1 q hq
  have hv1':=hv1
  unfold okU at hv1'
  cases hl:eb.lo with
  | none =>
   simp only[hl,Bool.and_eq_true,List.all_eq_true] at hv1'
   have:=hv1'.1.2 q hq
   exact hp'.2.1 (e ▸ (by simpa using this))
  | some l =>
   simp only[hl] at hv1'
   split at hv1'
   ·simp only[Bool.and_eq_true,List.all_eq_true] at hv1'
    have h5:=(hv1'.2 q hq).1
    simp only[Bool.or_eq_true,decide_eq_true_eq] at h5
    rcases h5 with h5 | h5
    ·exact hp'.2.1 (e ▸ (by simpa using h5))
    ·have:=hp'.2.2 l hl;omega
   ·cases hv1'
 ·rcases LG hi0 with h | h
  ·exact .inl (Pe hu h)
  ·exact .inr (Pe hv1 h)
structure Wq where
 i:Nat
 o:Oper
 e:Ef
def xT (ops:Array Oper) (tab:List (Nat × Nat)) (i:Nat) (o:Oper) (x:Ef) (log:List Wq):Bool :=
 log.all fun l=>Il tab l.i i || (Br l.e x && Oper.apart ops l.o o)
structure RX where
 P:Program
 ops:Array Oper
 tab:List (Nat × Nat)
 hi:Nat
 N:Nat→Oper→CS→Option Ef
def RX.rr (c:RX) (d:Bool) (K:CS→Prop):List (Nat × Oper)→List Wq→CS→Prop
 | [],_,x=>K x
 | (i,o)::r,log,x=>∃ e,c.N i o x=some e∧(d=true→xT c.ops c.tab i o e log=true)∧e.run c.hi o.dst x (RX.rr c d K r (if d then ⟨i,o,e⟩::log else log))
theorem E3 {ops:Array Oper} {tab:List (Nat × Nat)} {i:Nat} {o:Oper} {x:Ef} {log log':List Wq} (hs:∀ e,e ∈ log'→e ∈ log) (h:xT ops tab i o x log=true):xT ops tab i o x log'=true:=by
 unfold xT at *
 rw[List.all_eq_true] at *
 exact fun e he=>h e (hs e he)
theorem RX.weaken {c:RX} {K:CS→Prop}:∀ {l:List (Nat × Oper)} {log log':List Wq} {x:CS},(∀ e,e ∈ log'→e ∈ log)→c.rr true K l log x→c.rr true K l log' x
 | [],_,_,_,_,h=>h
 | (i,o)::r,log,log',x,hs,⟨e,he,hc,hr⟩=>by
  refine⟨e,he,fun hd=>E3 hs (hc hd),Ef.run_mono (fun _ hk=>RX.weaken ?_ hk) hr⟩
  intro e he
  simp only[if_true,List.mem_cons] at he ⊢
  exact he.imp id (hs e)
theorem RX.front {c:RX} (hcong:∀ i o,QV (c.N i o) (o.looksAt c.ops)) {K:CS→Prop} {i:Nat} {o:Oper} {l2:List (Nat × Oper)}:∀ {l1:List (Nat × Oper)} {log:List Wq} {x:CS},
  c.rr true K (l1++(i,o)::l2) log x→(∀ e ∈ l1,Il c.tab e.1 i=false) →
  ∃ e,c.N i o x=some e∧xT c.ops c.tab i o e log=true∧e.run c.hi o.dst x (c.rr true K (l1++l2) log)
 | [],log,x,⟨e,he,hc,hr⟩,_=>⟨e,he,hc rfl,Ef.run_mono (fun _ hk=>RX.weaken (fun e he=>by simp[he]) hk) hr⟩
 | (a,oa)::l1,log,x,⟨ea,hea,hc,hr⟩,ho=>by
  have hc:=hc rfl
  have hoa:Il c.tab a i=false:=ho (a,oa) (by simp)
  have hr':=Ef.run_mono (fun x' hk=>RX.front hcong (l1:=l1) hk (fun e he=>ho e (by simp[he]))) hr
  have hlog:∀ {y:Ef},xT c.ops c.tab i o y (⟨a,oa,ea⟩::log)=true→Br ea y=true∧Oper.apart c.ops oa o=true∧xT c.ops c.tab i o y log=true:=by
   intro y h
   refine⟨?_,?_,E3 (fun e he=>by simp[he]) h⟩
   all_goals
    unfold xT at h
    rw[List.all_cons,Bool.and_eq_true] at h
    have:=h.1
    simp only[hoa,Bool.false_or,Bool.and_eq_true] at this
   ·exact this.1
   ·exact this.2
  have hap:Oper.apart c.ops oa o=true:=by
   obtain⟨_,_,y,_,hl,_⟩:=G.den_ex hr'.2
   exact (hlog hl).2.1
  obtain⟨p1,p2,p3⟩:=Oper.apart_spec hap
  have:=WE (hi:=c.hi) (hcong a oa) (hcong i o) p1 p2 p3 hea (C:=fun y=>xT c.ops c.tab i o y log=true) (K:=c.rr true K (l1++l2) (⟨a,oa,ea⟩::log))
   (Ef.run_mono (fun x' ⟨y,hy,hl,hrun⟩=>⟨y,hy,(hlog hl).1,(hlog hl).2.2,hrun⟩) hr')
  obtain⟨y,hy,he,hC,hrun⟩:=this
  exact⟨y,hy,hC,Ef.run_mono (fun x' ⟨h1,h3⟩=>⟨ea,h1,fun _=>hc,h3⟩) hrun⟩
def CC (hi:Nat) (F:Own) (x:CS) (H:Heap) (a:Act) (w:World):Prop :=
 (∃ O,Wj x.h.ms O∧Conc F x.s H O a w)∧(∀ n,x.s.next≤n→x.s.mem n=none)∧hi≤x.s.next
def RX.Sound (c:RX) (H:Heap):Prop:=∀ i o x e,c.ops[i]?=some o→c.N i o x=some e→∀ (F:Own) (a:Act) (w:World) (K:CS→Prop) (Q:Exit→Act→World→Prop),
 CC c.hi F x H a w→e.run c.hi o.dst x K→wp1 c.P c.ops Q o (fun a' w'=>∃ x',CC c.hi F x' H a' w'∧K x') a w
theorem RX.any {c:RX} (hcong:∀ i o,QV (c.N i o) (o.looksAt c.ops)) {H:Heap} (hsound:c.Sound H) (R:RC) (hRo:R.ops=c.ops) (hRt:R.tab=c.tab) (hT:Vm R) {F:Own} {K:CS→Prop} {Q:Exit→Act→World→Prop}:∀ (n:Nat) {l:List (Nat × Oper)} {fuel:Nat} {L:Array Bool} {x:CS} {a:Act} {w:World},
  l.length=n→n≤fuel→Inv R L l→CC c.hi F x H a w→c.rr true K l [] x →
  (∀ x' a' w',CC c.hi F x' H a' w'→K x'→Q .normal a' w')→wpAny c.P .any c.ops Q fuel L a w:=by
 intro n
 induction n with
 | zero =>
  intro l fuel L x a w hl hf hI hC hR hK
  have:l=[]:=List.eq_nil_of_length_eq_zero hl
  subst this
  refine wpAny_done ?_ (hK x a w hC hR) fuel
  refine List.eq_nil_iff_forall_not_mem.2 fun i hi=>?_
  obtain⟨o,ho⟩:=(hI.pend i).1 (mem_ready.1 hi).1
  simp at ho
 | succ n ih =>
  intro l fuel L x a w hl hf hI hC hR hK
  cases fuel with
  | zero=>omega
  | succ f =>
   refine⟨fun h0=>?_,fun i hi=>?_⟩
   ·exfalso
    match l,hl with
    | (i,o)::r,_ =>
     have:i ∈ Region.ready .any c.ops L:=by
      refine mem_ready.2 ⟨(hI.pend i).2 ⟨o,by simp⟩,o,by rw[← hRo];exact hI.op i o (by simp),fun e he hb=>?_⟩
      exact hI.topo.1 e.on (xY.2 ⟨e,he,hb,rfl⟩)
     rw[h0] at this;simp at this
   ·obtain⟨hun,o,ho,hall⟩:=mem_ready.1 hi
    obtain⟨o',hmem⟩:=(hI.pend i).1 hun
    have:o'=o:=by have:=hI.op i o' hmem;rw[hRo,ho] at this;exact (Option.some.inj this).symm
    subst this
    obtain⟨l1,l2,rfl⟩:=List.append_of_mem hmem
    have hpr:∀ p ∈ jw o',L.getD p false=true:=by
     intro p hp
     obtain⟨e,he,hb,rfl⟩:=xY.1 hp
     exact hall e he hb
    obtain⟨y,hy,_,hrun⟩:=RX.front hcong hR (fun e he=>by
     cases hoe:Il c.tab e.1 i with
     | false=>rfl
     | true =>
      exfalso
      have hu:L.getD e.1 false=false:=hI.unlisted (o:=e.2) (by simp[he])
      rcases hT i e.1 o' (by rw[hRt];exact hoe) (by rw[hRo];exact ho) with h1 | ⟨p,hp,h1⟩
      ·rw[hpr _ h1] at hu;cases hu
      ·rw[hI.closed p e.1 (hpr p hp) h1] at hu;cases hu)
    have hs:=hsound i o' x y ho hy F a w _ Q hC hrun
    have hwp:wpOp c.P c.ops Q i (fun a' w'=>∃ x',CC c.hi F x' H a' w'∧c.rr true K (l1++l2) [] x') a w:=by
     unfold wpOp
     rw[ho]
     exact hs
    refine wpOp_mono ?_ hwp
    rintro a' w' ⟨x',hC',hR'⟩
    refine ih (l:=l1++l2) ?_ (by omega) (hI.step hT hpr) hC' hR' hK
    simp only[List.length_append,List.length_cons] at hl ⊢;omega
theorem CC.drew {hi:Nat} {F:Own} {x:CS} {H:Heap} {a:Act} {w:World} (h:CC hi F x H a w) (n:Nat):CC hi F x H a { w with drawn:=n } :=
 let ⟨⟨O,h1,h2⟩,h3,h4⟩:=h;⟨⟨O,h1,h2.drew n⟩,h3,h4⟩
variable {P:Program}
def VN:Value→Bool
 | .int _ _ | .bool _ | .string _ | .nilFunc | .nilIface=>true
 | .pointer none | .slice none _ _ | .map none=>true
 | _=>false
def JH:At→At
 | .v x=>if VN x then .k x else .v x
 | a=>a
def GA:S1→S1
 | .at a=>.at (JH a)
 | .agg l=>.agg (l.map JH)
def MR:SV→SV
 | .s x=>.s (GA x)
 | .tup l=>.tup (l.map GA)
 | .opt gl x=>.opt gl (GA x)
theorem Di (a:At):(JH a).den=a.den:=by
 cases a <;> simp only[JH]
 split <;> rfl
theorem Lq {a:At} (h:a.ok):(JH a).ok:=by
 cases a <;> simp only[JH] <;> first | exact h | skip
 split
 ·trivial
 ·exact h
theorem Dh (x:S1):(GA x).den=x.den:=by
 rcases x with a | l
 · exact Di a
 · simp only[GA,S1.den,List.map_map,Function.comp_def,Di]
theorem Gz {x:S1} (h:x.ok):(GA x).ok:=by
 rcases x with a | l
 · exact nP (Lq (h a (by simp[S1.cells])))
 · intro a ha
   simp only[GA,S1.cells,List.mem_map] at ha
   obtain⟨b,hb,rfl⟩:=ha
   exact Lq (h b (by simpa [S1.cells] using hb))
theorem RL {x:SV} (h:x.ok):(MR x).ok:=by
 cases x with
 | s x=>exact Gz h
 | tup l =>
  intro y hy
  obtain⟨z,hz,rfl⟩:=List.mem_map.1 hy
  exact Gz (h z hz)
 | opt gl x=>exact Gz h
theorem Pi {x:SV} {v:Value} (h:x.rel v):(MR x).rel v:=by
 cases x with
 | s x =>
  rcases x with a | l
  · have hd:=Di a
    cases a <;> simp only[MR,GA,JH] at hd ⊢ <;> first | exact h | skip
    split
    ·exact h
    ·exact h
  · have:v=(S1.agg l).den:=h
    show v=(GA (.agg l)).den
    rw[Dh];exact this
 | tup l =>
  simp only[MR,SV.rel,List.map_map,Function.comp_def,Dh]
  exact h
 | opt gl x =>
  simp only[MR,SV.rel,Dh]
  exact h
def MO (P:Program) (t:TypeId) (cs:Array Value) (off:Nat):Option Value :=
 (oQ P t).bind fun m=>if eS P t then some (.agg (cs.extract off (off + m))) else cs[off]?
theorem ql {t:TypeId} {cs:Array Value} {off:Nat} {v:Value} (h:MO P t cs off=some v) (w:World):(part t cs off).run P w=.ok v w:=by
 simp only[MO,Option.bind_eq_some_iff] at h
 obtain⟨m,hm,h⟩:=h
 unfold part
 rw[Sem.run_bind,uZ hm]
 simp only[Result.andThen_ok]
 split at h
 ·rename_i hA
  simp only[Option.some.injEq] at h
  subst h
  rw[if_pos hA,Sem.run_bind,bC hm]
  rfl
 ·rename_i hA
  rw[if_neg hA,h]
  rfl
def Vr (eq:TypeId→Value→Value→Option Bool) (P:Program) (xs ys:Array Value):List Field→Option Bool
 | []=>some true
 | f::fs =>
  if f.name= "_" then Vr eq P xs ys fs else
  match MO P f.type xs f.offset,MO P f.type ys f.offset with
  | some a,some b=>match eq f.type a b with
   | some true=>Vr eq P xs ys fs
   | some false=>some false
   | none=>none
  | _,_=>none
def Qk (eq:TypeId→Value→Value→Option Bool) (P:Program) (t:TypeId) (n:Nat) (xs ys:Array Value):List Nat→Option Bool
 | []=>some true
 | i::r =>
  match MO P t xs (i * n),MO P t ys (i * n) with
  | some a,some b=>match eq t a b with
   | some true=>Qk eq P t n xs ys r
   | some false=>some false
   | none=>none
  | _,_=>none
def eqC (P:Program):Nat→TypeId→Value→Value→Option Bool
 | 0,_,_,_=>none
 | d + 1,t,x,y =>
  match P.underlying t,x,y with
  | some .bool,.bool a,.bool b=>some (a == b)
  | some (.int _),.int k a,.int k' b=>if k=k' then some (a == b) else none
  | some .string,.string a,.string b=>some (a.toList == b.toList)
  | some (.struct fs),.agg xs,.agg ys=>if P.stoodInHeld t then none else Vr (eqC P d) P xs ys fs.toList
  | some (.array len elem),.agg xs,.agg ys=>(oQ P elem).bind fun n=>Qk (eqC P d) P elem n xs ys (List.range' 0 len)
  | _,_,_=>none
theorem GU {d:Nat} (ih:∀ t x y b,eqC P d t x y=some b→∀ m w,(Op.equalIn (d + m) t x y).run P w=.ok b w) {xs ys:Array Value} (m:Nat) (w:World):∀ (fs:List Field) (b:Bool),
  Vr (eqC P d) P xs ys fs=some b→(Op.eqFields (d + m) xs ys fs).run P w=.ok b w
 | [],b,h=>by simp only[Vr,Option.some.injEq] at h;subst h;rfl
 | f::fs,b,h=>by
  simp only[Vr] at h
  simp only[Op.eqFields]
  split at h
  ·rename_i hn;rw[if_neg (by simpa using hn)];exact GU ih m w fs b h
  ·rename_i hn
   rw[if_pos hn]
   split at h
   ·rename_i va vb ha hb
    simp only[Sem.run_bind,ql ha,ql hb,Result.andThen_ok]
    split at h
    ·rename_i he
     rw[ih _ _ _ _ he]
     simp only[Result.andThen_ok,Bool.not_true,Bool.false_eq_true,if_false]
     exact GU ih m w fs b h
    ·rename_i he
     simp only[Option.some.injEq] at h
     subst h
     rw[ih _ _ _ _ he]
     simp only[Result.andThen_ok,Bool.not_false,if_true,Sem.run_pure]
    ·simp at h
   ·simp at h
theorem DL:∀ (d:Nat) (t:TypeId) (x y:Value) (b:Bool),eqC P d t x y=some b→∀ m w,(Op.equalIn (d + m) t x y).run P w=.ok b w
  | 0,t,x,y,b,h=>by simp[eqC] at h
  | d + 1,t,x,y,b,h=>by
    intro m w
    rw[show d + 1 + m=(d + m) + 1 by omega]
    unfold eqC at h
    split at h
    · rename_i u a b' hu
      simp only[Option.some.injEq] at h;subst h
      exact run_equalIn_bool' w _ _ _ _ hu
    · rename_i u k' k a k2 b' hu
      split at h
      · rename_i e
        simp only[Option.some.injEq] at h;subst h;subst e
        exact run_equalIn_int w _ _ _ _ _ _ hu
      · simp at h
    · rename_i u a b' hu
      simp only[Option.some.injEq] at h;subst h
      exact run_equalIn_string w _ _ _ _ hu
    · rename_i u fs xs ys hu
      split at h
      · simp at h
      · rename_i hs
        have hf:P.fieldsOf t=fs:=by unfold Program.fieldsOf;rw[hu]
        rw[run_equalIn_struct w _ _ _ _ (by rw[hf];exact hu) (by simpa using hs),hf]
        exact GU (DL d) m w _ _ h
    · rename_i u len elem xs ys hu
      simp only[Option.bind_eq_some_iff] at h
      obtain⟨n,hn,h⟩:=h
      have key:∀ (l:List Nat) (b:Bool),Qk (eqC P d) P elem n xs ys l=some b →
          ((do
            let r ← forIn l ((none,()):Option Bool × Unit) fun i _=>do
              if !(← Op.equalIn (d + m) elem (← part elem xs (i * n)) (← part elem ys (i * n))) then pure (.done (some false,())) else pure (.yield (none,()))
            match r.fst with
            | some a=>pure a
            | none=>pure true):Sem Bool).run P w=.ok b w:=by
        intro l
        induction l with
        | nil=>intro b h;simp only[Qk,Option.some.injEq] at h;subst h;rfl
        | cons i r ih =>
          intro b h
          simp only[Qk] at h
          split at h
          · rename_i va vb ha hb
            split at h
            · rename_i he
              have:=ih b h
              simp only[List.forIn_cons,Sem.run_bind,ql ha,ql hb,Result.andThen_ok,DL d _ _ _ _ he,Bool.not_true,Bool.false_eq_true,if_false,Sem.run_pure] at this ⊢
              exact this
            · rename_i he
              simp only[Option.some.injEq] at h
              subst h
              simp only[List.forIn_cons,Sem.run_bind,ql ha,ql hb,Result.andThen_ok,DL d _ _ _ _ he,Bool.not_false,if_true,Sem.run_pure]
            · simp at h
          · simp at h
      simp only[Op.equalIn,Sem.run_bind,run_underlying hu,Result.andThen_ok,bC hn]
      have:=key _ _ h
      simp only[Sem.run_bind] at this
      simp only[Std.Legacy.Range.forIn_eq_forIn_range',Std.Legacy.Range.size]
      simp at this ⊢
      refine Eq.trans ?_ this
      congr 1
      funext a w'
      obtain⟨a,_⟩:=a
      cases a <;> rfl
    · simp at h
def MJ (P:Program) (op:PrimOp) (args:List Value):Option Value :=
 match op,args with
 | .eqv .eql t _,[.agg a,.agg b]=>if P.eqGuardType P.depth t then none else (eqC P 100 t (.agg a) (.agg b)).map .bool
 | .eqv .neq t _,[.agg a,.agg b]=>if P.eqGuardType P.depth t then none else (eqC P 100 t (.agg a) (.agg b)).map fun b=>.bool (!b)
 | _,_=>none
theorem KY {op:PrimOp} {args:List Value} {v:Value} (h:MJ P op args=some v) (w:World):(op.sem args).run P w=.ok (.value v) w∧v.oneCell'=true:=by
 unfold MJ at h
 split at h
 ·rename_i t c a b
  split at h
  ·simp at h
  ·rename_i hg
   simp only[Option.map_eq_some_iff] at h
   obtain⟨r,hr,rfl⟩:=h
   refine⟨?_,rfl⟩
   simp only[PrimOp.sem,Sem.run_bind,run_eqGuard_agg w _ _ _ _ _ _ (by simpa using hg),Result.andThen_ok,run_eql_struct,DL 100 _ _ _ _ hr 9900 w,Sem.run_pure]
 ·rename_i t c a b
  split at h
  ·simp at h
  ·rename_i hg
   simp only[Option.map_eq_some_iff] at h
   obtain⟨r,hr,rfl⟩:=h
   refine⟨?_,rfl⟩
   simp only[PrimOp.sem,Sem.run_bind,run_eqGuard_agg w _ _ _ _ _ _ (by simpa using hg),Result.andThen_ok,run_neq_struct,DL 100 _ _ _ _ hr 9900 w,Sem.run_pure]
 ·simp at h
variable {P:Program}
abbrev W5:=Nat→Option (List Value)
def GlobOk (gl:W5) (H:Heap):Prop:=∀ g cs,gl g=some cs→Ones cs∧∀ off m,off + m≤cs.length→H.read (.pointer (some ⟨g,off,none⟩)) m=some ((cs.drop off).take m)
theorem GlobOk.le {gl:W5} {H H':Heap} (h:GlobOk gl H) (hl:Heap.le H H'):GlobOk gl H':=fun g cs hg=>⟨(h g cs hg).1,fun off m hle=>hl.read ((h g cs hg).2 off m hle)⟩
theorem Conc.tmps {F:Own} {s s':SS} {H:Heap} {O:Own} {a:Act} {w:World} (h:Conc F s H O a w) (hz:s'.sz=s.sz) (hm:s'.mem=s.mem) (ht:∀ t,(s'.tmps t)=s.tmps t∨s'.tmps t=MR (s.tmps t)) :
  Conc F s' H O a w:=by
 refine⟨⟨fun t=>?_,fun n b hb=>h.ok.2 n b (by rw[← hm];exact hb)⟩,h.df,by rw[hz];exact h.sz,fun t=>?_,by rw[hm];exact h.mm⟩
 ·rcases ht t with e | e
  ·rw[e];exact h.ok.1 t
  ·rw[e];exact RL (h.ok.1 t)
 ·rcases ht t with e | e
  ·rw[e];exact h.tm t
  ·rw[e];exact Pi (h.tm t)
variable {P:Program}
inductive Out where
 | nrm (x:CS)
 | ext (j:Nat) (x:CS)
 | ret (x:CS)
def Out.cs:Out→CS
 | .nrm x | .ext _ x | .ret x=>x
def Out.exit:Out→Exit
 | .nrm _=>.normal
 | .ext j _=>.exit j
 | .ret _=>.ret
def TB (l:List (Nat × Nat × Nat)) (n:Nat):Option (Nat × Nat) :=
 match l with
 | []=>none
 | (k,a)::r=>if n=k then some a else TB r n
def cellsOf (x:CS) (n:Nat):List At :=
 match x.s.mem n with
 | some b=>match TB x.h.gr n with
  | some k=>b.cs.take k.1
  | none=>b.cs
 | none=>[]
variable {P:Program}
def lit:At→Option Value
 | .k v=>some v
 | .v v=>some v
 | _=>none
def jI (P:Program) (e:TypeId):Nat:=((P.info? e).map (·.bytes)).getD 0
def Jj (P:Program) (t e:TypeId) (size:Nat):Bool :=
 match P.underlying t,P.info? e with
 | some (.slice e'),some i=>e' == e && i.size == size && (i.zero.map fun z=>z.cells.size == size).getD false && decide (0 < size)
 | _,_=>false
variable {P:Program}
theorem zr {w:World} {H:Heap} {r:Nat} {vs vs':List Value} {T:TypeId} {O:Own} (hm:Models w H ((r,.cells vs.toArray T (0,0))::O)):Models (w.setRow r vs'.toArray) H ((r,.cells vs'.toArray T (0,0))::O):=by
 have hr:=(hm.own (r,.cells vs.toArray T (0,0)) (by simp)).1
 refine hm.update (fun b hb=>?_) (setRow_heap w r _ _ _ _ hr) rfl
 simp only[World.setRow,Array.getElem?_modify]
 rw[if_neg (fun e=>hb e.symm)]
theorem Iu {w:World} {H:Heap} {O:Own} (hm:Models w H O) (cs:Array Value) (e:TypeId):Models (w.drew.alloc (.cells cs e)) H ((w.heap.size,.cells cs e (0,0))::O):=by
 have h1:Models w.drew H O:=hm.same rfl rfl
 exact (h1.push (.cells cs e (0,0)))
theorem Gq {t tx ty e:TypeId} {i:TypeInfo} (ht:P.underlying t=some (.slice e)) (hi:P.info? e=some i) {w:World} {base:Option Addr} {len cap:Nat} {x:Value} {news:List Value} (hs:Src P i.size tx x 0 news w) (hle:len≤cap) :
  (Builtin.append_ #[t,tx] ty #[.slice base len cap,x]).run P w=.ok (.slice base len cap) w:=by
 have hn:news=[]:=List.eq_nil_of_length_eq_zero (by rw[hs.newsLen,Nat.zero_mul])
 subst hn
 rcases hs.kind with ⟨e',hk⟩ | hk <;> cases base <;> simp[Builtin.append_,run_underlying ht,run_underlying hk,sizeOf,typeInfo,hi,hs.len,hle,hs.cells,storeCells]
theorem NM {t e:TypeId} {size:Nat} (h:Jj P t e size=true):P.underlying t=some (.slice e)∧∃ i z,P.info? e=some i∧i.size=size∧i.zero=some z∧z.cells.size=size∧0 < size∧jI P e=i.bytes:=by
 unfold Jj at h
 split at h
 ·rename_i e' i hu hi
  simp only[Bool.and_eq_true,beq_iff_eq,decide_eq_true_eq] at h
  obtain⟨⟨⟨rfl,hsz⟩,hz⟩,h0⟩:=h
  cases hzz:i.zero with
  | none=>rw[hzz] at hz;simp at hz
  | some z =>
   rw[hzz] at hz
   simp only[Option.map_some,Option.getD_some,beq_iff_eq] at hz
   exact⟨hu,i,z,hi,hsz,hzz,hz,h0,by simp[jI,hi]⟩
 ·cases h
variable {P:Program}
variable {P:Program}
theorem B9 {t t2 ty e:TypeId} {i:TypeInfo} (ht:P.underlying t=some (.slice e)) (hi:P.info? e=some i) {w:World} {r off dLen dCap:Nat} {vs:List Value} {T:TypeId} (hr:w.heap[r]?=some (.cells vs.toArray T (0,0)))
  {x:Value} {k m:Nat} {cs:List Value} (hl:∀ w':World,(Builtin.lenOf x).run P w'=.ok m w') (hk:k=min m dLen) (hcells:(Builtin.firstCells i.size k x).run P w=.ok cs.toArray w) (hfit:off + cs.length≤vs.length) (h1:∀ v ∈ cs,v.oneCell'=true) :
  (Builtin.copy_ #[t,t2] ty #[.slice (some ⟨r,off,none⟩) dLen dCap,x]).run P w=.ok (goInt k) (w.setRow r (vs.take off++cs++vs.drop (off + cs.length)).toArray):=by
 have hst:=run_storeCells_at P r off T cs 0 vs.toArray w hr (by simpa using hfit) h1
 simp only[Nat.add_zero] at hst
 have hk':m.min dLen=k:=hk.symm
 simp[Builtin.copy_,run_underlying ht,sizeOf,typeInfo,hi,hl,hk',hcells,hst]
theorem HL {t ty e:TypeId} {z:Value} (ht:P.underlying t=some (.slice e)) (hz:∀ w,(zeroValue e).run P w=.ok z w) {w:World} {r off n cap:Nat} {vs:List Value} {T:TypeId} (hr:w.heap[r]?=some (.cells vs.toArray T (0,0)))
  (hfit:off + n * z.cells.size≤vs.length) (h1:∀ v ∈ (Builtin.zeroCells z.cells n).toList,v.oneCell'=true) :
  (Builtin.clear_ #[t] ty #[.slice (some ⟨r,off,none⟩) n cap]).run P w=.ok (.tuple #[]) (w.setRow r (vs.take off++(Builtin.zeroCells z.cells n).toList++vs.drop (off + (Builtin.zeroCells z.cells n).toList.length)).toArray):=by
 cases n with
 | zero =>
  have e0:(Builtin.zeroCells z.cells 0).toList=[]:=by simp[Builtin.zeroCells]
  rw[e0]
  simp only[List.append_nil,List.length_nil,Nat.add_zero,List.take_append_drop]
  rw[setRow_self w r vs.toArray T (0,0) hr]
  simp[Builtin.clear_,run_underlying ht]
 | succ n =>
  have hst:=run_storeCells_at P r off T (Builtin.zeroCells z.cells (n + 1)).toList 0 vs.toArray w hr (by simpa [size_zeroCells] using hfit) h1
  simp only[Nat.add_zero] at hst
  simp[Builtin.clear_,run_underlying ht,hz,hst]
variable {P:Program}
variable {P:Program}
end Go.Sx
namespace Go.Sx
open Go Go.ChangeShapes Go.WideShapes
variable {P:Program}
theorem MH {H:Heap} {g:Nat} {cs:List Value} (h:∀ i v,cs[i]?=some v→H.cell? ⟨g,i,none⟩=some v) {off m:Nat} (hle:off + m≤cs.length):H.read (.pointer (some ⟨g,off,none⟩)) m=some ((cs.drop off).take m):=by
 simp only[Heap.read]
 have key:∀ (n i:Nat),i + n=m→(List.range' i n).mapM (fun i=>H.cell? ((⟨g,off,none⟩:Addr).add i))=some (((cs.drop off).drop i).take n):=by
  intro n
  induction n with
  | zero=>intro i _;simp
  | succ n ih =>
   intro i hi
   have hlt:off + i < cs.length:=by omega
   have hc:H.cell? ((⟨g,off,none⟩:Addr).add i)=some cs[off + i]:=by
    rw[cL]
    exact h _ _ (List.getElem?_eq_getElem hlt)
   rw[List.range'_succ,List.mapM_cons,hc,ih (i + 1) (by omega)]
   simp only[Option.pure_def,Option.bind_eq_bind,Option.bind_some]
   congr 1
   rw[show (cs.drop off).drop i=cs[off + i]::(cs.drop off).drop (i + 1) by
    rw[List.drop_drop,List.drop_drop,List.drop_eq_getElem_cons hlt];rfl]
   rfl
 rw[List.range_eq_range']
 simpa using key m 0 (by omega)
theorem IL {T:Type} {enc:TypeId × Value→T} {w:World} {base:Nat} {sp:Nat→Bool} {held:Bool} {fuel:Nat} {t e:TypeId} {n b:Nat} {k:IntKind} {cs:Array Value} {l:List Int} {ps:List MemPlace} (ht:P.underlying t=some (.array n e)) (he:P.underlying e=some (.int k)) (hc:P.cellsOf e=1)
  (hn:l.length=n) (hd:DataW.trod enc P w base sp held fuel t cs.toList=some (.agg (l.map fun s=>.lit (.int k s)),ps)) (hv:∀ i:Nat,w.cell? ⟨b,i,none⟩=cs[i]?) :
  ∀ i v,(l.map fun n=>Value.int k n)[i]?=some v→(yd w).cell? ⟨b,i,none⟩=some v:=by
 obtain⟨xs,m,_,hx,hlen,hxl,hel⟩:=DataW.trod_array ht hd
 simp only[Prod.mk.injEq,DataW.agg.injEq] at hx
 intro i r hr
 rw[List.getElem?_map,Option.map_eq_some_iff] at hr
 obtain⟨s,hs,rfl⟩:=hr
 have hi:i < n:=by rw[← hn];exact (List.getElem?_eq_some_iff.1 hs).1
 have hix:i < xs.length:=by omega
 have h1:=hel i hi
 rw[List.getElem?_eq_getElem hix,hc,Nat.mul_one] at h1
 obtain⟨u,hu,hux,_⟩:=DataW.trod_int he h1
 have hsu:s=u:=by
  have:=congrArg (fun l=>l[i]?) hx.1
  simp only[List.getElem?_map,hs,List.getElem?_eq_getElem hix,Option.map_some,Option.some.injEq,hux,DataW.lit.injEq,Lit.int.injEq,true_and] at this
  exact this
 have hcell:cs[i]?=some (.int k s):=by
  have:=congrArg (fun l=>l[0]?) hu
  simp only[List.getElem?_take,List.getElem?_drop,Nat.add_zero] at this
  simp only[Nat.lt_add_one,if_true,Array.getElem?_toList,List.getElem?_cons_zero] at this
  rw[this,hsu]
 rw[JZ,hv i,hcell]
theorem Np {g:Nat} {cs:List Value} {H:Heap} (ho:Ones cs) (h:∀ i v,cs[i]?=some v→H.cell? ⟨g,i,none⟩=some v):GlobOk (fun n=>if n=g then some cs else none) H:=by
 intro n ds hn
 simp only[] at hn
 split at hn
 ·rename_i e
  simp only[Option.some.injEq] at hn
  subst hn;subst e
  exact⟨ho,fun off m hle=>MH h hle⟩
 ·cases hn
variable {P:Program}
theorem NW {H:Heap} {n:Nat} {e:TypeId} (he:P.underlying e=some (.int .i64)):∀ {rows:List (List Value)},(∀ r ∈ rows,Wf P H n e r)→∃ l:List Int,rows=l.map fun n=>[.int .i64 n]
 | [],_=>⟨[],rfl⟩
 | r::rs,h=>by
  obtain⟨l,hl⟩:=NW he (rows:=rs) fun x hx=>h x (by simp[hx])
  have:=h r (by simp)
  cases n with
  | zero=>exact this.elim
  | succ n =>
   unfold Wf at this
   rw[he] at this
   obtain⟨x,rfl,_⟩:=this
   exact⟨x::l,by rw[hl];rfl⟩
end Go.Sx
namespace Go.Sx
open Go
variable {P:Program}
variable {P:Program}
end Go.Sx
