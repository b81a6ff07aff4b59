/- ResolveTops: the law's mild, allowed. -/
import Derived.Test.YtdhobpmnkfmcfaaGreatDoorC84
import Derived.Test.YtdhobpmnkfmcfaaGreatDoorC51
namespace Go.Proofs.YtdhobpmnkfmcfaaGreatDoor
open Go Go.Sx
set_option maxRecDepth 100000
set_option maxHeartbeats 1000000
theorem Qr {H:Heap} (O:Own) {v:Value} {cs:List CdX} (h:CardsX H v cs) {i:Nat} (hi:i < cs.length) :
  ∃ a r,ak (.idx 14) [v,iV i]=some (.pointer (some a))∧CdRX H r cs[i]∧Reads H O (aO (.pointer (some a)) 11) 1 [g r 11]∧Reads H O (aO (.pointer (some a)) 12) 1 [g r 12]:=by
 obtain⟨rows,h1,h2,h3⟩:=h
 have hlt:i < rows.length:=by omega
 obtain⟨a,k1,k2,k3,k4,k5⟩:=(h1.rsl O).idx .i64 i rows[i] (by simp[hlt])
 refine⟨a,rows[i],k1,h3 i _ _ (List.getElem?_eq_getElem hlt) (List.getElem?_eq_getElem hi),?_,?_⟩
 ·have e:((rows[i]).drop 11).take 1=[g rows[i] 11]:=by
   rw[g,List.getD_eq_getElem?_getD,List.getElem?_eq_getElem (by omega),List.drop_eq_getElem_cons (by omega)];rfl
  rw[← e];exact k3 11 1 (by omega)
 ·have e:((rows[i]).drop 12).take 1=[g rows[i] 12]:=by
   rw[g,List.getD_eq_getElem?_getD,List.getElem?_eq_getElem (by omega),List.drop_eq_getElem_cons (by omega)];rfl
  rw[← e];exact k3 12 1 (by omega)
theorem N3 {H:Heap} (O:Own) {v:Value} {tr:List (List Eff)} (h:TrsX H v tr) {i:Nat} (hi:i < tr.length) :
  ∃ a s,ak (.idx 2) [v,iV i]=some (.pointer (some a))∧Sl H 5 s (iL tr[i])∧Reads H O (aO (.pointer (some a)) 1) 1 [s]:=by
 obtain⟨rows,h1,h2,h3⟩:=h
 have hlt:i < rows.length:=by omega
 obtain⟨a,k1,k2,k3,k4,k5⟩:=(h1.rsl O).idx .i64 i rows[i] (by simp[hlt])
 refine⟨a,g rows[i] 1,k1,h3 i _ _ (List.getElem?_eq_getElem hlt) (List.getElem?_eq_getElem hi),?_⟩
 have e:((rows[i]).drop 1).take 1=[g rows[i] 1]:=by
  rw[g,List.getD_eq_getElem?_getD,List.getElem?_eq_getElem (by omega),List.drop_eq_getElem_cons (by omega)];rfl
 rw[← e];exact k3 1 1 (by omega)
theorem TrsX.len {H:Heap} {v:Value} {l:List (List Eff)} (h:TrsX H v l):ak .len [v]=some (iV l.length)∧v.oneCell'=true∧l.length < 2 ^ 63:=by
 obtain⟨rows,h1,h2,_⟩:=h
 have:=h1.len;rw[h2] at this
 have hB:=h1.lenB;rw[h2] at hB
 exact⟨this,h1.one,hB⟩
theorem DN {H:Heap} {v:Value} {l:List Eff} (h:Sl H 5 v (iL l)):ak .len [v]=some (iV l.length)∧l.length < 2 ^ 63:=by
 have:=h.len;rw[qC] at this
 have hB:=h.lenB;rw[qC] at hB
 exact⟨this,hB⟩
theorem V2 {H:Heap} {v:Value} {cs:List CdX} (h:CardsX H v cs):Triple PP oK [v] H [] fun r _ O'=>(∃ b,r=.bool b)∧O'=[]:=by
 refine tI (vs:=[v]) (by kernel_rfl) ⟨h.one,trivial⟩ ?_
 simp only[ou]
 have hB:cs.length < 2 ^ 63:=by
  obtain⟨rows,h1,h2,_⟩:=h
  have:=h1.lenB;omega
 refine aQ cs.length (fun _ H' O'=>O'=[]∧Heap.le H H') ⟨rfl,Heap.le_refl H⟩ ?_
 rintro i H1 O1 hi - ⟨rfl,hle⟩
 have h:=h.le hle
 refine ab _ h.len ?_
 refine ab _ (aB _ _) (ai (fun hb=>?_) (fun _=>ah ⟨⟨_,rfl⟩,rfl⟩))
 have hlt:i < cs.length:=by simpa using hb
 obtain⟨a,r,k1,k2,k3,k4⟩:=Qr [] h hlt
 obtain⟨elen,eB⟩:=DN k2.eff
 refine aQ cs[i].effs.length (fun _ H' O'=>O'=[]∧Heap.le H1 H') ⟨rfl,Heap.le_refl _⟩ ?_
 rintro k H2 O2 hk - ⟨rfl,hle2⟩
 refine ab _ k1 ?_
 refine aw rfl ?_
 refine ap (iN k3 hle2) rfl ⟨k2.eff.one,trivial⟩ ?_
 refine ab _ elen ?_
 refine ab _ (aB _ _) (ai (fun hd=>?_) (fun _=>?_))
 ·have hklt:k < cs[i].effs.length:=by simpa using hd
  obtain⟨a2,m1,_,m3,_⟩:=((k2.eff.le hle2).rsl ([]:Own)).idx .i64 k _ (ny hklt)
  refine ab _ k1 ?_
  refine aw rfl ?_
  refine ap (iN k3 hle2) rfl ⟨k2.eff.one,trivial⟩ ?_
  refine ab _ m1 ?_
  refine aw rfl ?_
  refine ap (m3 2 1 (by omega)) rfl ⟨rfl,trivial⟩ ?_
  refine ab _ (bK _ _) (ai (fun _=>ah ⟨⟨_,rfl⟩,rfl⟩) (fun _=>?_))
  exact ab _ (az (by omega)) (aI (by simp[Eqs,E]) hklt ⟨rfl,hle2⟩)
 obtain⟨tlen,tone,tB⟩:=TrsX.len k2.trig
 refine aQ cs[i].trs.length (fun _ H' O'=>O'=[]∧Heap.le H1 H') ⟨rfl,hle2⟩ ?_
 rintro j H3 O3 hj - ⟨rfl,hle3⟩
 refine ab _ k1 ?_
 refine aw rfl ?_
 refine ap (iN k4 hle3) rfl ⟨tone,trivial⟩ ?_
 refine ab _ tlen ?_
 refine ab _ (aB _ _) (ai (fun hd=>?_) (fun _=>?_))
 ·have hjlt:j < cs[i].trs.length:=by simpa using hd
  obtain⟨a3,s,n1,n2,n3⟩:=N3 [] (k2.trig.le hle3) hjlt
  obtain⟨slen,sB⟩:=DN n2
  refine aQ cs[i].trs[j].length (fun _ H' O'=>O'=[]∧Heap.le H3 H') ⟨rfl,Heap.le_refl _⟩ ?_
  rintro q H4 O4 hq - ⟨rfl,hle4⟩
  have hle34:=Heap.le_trans hle3 hle4
  refine ab _ k1 ?_
  refine aw rfl ?_
  refine ap (iN k4 hle34) rfl ⟨tone,trivial⟩ ?_
  refine ab _ n1 ?_
  refine aw rfl ?_
  refine ap (iN n3 hle4) rfl ⟨n2.one,trivial⟩ ?_
  refine ab _ slen ?_
  refine ab _ (aB _ _) (ai (fun he=>?_) (fun _=>?_))
  ·have hqlt:q < cs[i].trs[j].length:=by simpa using he
   obtain⟨a4,p1,_,p3,_⟩:=((n2.le hle4).rsl ([]:Own)).idx .i64 q _ (ny hqlt)
   refine ab _ k1 ?_
   refine aw rfl ?_
   refine ap (iN k4 hle34) rfl ⟨tone,trivial⟩ ?_
   refine ab _ n1 ?_
   refine aw rfl ?_
   refine ap (iN n3 hle4) rfl ⟨n2.one,trivial⟩ ?_
   refine ab _ p1 ?_
   refine aw rfl ?_
   refine ap (p3 2 1 (by omega)) rfl ⟨rfl,trivial⟩ ?_
   refine ab _ (bK _ _) (ai (fun _=>ah ⟨⟨_,rfl⟩,rfl⟩) (fun _=>?_))
   exact ab _ (az (by omega)) (aI (by simp[Eqs,E]) hqlt ⟨rfl,hle4⟩)
  ·exact ab _ (az (by omega)) (aI (by simp[Eqs,E]) hjlt ⟨rfl,hle34⟩)
 ·exact ab _ (az (by omega)) (aI (by simp[Eqs,E]) hlt ⟨rfl,Heap.le_trans hle hle3⟩)
def okE (e:Eff):Bool:=rF e && decide (e.n≤1000)
theorem VP (e:Eff):okE e=rF e:=by
 cases h:rF e
 ·rw[okE,h];rfl
 ·have:=(jF h).2.1
  rw[okE,h,decide_eq_true (by omega)];rfl
def qw (l:List Eff):List (List Value):=l.map fun e=>[.bool (rF e)]
theorem IH {H:Heap} {v:Value} {l:List Eff} (h:Sl H 5 v (iL l)) (hl:l.length≤1000):Triple PP kJ [v] H [] fun r H' O'=>Sl H' 1 r (qw l)∧O'=[]:=by
 refine Triple.frozenS (e:=wY) ?_
 refine qi (vs:=[v]) (by kernel_rfl) ⟨h.one,trivial⟩ ?_
 simp only[kr]
 obtain⟨vlen,_⟩:=DN h
 refine de l.length (fun i x H' O'=>Heap.le H H'∧OSl wY 1 x (qw (l.take i)) O') ⟨Heap.le_refl _,OSl.nil _ _⟩ ?_
 rintro i x H1 O1 hi - ⟨hle,hx⟩
 refine ab _ vlen ?_
 refine ab _ (aB _ _) (ai (fun hb=>?_) (fun hb=>?_))
 ·have hlt:i < l.length:=by simpa using hb
  obtain⟨a,k1,k2,k3,k4,k5⟩:=((h.le hle).rsl O1).idx .i64 i _ (ny hlt)
  refine ab _ k1 (ap k2 k4 k5 ?_)
  refine aj (show RetO PP lj [.agg l[i].row.toArray] H1 O1 (.bool (rF l[i])) from by simpa using (zI l[i] H1).frame O1) rfl ⟨rfl,trivial⟩ fun H2 l2=>?_
  refine ae (ae ?_)
  refine⟨.pointer (some a),fun _=>k1,.inr rfl,?_⟩
  refine aw rfl (ae (ae ?_))
  refine⟨[iV l[i].n],rfl,⟨rfl,trivial⟩,fun _=>iN (k3 2 1 (by omega)) l2,?_⟩
  refine ae ?_
  refine ab _ (eR _ _) ?_
  refine ae ?_
  refine ab _ (aT _ _) (af fun r0=>?_)
  have hlen:(qw (l.take i)).length≤1000:=by rw[qw,List.length_map,List.length_take];omega
  have e1:(rF l[i] && decide (l[i].n≤1000))=rF l[i]:=VP l[i]
  rw[e1]
  refine aC (rows:=qw (l.take i)) (news:=[[.bool (rF l[i])]]) (O1:=O1) (O2:=[]) (e:=wY) (size:=1) (bytes:=1) (by kernel_rfl) (by simp) hx (fun Hf _ hf=>Sl.block1 (hf _ List.mem_cons_self) rfl ⟨rfl,trivial⟩) (by rw[List.length_singleton];omega) (by rw[List.length_singleton];omega) ?_
  intro v' A' H6 l6 hA'
  refine ab _ (az (by omega)) (aS (by simp[Eqs,E]) hlt ⟨Heap.le_trans hle (Heap.le_trans l2 l6),?_⟩)
  rw[List.append_nil,qw,List.take_add_one,List.getElem?_eq_getElem hlt,Option.toList_some,List.map_append]
  exact hA'
 ·have hge:l.length≤i:=by simpa using hb
  rw[List.take_of_length_le hge] at hx
  exact ah hx
theorem y2 {b:Bd} (h:an b=true) {p:Int} (hp:p=0∨p=1) {s:St} (h1:s.lib=(ao b p).lib) (h2:s.hand=(ao b p).hand) (h3:s.field=(ao b p).field) (h4:s.grave=(ao b p).grave) (hok:bb s=true):an (aV b p s)=true:=by
 rcases hp with rfl | rfl
 ·have g1:s.lib=b.s0.lib:=h1
  have g2:s.hand=b.s0.hand:=h2
  have g3:s.field=b.s0.field:=h3
  have g4:s.grave=b.s0.grave:=h4
  show an { b with s0:=s }=true
  have e1:aL { b with s0:=s }=aL b:=by simp only[aL,cB,g1,g2,g3,g4]
  simp only[an,oW,bD,dm,e1,g3,hok,Bool.true_and] at h ⊢
  simp only[Bool.and_eq_true] at h ⊢
  obtain⟨a1,a2,a3,a4,a5,_,a7⟩:=h
  exact⟨a1,a2,a3,a4,a5,a7⟩
 ·have g1:s.lib=b.s1.lib:=h1
  have g2:s.hand=b.s1.hand:=h2
  have g3:s.field=b.s1.field:=h3
  have g4:s.grave=b.s1.grave:=h4
  show an { b with s1:=s }=true
  have e1:aL { b with s1:=s }=aL b:=by simp only[aL,cB,g1,g2,g3,g4]
  simp only[an,oW,bD,dm,e1,g3,hok,Bool.true_and] at h ⊢
  simp only[Bool.and_eq_true] at h ⊢
  obtain⟨a1,a2,a3,a4,a5,a6,_,a8⟩:=h
  exact⟨a1,a2,a3,a4,a5,a6,a8⟩
theorem Ax (x:Int) {m:Int} (hm:0≤m):au (bp x m) 0 m=true:=by
 have h:0≤bp x m∧bp x m≤m:=by simp only[bp];omega
 simp only[au,decide_eq_true_eq];exact h
theorem Nj {b:Bd} (h:an b=true) {p:Int} (hp:p=0∨p=1) (x:Int):an (iI b p (bp x 9999))=true:=by
 refine y2 h hp rfl rfl rfl rfl ?_
 have hs:=qb h p
 simp only[bb,Bool.and_eq_true] at hs ⊢
 exact⟨Ax _ (by omega),hs.2⟩
theorem Nh {b:Bd} (h:an b=true) {p:Int} (hp:p=0∨p=1) (c n:Int):an (aV b p (ep (ao b p) c n))=true:=by
 have hs:=qb h p
 have hc:∀ x,au (bp x 99) 0 99=true:=fun x=>Ax x (by omega)
 simp only[bb,Bool.and_eq_true,List.all_cons,List.all_nil] at hs
 obtain⟨k1,⟨k2,k3,k4,k5,_⟩,k6⟩:=hs
 refine y2 h hp ?_ ?_ ?_ ?_ ?_
 ·rw[ep];repeat' split
  all_goals rfl
 ·rw[ep];repeat' split
  all_goals rfl
 ·rw[ep];repeat' split
  all_goals rfl
 ·rw[ep];repeat' split
  all_goals rfl
 ·rw[ep]
  repeat' split
  all_goals simp only[bb,Bool.and_eq_true,List.all_cons,List.all_nil]
  ·exact⟨k1,⟨hc _,k3,k4,k5,trivial⟩,k6⟩
  ·exact⟨k1,⟨k2,hc _,k4,k5,trivial⟩,k6⟩
  ·exact⟨k1,⟨k2,k3,hc _,k5,trivial⟩,k6⟩
  ·exact⟨k1,⟨k2,k3,k4,hc _,trivial⟩,k6⟩
theorem I3 {b:Bd} (h:an b=true) {id:Int} (hi:ba b id=0) {f:Ob→Ob} (h1:∀ o,(f o).id=o.id∧(f o).card=o.card∧(f o).owner=o.owner) (hv:∀ o,aW o=true→aW (f o)=true):an (bV b id f)=true:=by
 obtain⟨k,e1,e2,e3,e4,_⟩:=dD hi
 obtain⟨j1,j2,j3⟩:=h1 (cY b id)
 rw[bV,HH hi (by rw[j1];exact e2) j2 j3 (hv _ e4),if_pos rfl,e3,Int.toNat_natCast]
 exact HG h e1 j1 j3 j2 (hv _ e4)
theorem LH {p:Int} (hp:p=0∨p=1):∀ (k:Nat) {b:Bd},an b=true→an (cq k b p)=true∧(∃ m,m≤(ao b p).lib.length∧(ao (cq k b p) p).lib=(ao b p).lib.take m)∧(∀ q,(ao (cq k b p) q).life=(ao b q).life) ∧
  (cq k b p).objs.length=b.objs.length∧(cq k b p).stack=b.stack∧∀ q,(q=0∨q=1)→q ≠ p→(ao (cq k b p) q).lib=(ao b q).lib
 | 0,b,h=>⟨h,⟨(ao b p).lib.length,Nat.le_refl _,by rw[List.take_length];rfl⟩,fun _=>rfl,rfl,rfl,fun _ _ _=>rfl⟩
 | k + 1,b,h=>by
  cases e:(ao b p).lib.getLast? with
  | none =>
   have hd:cq (k + 1) b p=aV b p { ao b p with empty:=true }:=by rw[cq,e]
   rw[hd]
   have hs:=qb h p
   refine⟨y2 h hp rfl rfl rfl rfl hs,⟨(ao b p).lib.length,Nat.le_refl _,?_⟩,?_,?_,?_,?_⟩
   ·rw[List.take_length];rcases hp with rfl | rfl <;> rfl
   ·intro q;rcases hp with rfl | rfl <;> (simp only[ao,aV];repeat' split) <;> first | rfl | omega
   ·rcases hp with rfl | rfl <;> rfl
   ·rcases hp with rfl | rfl <;> rfl
   ·intro q hq hne
    rcases hp with rfl | rfl <;> rcases hq with rfl | rfl <;> first | rfl | omega
  | some id =>
   have hd:cq (k + 1) b p=cq k (iz b p id) p:=by rw[cq,e]
   obtain⟨l,hl⟩:∃ l,(ao b p).lib=l++[id]:=⟨_,(List.getLast?_eq_some_iff.1 e).choose_spec⟩
   obtain⟨j,o,_,_,_,_,_,_,_,_,hdo,hvo⟩:=um h hp hl
   obtain⟨f1,⟨m,f2,f3⟩,f4,f5,f6,f7⟩:=LH hp k hvo
   rw[hd]
   have hlib:(ao (iz b p id) p).lib=l:=by
    have:(ao (iz b p id) p).lib=(ao b p).lib.dropLast:=by rcases hp with rfl | rfl <;> rfl
    rw[this,hl,List.dropLast_concat]
   rw[hlib] at f2 f3
   refine⟨f1,⟨m,by rw[hl,List.length_append];omega,by rw[f3,hl,List.take_append_of_le_length f2]⟩,?_,?_,?_,?_⟩
   ·intro q;rw[f4];rcases hp with rfl | rfl <;> (simp only[ao,iz,Ae,bT,aV,QY];repeat' split) <;> first | rfl | omega
   ·rw[f5];rcases hp with rfl | rfl <;> (simp only[iz,Ae,bT,aV,List.length_set];rfl)
   ·rw[f6];rcases hp with rfl | rfl <;> rfl
   ·intro q hq hne
    rw[f7 q hq hne]
    rcases hp with rfl | rfl <;> rcases hq with rfl | rfl <;> first | rfl | omega
theorem To:∀ {l:List Ob} {prev:Option Int},(∀ o ∈ l,∀ p,prev=some p→p < o.id)→(l.map (·.id)).Pairwise (· < ·)→E2 prev l=true
 | [],_,_,_=>rfl
 | a::l,prev,h,hp=>by
  rw[List.map_cons,List.pairwise_cons] at hp
  simp only[E2,Bool.and_eq_true,Bool.not_eq_true']
  refine⟨?_,To (fun o ho p e=>?_) hp.2⟩
  ·cases prev with
   | none=>rfl
   | some p =>
    have:=h a List.mem_cons_self p rfl
    show decide (p ≥ a.id)=false
    rw[decide_eq_false_iff_not];omega
  ·injection e with e
   rw[← e];exact hp.1 _ (List.mem_map_of_mem ho)
theorem PS:∀ {l:List Ob} {m:Int},(l.map (·.id)).Pairwise (· < ·)→(∀ o ∈ l,m < o.id)→∀ (j:Nat) (o:Ob),l[j]?=some o→m + 1 + j≤o.id
 | [],_,_,_,j,o,h=>by simp at h
 | a::l,m,hp,hm,0,o,h=>by
  simp at h;subst h
  have:=hm a List.mem_cons_self
  omega
 | a::l,m,hp,hm,j + 1,o,h=>by
  rw[List.map_cons,List.pairwise_cons] at hp
  have h0:=hm a List.mem_cons_self
  have:=PS (m:=m + 1) hp.2 (fun x hx=>by have:=hp.1 _ (List.mem_map_of_mem hx);omega) j o (by simpa using h)
  omega
theorem Le {b:Bd} (h:an b=true) {x:Int} (hx:x ∈ (aL b).map (·.1)):∃ o ∈ b.objs,o.id=x:=by
 obtain⟨⟨i,p⟩,hq,rfl⟩:=List.mem_map.1 hx
 obtain⟨k,o,e1,e2,_⟩:=IN (aM h).1 hq
 exact⟨o,List.mem_of_getElem? e1,e2⟩
theorem WB {b:Bd} {p:Int} (hp:p=0∨p=1) (pw tn:Int) (hm:aN b < 500):aW (y5 ((aN b:Int) + 1) p pw tn true)=true:=by
 have hN:∀ x,au (N5 x) 0 99=true:=fun x=>by
  have h:0≤N5 x∧N5 x≤99:=by simp only[N5];omega
  simp only[au,decide_eq_true_eq];exact h
 have h0:au 0 0 99=true:=by decide
 simp only[aW,Bool.and_eq_true,Bool.or_eq_true,List.all_cons,List.all_nil,decide_eq_true_eq,beq_iff_eq]
 refine⟨⟨⟨hN _,hN _,h0,h0,h0,h0,trivial⟩,⟨⟨⟨⟨.inl rfl,?_⟩,?_⟩,?_⟩,?_⟩⟩,hp⟩
 ·show (aN b:Int) + 1 ≥ 1;omega
 ·show (aN b:Int) + 1≤500;omega
 ·show (-1:Int) ≥ -1;omega
 ·show (-1:Int) < 400;omega
section
variable {b:Bd} (h:an b=true) {p:Int} (hp:p=0∨p=1) (pw tn:Int) (hm:aN b < 500)
include h
theorem KB (p:Int):((b.objs.take (aN b)++[y5 ((aN b:Int) + 1) p pw tn true]++b.objs.drop (aN b)).map (·.id)).Pairwise (· < ·)∧∀ o ∈ b.objs.take (aN b)++[y5 ((aN b:Int) + 1) p pw tn true]++b.objs.drop (aN b),0 < o.id:=by
 obtain⟨f1,f2,f3⟩:=jC h
 obtain⟨i1,i2⟩:=pX h
 have hpw:=jh i2
 have hge:=PS (m:=0) hpw (fun o ho=>by have:=(i1 o ho).1;omega)
 have ht:∀ o ∈ b.objs.take (aN b),o.id≤aN b:=fun o ho=>by
  obtain⟨j,hj⟩:=List.mem_iff_getElem?.1 ho
  have hlt:j < aN b:=by have:=(List.getElem?_eq_some_iff.1 hj).1;rw[List.length_take] at this;omega
  rw[List.getElem?_take_of_lt hlt] at hj
  have:=f2 j hlt
  rw[hj] at this
  have:o.id=(j:Int) + 1:=Option.some.inj this
  omega
 have hd:∀ o ∈ b.objs.drop (aN b),(aN b:Int) + 1 < o.id:=fun o ho=>by
  obtain⟨j,hj⟩:=List.mem_iff_getElem?.1 ho
  rw[List.getElem?_drop] at hj
  have h1:=hge _ _ hj
  have h2:=f3 o (List.mem_of_getElem? hj)
  omega
 have e:b.objs.map (·.id)=(b.objs.take (aN b)).map (·.id)++(b.objs.drop (aN b)).map (·.id):=by rw[← List.map_append,List.take_append_drop]
 rw[e,List.pairwise_append] at hpw
 refine⟨?_,fun o ho=>?_⟩
 ·rw[List.map_append,List.map_append,List.pairwise_append,List.pairwise_append]
  refine⟨⟨hpw.1,List.pairwise_singleton _ _,fun x hx y hy=>?_⟩,hpw.2.1,fun x hx y hy=>?_⟩
  ·obtain⟨o,ho,rfl⟩:=List.mem_map.1 hx
   have:=ht o ho
   obtain rfl:y=(aN b:Int) + 1:=by simpa [y5] using hy
   omega
  ·obtain⟨o,ho,rfl⟩:=List.mem_map.1 hy
   have h1:=hd o ho
   rcases List.mem_append.1 hx with hx | hx
   ·obtain⟨o',ho',rfl⟩:=List.mem_map.1 hx
    have:=ht o' ho'
    omega
   ·obtain rfl:x=(aN b:Int) + 1:=by simpa [y5] using hx
    exact h1
 ·rcases List.mem_append.1 ho with ho | ho
  ·rcases List.mem_append.1 ho with ho | ho
   ·have:=(i1 o (List.mem_of_mem_take ho)).1;omega
   ·rw[List.mem_singleton.1 ho];show (0:Int) < (aN b:Int) + 1;omega
  ·have:=hd o ho;omega
include hp hm
theorem Mc:bD aW (xl b (aN b) p pw tn)=true:=by
 have hpl:=(aM h).1
 obtain⟨p1,p2,p3⟩:=fc hpl
 obtain⟨f1,_,f3⟩:=jC h
 have hn:=cR hpl
 rw[← iJ] at hn
 have hq:=E0 { b with objs:=b.objs.take (aN b)++[y5 ((aN b:Int) + 1) p pw tn true]++b.objs.drop (aN b) } hp (z:=2) (by omega) ((aN b:Int) + 1)
 have e1:aL { b with objs:=b.objs.take (aN b)++[y5 ((aN b:Int) + 1) p pw tn true]++b.objs.drop (aN b) }=aL b:=rfl
 rw[e1] at hq
 have hni:(aN b:Int) + 1 ∉ (aL b).map (·.1):=fun hx=>by
  obtain⟨o,ho,e⟩:=Le h hx
  exact f3 o ho e
 have hnc:((((aN b:Int) + 1,p)::aL b).map (·.1)).Nodup:=by
  rw[List.map_cons]
  exact List.nodup_cons.2 ⟨hni,hn⟩
 have hn':=(hq.map (·.1)).nodup_iff.2 hnc
 have ho:(xl b (aN b) p pw tn).objs=b.objs.take (aN b)++[y5 ((aN b:Int) + 1) p pw tn true]++b.objs.drop (aN b):=by
  rcases hp with rfl | rfl <;> rfl
 have hs:(xl b (aN b) p pw tn).stack=b.stack:=by rcases hp with rfl | rfl <;> rfl
 have hpb:aL (xl b (aN b) p pw tn)=aL (ll { b with objs:=b.objs.take (aN b)++[y5 ((aN b:Int) + 1) p pw tn true]++b.objs.drop (aN b) } p 2 ((aN b:Int) + 1)):=rfl
 have hlook:=zt hn' hq
 simp only[bD,Bool.and_eq_true,decide_eq_true_eq,nQ,ho,hs,hpb]
 refine⟨hn',⟨To (fun o _ p e=>by cases e) (KB h pw tn p).1,?_⟩,?_⟩
 ·rw[List.all_eq_true]
  intro o hm2
  have hold:o ∈ b.objs→ok1 (aL (ll { b with objs:=b.objs.take (aN b)++[y5 ((aN b:Int) + 1) p pw tn true]++b.objs.drop (aN b) } p 2 ((aN b:Int) + 1))) (bg b.stack) o=true:=fun hm=>by
   have h1:=List.all_eq_true.1 p2 o hm
   have hne:=f3 o hm
   have hc:cz (((aN b:Int) + 1,p)::aL b) o.id=cz (aL b) o.id:=by
    rw[cz,List.find?_cons,show (o.id == (aN b:Int) + 1)=false from beq_eq_false_iff_ne.2 hne];rfl
   simp only[ok1,hlook,hc] at h1 ⊢
   exact h1
  rcases List.mem_append.1 hm2 with hm2 | hm2
  ·rcases List.mem_append.1 hm2 with hm2 | hm2
   ·exact hold (List.mem_of_mem_take hm2)
   ·rw[List.mem_singleton.1 hm2]
    have hc:cz (((aN b:Int) + 1,p)::aL b) ((aN b:Int) + 1)=some p:=by
     rw[cz,List.find?_cons,show (((aN b:Int) + 1) == (aN b:Int) + 1)=true from beq_self_eq_true _];rfl
    have hst:cz (bg b.stack) ((aN b:Int) + 1)=none:=by
     rw[fB]
     intro hx
     refine hni ?_
     have:((aN b:Int) + 1) ∈ (eK b.stack).map (·.1):=by
      simpa [bg,eK] using hx
     simp only[aL,List.map_append,List.mem_append]
     exact .inr (.inr this)
    have hid:(y5 ((aN b:Int) + 1) p pw tn true).id=(aN b:Int) + 1:=rfl
    have hown:(y5 ((aN b:Int) + 1) p pw tn true).owner=p:=rfl
    simp only[ok1,hlook,hid,hown,hc,hst,WB hp pw tn hm]
    simp
  ·exact hold (List.mem_of_mem_drop hm2)
 ·rw[hq.length_eq,List.length_cons,p3]
  have:(b.objs.take (aN b)).length + (b.objs.drop (aN b)).length=b.objs.length:=by rw[← List.length_append,List.take_append_drop]
  simp only[List.length_append,List.length_singleton]
  omega
theorem N4:an (xl b (aN b) p pw tn)=true:=by
 have hpl:=Mc h hp pw tn hm
 obtain⟨f1,_,f3⟩:=jC h
 obtain⟨k1,k2⟩:=KB h pw tn p
 have hlen:(xl b (aN b) p pw tn).objs.length≤500:=by
  have ho:(xl b (aN b) p pw tn).objs=b.objs.take (aN b)++[y5 ((aN b:Int) + 1) p pw tn true]++b.objs.drop (aN b):=by
   rcases hp with rfl | rfl <;> rfl
  rw[ho]
  generalize hl:b.objs.take (aN b)++[y5 ((aN b:Int) + 1) p pw tn true]++b.objs.drop (aN b)=l at *
  rcases Nat.eq_zero_or_pos l.length with e | e
  ·omega
  have hlt:l.length - 1 < l.length:=by omega
  have h1:=PS (m:=0) k1 k2 (l.length - 1) _ (List.getElem?_eq_getElem hlt)
  have h2:l[l.length - 1].id≤500:=by
   have hmem:l[l.length - 1] ∈ l:=List.getElem_mem hlt
   generalize l[l.length - 1]=o at hmem
   rw[← hl] at hmem
   have hi:=(pX h).1
   rcases List.mem_append.1 hmem with hx | hx
   ·rcases List.mem_append.1 hx with hx | hx
    ·exact (hi _ (List.mem_of_mem_take hx)).2
    ·rw[List.mem_singleton.1 hx];show (aN b:Int) + 1≤500;omega
   ·exact (hi _ (List.mem_of_mem_drop hx)).2
  omega
 have hfi:=(aM h).2.1
 have hfields:∀ x,x ∈ b.s0.field∨x ∈ b.s1.field→x ≠ (aN b:Int) + 1:=fun x hx e=>by
  have:x ∈ (aL b).map (·.1):=by
   rw[iJ]
   simp only[Q0,QZ,List.mem_append]
   rcases hx with hx | hx
   ·exact .inl (.inr (.inr (.inl hx)))
   ·exact .inr (.inl (.inr (.inr (.inl hx))))
  obtain⟨o,ho,e2⟩:=Le h this
  exact f3 o ho (e2.trans e)
 obtain⟨g1,g2⟩:=FG hfi
 have ea:ce b.att ((aN b:Int) + 1)=b.att:=by
  rw[ce,List.filter_eq_self]
  intro x hx
  simpa using hfields x (g1 x hx)
 have eb:b.blocks.filter (fun x=>!eO ((aN b:Int) + 1) x)=b.blocks:=by
  rw[List.filter_eq_self]
  intro x hx
  have h1:=hfields _ (g2 x hx).1
  have h2:=hfields _ (g2 x hx).2
  simp[eO,h1,h2]
 have hf:dm (xl b (aN b) p pw tn)=true:=by
  have f0:∀ y ∈ b.s0.field,y ≠ (aN b:Int) + 1→y ∈ (xl b (aN b) p pw tn).s0.field:=fun y hy _=>by
   rcases hp with rfl | rfl
   ·exact List.mem_append_left _ hy
   ·exact hy
  have f1:∀ y ∈ b.s1.field,y ≠ (aN b:Int) + 1→y ∈ (xl b (aN b) p pw tn).s1.field:=fun y hy _=>by
   rcases hp with rfl | rfl
   ·exact hy
   ·exact List.mem_append_left _ hy
  have r1:(xl b (aN b) p pw tn).active=b.active:=by rcases hp with rfl | rfl <;> rfl
  have r2:(xl b (aN b) p pw tn).att=b.att:=by rcases hp with rfl | rfl <;> rfl
  have r3:(xl b (aN b) p pw tn).blocks=b.blocks:=by rcases hp with rfl | rfl <;> rfl
  rw[dm] at hfi ⊢
  rw[r1,r2,r3]
  split
  ·rename_i ha
   rw[if_pos ha] at hfi
   have:=rD (id:=(aN b:Int) + 1) f0 f1 hfi
   rwa [ea,eb] at this
  ·rename_i ha
   rw[if_neg ha] at hfi
   have:=rD (id:=(aN b:Int) + 1) f1 f0 hfi
   rwa [ea,eb] at this
 simp only[an,oW,Bool.and_eq_true,Bool.not_eq_true',Bool.or_eq_false_iff,decide_eq_false_iff_not] at h ⊢
 obtain⟨a1,a2,a3,a4,⟨⟨⟨a5,a6⟩,a7⟩,a8⟩,a9,a10,a11,a12,a13⟩:=h
 have q0:bb (xl b (aN b) p pw tn).s0=true:=by rcases hp with rfl | rfl <;> exact a9
 have q1:bb (xl b (aN b) p pw tn).s1=true:=by rcases hp with rfl | rfl <;> exact a10
 refine⟨?_,?_,?_,?_,⟨⟨⟨?_,by omega⟩,?_⟩,?_⟩,q0,q1,?_,?_,hpl,hf⟩
 all_goals (rcases hp with rfl | rfl <;> assumption)
end
structure NS (e:Eff) (most:Int) (b x:Bd):Prop where
 valid:an x=true
 lib:∀ q,(q=0∨q=1)→e.code ≠ 2→(ao x q).lib=(ao b q).lib∧(ao x q).empty=(ao b q).empty
 pre:∀ q,(q=0∨q=1)→∃ m,m≤(ao b q).lib.length∧(ao x q).lib=(ao b q).lib.take m
 up:∀ q,(q=0∨q=1)→(ao x q).life > (ao b q).life→e.code=3
 down:∀ q,(q=0∨q=1)→(ao x q).life < (ao b q).life→e.code=4∨e.code=1
 objs:x.objs.length ≠ b.objs.length→e.code=10∧x.objs.length=b.objs.length + 1∧(b.objs.length:Int) < most
 stack:x.stack.length ≠ b.stack.length→e.code=7∧x.stack.length + 1=b.stack.length
theorem GG {e:Eff} {most:Int} {b x:Bd} (hv:an x=true) (hs:∀ q,(q=0∨q=1)→(ao x q).lib=(ao b q).lib∧(ao x q).empty=(ao b q).empty∧(ao x q).life=(ao b q).life)
  (ho:x.objs.length ≠ b.objs.length→e.code=10∧x.objs.length=b.objs.length + 1∧(b.objs.length:Int) < most) (hk:x.stack.length ≠ b.stack.length→e.code=7∧x.stack.length + 1=b.stack.length):NS e most b x :=
 ⟨hv,fun q hq _=>⟨(hs q hq).1,(hs q hq).2.1⟩,fun q hq=>⟨_,Nat.le_refl _,by rw[(hs q hq).1,List.take_length]⟩,fun q hq h=>absurd (hs q hq).2.2 (by omega),fun q hq h=>absurd (hs q hq).2.2 (by omega),ho,hk⟩
theorem Ds {e:Eff} {most:Int} {b x:Bd} (hv:an x=true) (hs:∀ q,(q=0∨q=1)→(ao x q).lib=(ao b q).lib∧(ao x q).empty=(ao b q).empty∧(ao x q).life=(ao b q).life)
  (ho:x.objs.length=b.objs.length) (hk:x.stack.length=b.stack.length):NS e most b x:=GG hv hs (fun h=>absurd ho h) fun h=>absurd hk h
theorem yb {e:Eff} {most:Int} {b:Bd} (hv:an b=true):NS e most b b:=Ds hv (fun _ _=>⟨rfl,rfl,rfl⟩) rfl rfl
theorem Du {e:Eff} {most:Int} {b:Bd} (hv:an b=true) {id:Int} (hi:ba b id=0) {f:Ob→Ob} (h1:∀ o,(f o).id=o.id∧(f o).card=o.card∧(f o).owner=o.owner) (hf:∀ o,aW o=true→aW (f o)=true):NS e most b (bV b id f):=by
 have hc:=I3 hv hi h1 hf
 obtain⟨k,e1,e2,e3,e4,_⟩:=dD hi
 obtain⟨j1,j2,j3⟩:=h1 (cY b id)
 have ec:bV b id f=bT b k (f (cY b id)):=by
  rw[bV,HH hi (by rw[j1];exact e2) j2 j3 (hf _ e4),if_pos rfl,e3,Int.toNat_natCast]
 rw[ec] at hc ⊢
 exact Ds hc (fun q hq=>⟨rfl,rfl,rfl⟩) (by rw[bT,List.length_set]) rfl
theorem qa {b:Bd} {p:Int} (hp:p=0∨p=1) (s:St) {q:Int} (hq:q=0∨q=1):ao (aV b p s) q=if q=p then s else ao b q:=by
 rcases hp with rfl | rfl <;> rcases hq with rfl | rfl <;> rfl
theorem Hr (b:Bd) (p:Int) (s:St):(aV b p s).objs=b.objs∧(aV b p s).stack=b.stack:=by
 rw[aV];split <;> exact⟨rfl,rfl⟩
theorem Dt {e:Eff} {most:Int} {b:Bd} (hv:an b=true) {p:Int} (hp:p=0∨p=1) (x:Int) (hup:bp x 9999 > (ao b p).life→e.code=3) (hdn:bp x 9999 < (ao b p).life→e.code=4∨e.code=1):NS e most b (iI b p (bp x 9999)):=by
 obtain⟨o1,o2⟩:=Hr b p { ao b p with life:=bp x 9999 }
 refine⟨Nj hv hp x,fun q hq _=>?_,fun q hq=>⟨(ao b q).lib.length,Nat.le_refl _,?_⟩,fun q hq=>?_,fun q hq=>?_,fun h=>absurd (by rw[iI,o1]) h,fun h=>absurd (by rw[iI,o2]) h⟩
 ·rw[iI,qa hp _ hq];split
  ·rename_i h;subst h;exact⟨rfl,rfl⟩
  ·exact⟨rfl,rfl⟩
 ·rw[iI,qa hp _ hq,List.take_length];split
  ·rename_i h;subst h;rfl
  ·rfl
 ·rw[iI,qa hp _ hq];split
  ·rename_i h;subst h;exact hup
  ·intro h;omega
 ·rw[iI,qa hp _ hq];split
  ·rename_i h;subst h;exact hdn
  ·intro h;omega
theorem PL {e:Eff} {most:Int} {b:Bd} (hv:an b=true) {p:Int} (hp:p=0∨p=1) (c n:Int):NS e most b (aV b p (ep (ao b p) c n)):=by
 obtain⟨o1,o2⟩:=Hr b p (ep (ao b p) c n)
 refine Ds (Nh hv hp c n) (fun q hq=>?_) (by rw[o1]) (by rw[o2])
 rw[qa hp _ hq];split
 ·rename_i h;subst h
  rw[ep];repeat' split
  all_goals exact⟨rfl,rfl,rfl⟩
 ·exact⟨rfl,rfl,rfl⟩
theorem PM {e:Eff} {most:Int} {b:Bd} (hv:an b=true) {p:Int} (hp:p=0∨p=1) (he:e.code=2) {n:Int} (hn:0≤n):NS e most b (nU b p n).1:=by
 have hw:au p 0 1=true:=by simp only[au,decide_eq_true_eq];omega
 have ed:(nU b p n).1=cq n.toNat b p:=by
  rw[nU,if_neg (by rw[hv,hw,decide_eq_false (by omega:¬ n < 0)];simp)]
 rw[ed]
 obtain⟨f1,f2,f3,f4,f5,f6⟩:=LH hp n.toNat hv
 refine⟨f1,fun q hq h=>absurd he h,fun q hq=>?_,fun q hq h=>absurd (f3 q) (by omega),fun q hq h=>absurd (f3 q) (by omega),fun h=>absurd f4 h,fun h=>absurd (by rw[f5]) h⟩
 by_cases hqp:q=p
 ·subst hqp;exact f2
 ·exact⟨_,Nat.le_refl _,by rw[f6 q hq hqp,List.take_length]⟩
theorem II {e:Eff} {most:Int} {b:Bd} (hv:an b=true) {k:Nat} {o:Ob} (hk:b.objs[k]?=some o) {z:Int} (hz:z=1∨z=3) (h0:b.s0.lib.count o.id=0) (h1:b.s1.lib.count o.id=0)
  (hst:(b.stack.filter fun x=>!ke o.id x).length ≠ b.stack.length→e.code=7∧(b.stack.filter fun x=>!ke o.id x).length + 1=b.stack.length):NS e most b (fA b k (bu o z) z):=by
 have hown:=(cV (aM hv).1 hk).2.2.2
 refine GG (Fa hv hk (by omega)) (fun q hq=>?_) (fun h=>absurd (by rw[xX,List.length_set]) h) ?_
 ·have i2:(bu o z).owner=o.owner:=rfl
  have i1:(bu o z).id=o.id:=rfl
  have w0:=bq h0
  have w1:=bq h1
  rw[fA,ll,i1,i2,qa hown _ hq]
  have hb:∀ q,(q=0∨q=1)→(ao (bT (na b o.id) k (bu o z)) q).lib=(ao b q).lib∧(ao (bT (na b o.id) k (bu o z)) q).empty=(ao b q).empty∧(ao (bT (na b o.id) k (bu o z)) q).life=(ao b q).life:=by
   intro q hq
   rcases hq with rfl | rfl
   ·exact⟨w0,rfl,rfl⟩
   ·exact⟨w1,rfl,rfl⟩
  split
  ·rename_i h;subst h
   rcases hz with rfl | rfl
   ·exact hb _ hq
   ·exact hb _ hq
  ·exact hb q hq
 ·rw[u7];exact hst
theorem Su {e:Eff} {most:Int} {b:Bd} (hv:an b=true) {p:Int} (hp:p=0∨p=1) (he:e.code=10) (pw tn:Int):NS e most b (xk b p pw tn most).1:=by
 have hw:au p 0 1=true:=by simp only[au,decide_eq_true_eq];omega
 rw[xk,if_neg (by rw[hv,hw];simp)]
 split
 ·exact yb hv
 rename_i hm
 split
 ·exact yb hv
 rename_i hf
 have hs:(xl b (aN b) p pw tn).stack=b.stack:=by rcases hp with rfl | rfl <;> rfl
 have ho:(xl b (aN b) p pw tn).objs=b.objs.take (aN b)++[y5 ((aN b:Int) + 1) p pw tn true]++b.objs.drop (aN b):=by
  rcases hp with rfl | rfl <;> rfl
 have hlen:(xl b (aN b) p pw tn).objs.length=b.objs.length + 1:=by
  have:(b.objs.take (aN b)).length + (b.objs.drop (aN b)).length=b.objs.length:=by rw[← List.length_append,List.take_append_drop]
  rw[ho]
  simp only[List.length_append,List.length_singleton]
  omega
 refine GG (N4 hv hp pw tn (by omega)) (fun q hq=>?_) (fun _=>⟨he,hlen,by omega⟩) fun h=>absurd (by show (xl b (aN b) p pw tn).stack.length=_;rw[hs]) h
 show (ao (xl b (aN b) p pw tn) q).lib=_∧(ao (xl b (aN b) p pw tn) q).empty=_∧(ao (xl b (aN b) p pw tn) q).life=_
 rcases hp with rfl | rfl <;> rcases hq with rfl | rfl <;> exact⟨rfl,rfl,rfl⟩
theorem Pj {b:Bd} (hv:an b=true) {id:Int} (h:id ∈ b.s0.field∨id ∈ b.s1.field∨id ∈ (bH b.stack).map (·.id)):b.s0.lib.count id=0∧b.s1.lib.count id=0:=by
 have hc:=List.nodup_iff_count.1 (cR (aM hv).1) id
 simp only[Q0,QZ,List.count_append] at hc
 rcases h with h | h | h
 ·have:=List.count_pos_iff.2 h;omega
 ·have:=List.count_pos_iff.2 h;omega
 ·have:=List.count_pos_iff.2 h;omega
theorem RI {cs:List CdX} {b:Bd} {x:Int} (h:onB cs b x=true):x ∈ b.s0.field∨x ∈ b.s1.field:=by
 rw[onB,Bool.and_eq_true,Bool.and_eq_true] at h
 obtain⟨k,_,_,_,_,f5⟩:=dD (kO (by rw[onB,Bool.and_eq_true,Bool.and_eq_true];exact h:onB cs b x=true)).2.2
 have h3:=h.2.2
 rcases f5 with f5 | f5
 ·rw[f5] at h3;exact .inl (by simpa [ao] using h3)
 ·rw[f5] at h3;exact .inr (by simpa [ao] using h3)
theorem Lu {b:Bd} {id:Int} (hi:ba b id=0) {z:Int} (hz:z=1∨z=3):∃ (k:Nat) (o:Ob),b.objs[k]?=some o∧o.id=id∧(cX b id z).1=fA b k (bu o z) z:=by
 obtain⟨k,e1,e2,e3,_,_⟩:=dD hi
 refine⟨k,_,e1,e2,?_⟩
 have hw:au z 0 3=true:=by simp only[au,decide_eq_true_eq];omega
 rw[cX,if_neg (by rw[hi,hw];simp),if_neg (by rw[hi];simp),e3,Int.toNat_natCast]
theorem JR {cs:List CdX} {e:Eff} {most:Int} {b:Bd} (hv:an b=true) {id:Int} (ho:onB cs b id=true):NS e most b (cX b id 1).1:=by
 obtain⟨k,o,e1,e2,e3⟩:=Lu (kO ho).2.2 (z:=1) (.inl rfl)
 have hfl:=RI ho
 obtain⟨l0,l1⟩:=Pj hv (id:=id) (hfl.elim .inl fun h=>.inr (.inl h))
 rw[e3]
 subst e2
 refine II hv e1 (.inl rfl) l0 l1 fun h=>absurd ?_ h
 have hc:=List.nodup_iff_count.1 (cR (aM hv).1) o.id
 simp only[Q0,QZ,List.count_append] at hc
 have:(b.stack.filter fun x=>!ke o.id x)=b.stack:=by
  rw[List.filter_eq_self]
  intro y hy
  cases hon:ke o.id y
  ·rfl
  ·exfalso
   simp only[ke,Bool.and_eq_true,decide_eq_true_eq,beq_iff_eq] at hon
   have hm:o.id ∈ (bH b.stack).map (·.id):=List.mem_map.2 ⟨y,List.mem_filter.2 ⟨hy,decide_eq_true hon.1⟩,hon.2⟩
   have:=List.count_pos_iff.2 hm
   rcases hfl with h | h
   ·have:=List.count_pos_iff.2 h;omega
   ·have:=List.count_pos_iff.2 h;omega
 rw[this]
theorem FC {id:Int}:∀ {l:List It},((bH l).map (fun x:It=>x.id)).Nodup→(∃ x ∈ l,x.id=id∧x.trig < 0)→(l.filter fun x=>!ke id x).length + 1=l.length
 | [],_,h=>by obtain⟨x,hx,_⟩:=h;cases hx
 | a::l,hn,h=>by
  by_cases ha:ke id a=true
  ·have ha':a.trig < 0∧a.id=id:=by simpa [ke] using ha
   rw[bH,List.filter_cons,if_pos (decide_eq_true ha'.1),List.map_cons,List.nodup_cons] at hn
   rw[List.filter_cons,if_neg (by rw[ha];simp)]
   have:(l.filter fun x=>!ke id x)=l:=by
    rw[List.filter_eq_self]
    intro y hy
    cases hon:ke id y
    ·rfl
    ·exfalso
     simp only[ke,Bool.and_eq_true,decide_eq_true_eq,beq_iff_eq] at hon
     exact hn.1 (List.mem_map.2 ⟨y,List.mem_filter.2 ⟨hy,decide_eq_true hon.1⟩,hon.2.trans ha'.2.symm⟩)
   rw[this];rfl
  ·have hx:∃ x ∈ l,x.id=id∧x.trig < 0:=by
    obtain⟨x,hx,h1,h2⟩:=h
    rcases List.mem_cons.1 hx with rfl | hx
    ·exact absurd (by simp[ke,h1,h2]) ha
    ·exact⟨x,hx,h1,h2⟩
   have hn':((bH l).map (fun x:It=>x.id)).Nodup:=by
    refine hn.sublist (List.Sublist.map _ ?_)
    rw[bH,bH]
    exact (List.sublist_cons_self a l).filter _
   have:=FC hn' hx
   rw[List.filter_cons,if_pos (by simpa using ha),List.length_cons,List.length_cons]
   omega
theorem IJ {e:Eff} {most:Int} {b:Bd} (hv:an b=true) (he:e.code=7) {id:Int} (hx:∃ x ∈ b.stack,x.id=id∧x.trig < 0):NS e most b (bB b id).1:=by
 have hpl:=(aM hv).1
 have hm:id ∈ (bH b.stack).map (·.id):=by
  obtain⟨x,h1,h2,h3⟩:=hx
  exact List.mem_map.2 ⟨x,List.mem_filter.2 ⟨h1,decide_eq_true h3⟩,h2⟩
 obtain⟨x,hxs,hxi,hxt⟩:=hx
 have hpair:(id,x.player) ∈ aL b:=by
  simp only[aL,List.mem_append,eK,List.mem_map,Prod.mk.injEq]
  exact .inr (.inr ⟨x,List.mem_filter.2 ⟨hxs,decide_eq_true hxt⟩,hxi,rfl⟩)
 obtain⟨k,o,e1,e2,e3⟩:=IN hpl hpair
 have hi:ba b id=0:=by
  obtain⟨_,_,hidx,_⟩:=cV hpl e1
  rw[ba,if_pos hv,← e2,hidx,if_neg (by omega)]
 obtain⟨l0,l1⟩:=Pj hv (.inr (.inr hm))
 have hwh:(oN b id).2.1=4:=by
  rw[oN,if_neg (by rw[hi];simp)]
  have hn:=cR hpl
  have hc:=List.nodup_iff_count.1 hn id
  simp only[Q0,QZ,List.count_append] at hc
  have hpos:=List.count_pos_iff.2 hm
  obtain⟨s,hs⟩:=y8 hv e1
  rw[e2] at hs
  rw[hs]
  simp only[Gf,Option.getD_some]
  unfold ga at hs
  split at hs
  ·rename_i s' hL
   obtain⟨y,hy,_,_,j,_,x4⟩:=KE hL
   have hym:=List.count_pos_iff.2 (List.mem_of_getElem? x4)
   simp only[gu,List.mem_cons,List.not_mem_nil,or_false] at hy
   rcases hy with rfl | rfl | rfl | rfl | rfl | rfl | rfl | rfl <;> (simp only at hym;omega)
  ·split at hs
   ·rw[← Option.some.inj hs]
   ·cases hs
 rw[bB,if_neg (by rw[hi];simp),if_neg (by rw[hi,hwh];simp)]
 obtain⟨k,o,e1,e2,e3⟩:=Lu hi (z:=3) (.inr rfl)
 rw[e3]
 subst e2
 have h1:((bH b.stack).map (fun x:It=>x.id)).Nodup:=(List.nodup_append.1 (List.nodup_append.1 (cR hpl)).2.1).2.1
 exact II hv e1 (.inr rfl) l0 l1 fun _=>⟨he,FC h1 ⟨x,hxs,hxi,hxt⟩⟩
theorem Qb {cs:List CdX} {b:Bd} {p src:Int} {e:Eff} {t:Tg} (most:Int) (hv:an b=true) (hp:p=0∨p=1) (hs:i64 src) (hev:rF e=true):NS e most b (rx cs b p src e t most):=by
 rw[rx]
 split
 ·exact yb hv
 rename_i hb
 obtain⟨hw,_,hi1⟩:=Dz hp hs hev hb
 obtain⟨t1,t2,t3,t4,t5,t6,t7,t8⟩:=ul hev
 have hlife:=fun q=>nG hv q
 obtain⟨n1,_⟩:=jF hev
 have hleg:e.target ≠ 0→_:=fun h=>(nw (E6 hb h)).2.2.2
 have hid:e.target ≠ 0→idE src e t=t.id:=fun h=>by rw[idE,if_neg h]
 rw[aF]
 split
 ·rename_i c1
  split
  ·rename_i hpos
   exact Du hv (hi1 c1 hpos) (fun o=>⟨rfl,rfl,rfl⟩) fun o h=>yg h _
  ·have:=hlife (EA p e t)
   refine Dt hv hw _ (fun h=>?_) fun _=>.inr c1
   simp only[bp] at h;omega
 split
 ·rename_i c2
  exact PM hv hw c2 n1
 split
 ·rename_i c3
  have:=hlife (EA p e t)
  refine Dt hv hw _ (fun _=>c3) fun h=>?_
  simp only[bp] at h;omega
 split
 ·rename_i c4
  have:=hlife (EA p e t)
  refine Dt hv hw _ (fun h=>?_) fun _=>.inl c4
  simp only[bp] at h;omega
 split
 ·rename_i c6
  have ht:=t3 (.inr (.inl c6))
  have h0:e.target ≠ 0:=by omega
  rw[hid h0]
  rcases hleg h0 with ⟨_,_,ho,_⟩ | ⟨_,h⟩ | ⟨h,_⟩
  ·exact JR hv ho
  ·omega
  ·omega
 split
 ·rename_i c7
  have ht:=t4 c7
  have h0:e.target ≠ 0:=by omega
  rw[hid h0]
  rcases hleg h0 with ⟨h,_⟩ | ⟨_,h⟩ | ⟨_,_,h⟩
  ·exact absurd ht h
  ·omega
  ·exact IJ hv c7 h
 split
 ·rename_i c10
  exact Su hv hp c10 _ _
 split
 ·exact PL hv hw _ _
 split
 ·rename_i hon
  exact Du hv (kO hon).2.2 (jL e) fun o h=>jK h
 ·exact yb hv
def yw (cs:List CdX) (x:It) (most:Int) (b:Bd) (e:Eff) (t:Tg):Bd:=if rF e=true then rx cs b x.player x.id e t most else b
def mU (cs:List CdX) (x:It) (most:Int):List Eff→List Tg→Bd→Bd
 | [],_,b=>b
 | e::l,ts,b=>if e.target=0 then mU cs x most l ts (yw cs x most b e ⟨0,0⟩) else if ts=[] then mU cs x most l ts b else mU cs x most l ts.tail (yw cs x most b e (ts.headD ⟨0,0⟩))
theorem y4 (cs:List CdX) (x:It) (most:Int) (e:Eff) (l:List Eff) (ts:List Tg) (b:Bd):mU cs x most (e::l) ts b=if e.target=0 then mU cs x most l ts (yw cs x most b e ⟨0,0⟩) else if ts=[] then mU cs x most l ts b else mU cs x most l ts.tail (yw cs x most b e (ts.headD ⟨0,0⟩)):=rfl
def sU (cs:List CdX) (x:It) (b:Bd):Bd:=if x.trig < 0∧(cdX cs x.card).kind=2 then (cX b x.id 2).1 else b
def Xm (cs:List CdX) (b:Bd) (most:Int):Bd:=mU cs (cU b) most (BJ cs (cU b).card (cU b).trig) (cU b).tgs (sU cs (cU b) (lS b).1)
def vB (cs:List CdX) (b:Bd):Int:=if an b=false then 2 else if b.stack=[] then 9 else if CZ cs b ≠ 0 then 8 else 0
def Et (cs:List CdX) (b:Bd) (most:Int):Bd:=if vB cs b=0 then Xm cs b most else zBd
def EB (cs:List CdX) (b:Bd):It:=if vB cs b=0 then cU b else zIt
theorem LZ {cs:List CdX} {x:It} (most:Int) {b:Bd} (e:Eff) (t:Tg) {n:Nat} (hp:x.player=0∨x.player=1) (hs:i64 x.id) (hv:an b=true) (hz:szB n b):an (yw cs x most b e t)=true∧szB (n + 100) (yw cs x most b e t):=by
 rw[yw]
 split
 ·rename_i he
  exact⟨(Qb most hv hp hs he).valid,Ua hz cs _ _ (jF he).2.1 _ _⟩
 ·exact⟨hv,szB.le hz (by omega)⟩
theorem BB {cs:List CdX} {x:It} (most:Int) (hp:x.player=0∨x.player=1) (hs:i64 x.id):∀ (l:List Eff) (ts:List Tg) {b:Bd} {n:Nat},an b=true→szB n b→an (mU cs x most l ts b)=true∧szB (n + 100 * l.length) (mU cs x most l ts b)
 | [],_,b,n,hv,hz=>⟨hv,hz⟩
 | e::l,ts,b,n,hv,hz=>by
  have hl:n + 100 * (e::l).length=(n + 100) + 100 * l.length:=by rw[List.length_cons];omega
  rw[y4,hl]
  split
  ·obtain⟨a1,a2⟩:=LZ (cs:=cs) most e ⟨0,0⟩ hp hs hv hz
   exact BB most hp hs l _ a1 a2
  split
  ·exact BB most hp hs l _ hv (szB.le hz (by omega))
  ·obtain⟨a1,a2⟩:=LZ (cs:=cs) most e (ts.headD ⟨0,0⟩) hp hs hv hz
   exact BB most hp hs l _ a1 a2
theorem BA {b:Bd} (hv:an b=true) (hne:b.stack ≠ []):cU b ∈ b.stack∧((cU b).player=0∨(cU b).player=1)∧i64 (cU b).id∧-1≤(cU b).trig:=by
 obtain⟨l,x,hl⟩:=BP hne
 rw[sY hl]
 have hm:x ∈ b.stack:=by rw[hl];simp
 have hxf:=nu hv hm
 simp only[cQ,au,Bool.and_eq_true,decide_eq_true_eq] at hxf
 exact⟨hm,by omega,by constructor <;> omega,by omega⟩
theorem OV {b:Bd} (hv:an b=true) (hne:b.stack ≠ []) {n:Nat} (hz:szB n b):(lS b).2=0∧an (lS b).1=true∧szB (n + 1) (lS b).1∧((cU b).trig < 0→∃ (k:Nat) (o:Ob),(lS b).1.objs[k]?=some o∧o.id=(cU b).id):=by
 have h2:(lS b).2=0:=by
  rw[lS,if_neg (by rw[hv];simp),if_neg hne];split <;> rfl
 obtain⟨n1,n2⟩:=RP hv hz
 rw[Iq,if_pos h2] at n1 n2
 refine⟨h2,n1,n2,fun ht=>?_⟩
 obtain⟨i1,_,_,i4⟩:=BA hv hne
 obtain⟨k,o,f1,f2,f3⟩:=Ou hv i1 ht
 have hm1:(cU b).trig=-1:=by omega
 have hmv:=Ly hv f1 3 (by omega)
 have emr:Is b k (bu o 3) 3=fA b k (bu o 3) 3:=by
  show ll (bT (Jp b o.id) k _) o.owner 3 o.id=ll (bT (na b o.id) k _) o.owner 3 o.id
  rw[CY hv]
 rw[emr,f2] at hmv
 refine⟨k,bu o 3,?_,f2⟩
 rw[lS,if_neg (by rw[hv];simp),if_neg hne,if_pos hm1,hmv]
 show (fA b k (bu o 3) 3).objs[k]?=_
 rw[xX,List.getElem?_set]
 have hlt:=(List.getElem?_eq_some_iff.1 f1).1
 simp[hlt]
theorem Vj {cs:List CdX} {b:Bd} (hv:an b=true) (hne:b.stack ≠ []) {n:Nat} (hz:szB n b):an (sU cs (cU b) (lS b).1)=true∧szB (n + 2) (sU cs (cU b) (lS b).1):=by
 obtain⟨_,p2,p3,p4⟩:=OV hv hne hz
 rw[sU]
 split
 ·rename_i h
  obtain⟨k,o,f1,f2⟩:=p4 h.1
  exact⟨xW p2 f1 f2 (by omega),uX p3 _ _⟩
 ·exact⟨p2,szB.le p3 (by omega)⟩
theorem TV {cs:List CdX} {b:Bd} (most:Int) (hli:dh (cs.map CdX.base)=true) {n:Nat} (hz:szB n b) (h0:vB cs b=0):an (Et cs b most)=true∧szB (n + 502) (Et cs b most):=by
 rw[Et,if_pos h0]
 rw[vB] at h0
 split at h0
 ·cases h0
 rename_i hv
 split at h0
 ·cases h0
 rename_i hne
 have hv:an b=true:=by simpa using hv
 obtain⟨_,i2,i3,_⟩:=BA hv hne
 obtain⟨b1,b2⟩:=Vj (cs:=cs) hv hne hz
 obtain⟨t1,t2⟩:=BB (cs:=cs) (x:=cU b) most i2 i3 (BJ cs (cU b).card (cU b).trig) (cU b).tgs b1 b2
 have:=rE hli (cU b).card (cU b).trig
 exact⟨t1,szB.le t2 (by omega)⟩
def Bq (x:It) (s:Value):List Value:=[iV x.player,iV x.id,iV x.card,iV x.trig,s]
theorem TM {H:Heap} {v:cn} {b:Bd} (h:BdS H v b) (hB:bdB b) :
  Triple PP rN [.agg (al v b).toArray] H [] fun r H' O'=>∃ w s,r=.tuple #[.agg (al w (lS b).1).toArray,.agg (Bq (yZ b) s).toArray,iV (lS b).2]∧OwnB tys w (lS b).1 O'∧Sl H' 2 s (bO (yZ b).tgs):=by
 refine Triple.ghost (Wb h hB) ?_
 rintro r H' O' _ hc ⟨w,s,A,T,rfl,hp,ho,hs⟩
 have hp':=hp.trans List.perm_append_comm
 have hc:=hc.perm hp'
 obtain⟨H1,g1,k1,l1⟩:=hs.freeze hc
 exact⟨H1,A,(Ghost.perm hp').trans g1,w,s,rfl,ho,k1⟩
theorem NH {H:Heap} {v:Value} {cs:List CdX} (h:CardsX H v cs) (hli:dh (cs.map CdX.base)=true) (c:Int):Triple PP nq [v,.agg (UA c).row.toArray] H [] fun r _ O'=>(∃ cells:List Value,r=.agg cells.toArray∧cells.length=14∧Ones cells∧g cells 1=iV (cdX cs c).kind)∧O'=[]:=by
 refine Triple.ghost (FR h hli (UA c)) ?_
 rintro r H' O' _ _ ⟨cells,A,B,rfl,k1,k2,k3,_⟩
 exact⟨H',[],Ghost.drop _ _,⟨cells,rfl,k1,k2,k3⟩,rfl⟩
def Vu (x:Bd) (it:It) (e:Int) (r:Value) (H':Heap) (O':Own):Prop:=∃ w s,r=.tuple #[.agg (al w x).toArray,.agg (Bq it s).toArray,iV e]∧OwnB tys w x O'∧Sl H' 2 s (bO it.tgs)
theorem F5 {H:Heap} {O:Own} {cv:Value} {cs:List CdX} (hgl:GlobOk zC H) (hk:CardsX H cv cs) (hli:dh (cs.map CdX.base)=true) {x:It} (hp:x.player=0∨x.player=1) (hid:i64 x.id) {s:Value} (hs:Sl H 2 s (bO x.tgs)) {w:cn} {c:Bd} (ho:OwnB tys w c O) (hv:an c=true) {n:Nat} (hz:szB n c) (hn:n≤20000) (most:Int)
  {l0 l1 l2:List Value} (q0:g l0 0=cv) (q39:g l0 39=iV most) (q5:G5 l1 38=Bq x s) (q1:g l1 38=iV x.player) (q2:g l1 39=iV x.id) (q3:g l1 42=s) (q4:G38 l2 0=al w c) {r1 r2 r3 r4 lab:Nat} :
  (ia r1 l0 l1 lab l2 r2 r3 r4).den PP (Vu (mU cs x most (BJ cs x.card x.trig) x.tgs c) x 0) H O:=by
 simp only[ia]
 rw[q0,q39,q5,q1,q2,q3,q4]
 have hL5:=rE hli x.card x.trig
 refine aa (aa ?_)
 refine ar (Triple.frozenS (fs0 hk hli x.player x.id x.card x.trig hs.one)) ?_
 rintro ev H1 _ ⟨hev,rfl⟩ l1
 rw[List.nil_append]
 refine⟨[ev],rfl,⟨hev.one,trivial⟩,?_⟩
 obtain⟨elen,_⟩:=DN hev
 generalize hL:BJ cs x.card x.trig=L at *
 generalize hfin:mU cs x most L x.tgs c=fin
 refine ab _ elen ?_
 refine fG (fun vs H' O'=>∃ (i:Nat) (sv:Value) (ts:List Tg) (w:cn) (c:Bd),vs=sv::iV (i:Int)::al w c∧i≤L.length∧Heap.le H1 H'∧Sl H' 2 sv (bO ts)∧OwnB tys w c O'∧an c=true∧szB (n + 100 * i) c∧mU cs x most (L.drop i) ts c=fin) (fun vs _ _=>match g vs 1 with | .int _ k=>L.length + 1 - k.toNat | _=>0) ⟨0,s,x.tgs,w,c,rfl,Nat.zero_le _,Heap.le_refl _,hs.le l1,ho,hv,hz,hfin⟩ ?_
 rintro _ H2 O2 _ _ _ ⟨i,sv,ts,w2,c2,rfl,hi,hle,hsv,ho2,hv2,hz2,hg⟩
 have hgl:=hgl.le (Heap.le_trans l1 hle)
 have hk:=hk.le (Heap.le_trans l1 hle)
 have hev:=hev.le hle
 have hs2:=hs.le (Heap.le_trans l1 hle)
 refine ab _ (aB _ _) (ai (fun hlt=>?_) (fun hge=>?_))
 ·have hlt:i < L.length:=by have:=of_decide_eq_true hlt;omega
  rw[List.drop_eq_getElem_cons hlt,y4] at hg
  obtain⟨a,k1,k2,_,k4,k5⟩:=(hev.rsl O2).idx .i64 i _ (ny hlt)
  generalize L[i]=e at *
  have nxt:∀ {H3:Heap} {O3:Own} {sv3:Value} {ts3:List Tg} {w3:cn} {c3:Bd},Heap.le H2 H3→Sl H3 2 sv3 (bO ts3)→OwnB tys w3 c3 O3→(an c3=true∧szB (n + 100 * i + 100) c3)→mU cs x most (L.drop (i + 1)) ts3 c3=fin →
    (∃ (j:Nat) (sv:Value) (ts:List Tg) (w:cn) (c:Bd),sv3::iV ((i + 1:Nat):Int)::al w3 c3=sv::iV (j:Int)::al w c∧j≤L.length∧Heap.le H1 H3∧Sl H3 2 sv (bO ts)∧OwnB tys w c O3∧an c=true∧szB (n + 100 * j) c∧mU cs x most (L.drop j) ts c=fin) ∧
     (L.length + 1 - ((i + 1:Nat):Int).toNat < L.length + 1 - (i:Int).toNat):=by
   intro H3 O3 sv3 ts3 w3 c3 h1 h2 h3 h4 h5
   refine⟨⟨i + 1,sv3,ts3,w3,c3,rfl,hlt,Heap.le_trans hle h1,h2,h3,h4.1,by rw[Nat.mul_add,← Nat.add_assoc];exact h4.2,h5⟩,?_⟩
   omega
  refine ab _ k1 (ap k2 k4 k5 (af fun b4=>aa (af fun b5=>?_)))
  have val:∀ {H3},RetO PP lj [.agg e.row.toArray] H3 O2 (.bool (rF e)):=fun {H3}=>by simpa using (zI e H3).frame O2
  have act:∀ t,an (yw cs x most c2 e t)=true∧szB (n + 100 * i + 100) (yw cs x most c2 e t):=fun t=>LZ most e t hp hid hv2 hz2
  refine aa ?_
  refine ab _ (aY _ _) (ai (fun h0=>?_) (fun h0=>?_))
  ·have h0:e.target ≠ 0:=by simpa using h0
   rw[if_neg h0] at hg
   have tlen:ak .len [sv]=some (iV ts.length):=by have:=hsv.len;rwa [bf] at this
   refine ab _ tlen ?_
   refine ab _ (ay _ _) (ai (fun hz0=>?_) (fun hz0=>?_))
   ·have hts:ts=[]:=List.length_eq_zero_iff.1 (by have:(ts.length:Int)=0:=(by simpa using hz0);omega)
    subst hts
    rw[if_pos rfl] at hg
    obtain⟨n1,n2⟩:=nxt (Heap.le_refl _) hsv ho2 ⟨hv2,szB.le hz2 (by omega)⟩ hg
    exact ab _ (az (by omega)) (bU (by simp[Eqs,E]) n1 n2)
   cases ts with
   | nil=>exact absurd hz0 (by simp)
   | cons t ts =>
   rw[if_neg (by simp)] at hg
   have hg:mU cs x most (L.drop (i + 1)) ts (yw cs x most c2 e t)=fin:=hg
   obtain⟨a2,m1,m2,_,m4,m5⟩:=(hsv.rsl O2).idx .i64 0 t.row rfl
   obtain⟨u,u1,u2⟩:=hsv.from (i:=1) (by rw[bf,List.length_cons];omega)
   have u2:Sl H2 2 u (bO ts):=by simpa [bO] using u2
   refine ab _ m1 (ap m2 m4 m5 ?_)
   refine ab _ u1 ?_
   refine aa (aa ?_)
   refine aj val rfl ⟨rfl,trivial⟩ fun H3 l3=>ai (fun he=>?_) (fun he=>?_)
   ·have he:rF e=true:=he
    have ea:yw cs x most c2 e t=rx cs c2 x.player x.id e t most:=by rw[yw,if_pos he]
    have act:=act t
    rw[ea] at hg act
    refine aa (aa (aa (aa (aa ?_))))
    refine qE (O1:=O2) (O2:=[]) (List.Perm.of_eq (by simp)) (Ha (hgl.le l3) (hk.le l3) hli ho2 hv2 (Rf hz2 (by omega)) hp hid he) ?_
    rintro _ H4 O4 ⟨w4,rfl,h4⟩ l4
    refine⟨al w4 _,rfl,aZ H4 h4,?_⟩
    rw[List.append_nil]
    have l34:=Heap.le_trans l3 l4
    obtain⟨n1,n2⟩:=nxt l34 (u2.le l34) h4 act hg
    refine aa ?_
    exact ab _ (az (by omega)) (bU (by simp[Eqs,E]) n1 n2)
   ·have he:rF e=false:=he
    have ea:yw cs x most c2 e t=c2:=by rw[yw,if_neg (by rw[he];simp)]
    rw[ea] at hg
    obtain⟨n1,n2⟩:=nxt l3 (u2.le l3) ho2 ⟨hv2,szB.le hz2 (by omega)⟩ hg
    exact ab _ (az (by omega)) (bU (by simp[Eqs,E]) n1 n2)
  ·have h0:e.target=0:=by simpa using h0
   rw[if_pos h0] at hg
   refine aa ?_
   refine aj val rfl ⟨rfl,trivial⟩ fun H3 l3=>ai (fun he=>?_) (fun he=>?_)
   ·have he:rF e=true:=he
    have ea:yw cs x most c2 e ⟨0,0⟩=rx cs c2 x.player x.id e ⟨0,0⟩ most:=by rw[yw,if_pos he]
    have act:=act ⟨0,0⟩
    rw[ea] at hg act
    refine aa (aa (aa (aa (aa ?_))))
    refine qE (O1:=O2) (O2:=[]) (List.Perm.of_eq (by simp)) (Ha (t:=⟨0,0⟩) (hgl.le l3) (hk.le l3) hli ho2 hv2 (Rf hz2 (by omega)) hp hid he) ?_
    rintro _ H4 O4 ⟨w4,rfl,h4⟩ l4
    refine⟨al w4 _,rfl,aZ H4 h4,?_⟩
    rw[List.append_nil]
    have l34:=Heap.le_trans l3 l4
    obtain⟨n1,n2⟩:=nxt l34 (hsv.le l34) h4 act hg
    refine aa ?_
    exact ab _ (az (by omega)) (bU (by simp[Eqs,E]) n1 n2)
   ·have he:rF e=false:=he
    have ea:yw cs x most c2 e ⟨0,0⟩=c2:=by rw[yw,if_neg (by rw[he];simp)]
    rw[ea] at hg
    obtain⟨n1,n2⟩:=nxt l3 (hsv.le l3) ho2 ⟨hv2,szB.le hz2 (by omega)⟩ hg
    exact ab _ (az (by omega)) (bU (by simp[Eqs,E]) n1 n2)
 ·have hge:L.length≤i:=by have:=of_decide_eq_false hge;omega
  rw[List.drop_of_length_le hge] at hg
  have hg:c2=fin:=hg
  subst hg
  refine aa (aa (aa (aa (aa (aa ?_)))))
  exact ah ⟨w2,s,rfl,ho2,hs2⟩
theorem WU {H:Heap} {cv:Value} {cs:List CdX} (hgl:GlobOk zC H) (hk:CardsX H cv cs) (hli:dh (cs.map CdX.base)=true) {v:cn} {b:Bd} (h:BdS H v b) {n:Nat} (hz:szB n b) (hn:n≤19000) (most:Int) :
  Triple PP rO [cv,.agg (al v b).toArray,iV most] H [] (Vu (Et cs b most) (EB cs b) (vB cs b)):=by
 refine tJ (vs:=cv::(al v b++[iV most])) (by kernel_rfl) ⟨hk.one,ax (am (h.r [])) ⟨rfl,trivial⟩⟩ ?_
 simp only[rK]
 have hB:=Rf hz (by omega)
 refine af fun r0=>af fun r1=>af fun r2=>?_
 have bad:∀ {e:Int},vB cs b=e→e ≠ 0→Vu (Et cs b most) (EB cs b) (vB cs b)=Vu zBd zIt e:=fun he hne=>by
  rw[Et,EB,he,if_neg hne,if_neg hne]
 by_cases hv:an b=true
 case neg =>
  have hv:an b=false:=by simpa using hv
  have e2:(lS b)=(zBd,2):=by rw[lS,if_pos hv]
  have e3:yZ b=zIt:=by rw[yZ,if_pos hv]
  rw[bad (e:=2) (by rw[vB,if_pos hv]) (by omega)]
  refine aa ?_
  refine aj (RG hk.one h hv) rfl ⟨rfl,trivial⟩ fun H1 l1=>?_
  refine ab _ (aY _ _) (ai (fun hd=>by cases hd) (fun _=>?_))
  refine aa ?_
  refine ar (TM (h.le l1) hB) ?_
  rintro _ H2 O2 ⟨w,s,rfl,ho,hs⟩ l2
  rw[e2,e3] at *
  refine⟨al w zBd++(Bq zIt s++[iV 2]),rfl,ax (aZ H2 ho) (ax ⟨rfl,rfl,rfl,rfl,hs.one,trivial⟩ ⟨rfl,trivial⟩),af fun r3=>?_⟩
  refine aa (aa ?_)
  refine ab _ (aY _ _) (ai (fun _=>?_) (fun hd=>by cases hd))
  refine aa (aa (aa (aa ?_)))
  exact kZ ⟨vH,.slice none 0 0,rfl,OwnB.zero tys,Sl.nil _ _⟩
 refine aa ?_
 refine aj (TN hk hli h hv) rfl ⟨rfl,trivial⟩ fun H1 l1=>?_
 have h:=h.le l1
 refine ab _ (aY _ _) (ai (fun ho=>?_) (fun ho=>?_))
 ·have ho:CZ cs b ≠ 0:=by simpa using ho
  have hne:b.stack ≠ []:=fun e=>ho (xP e)
  rw[bad (e:=8) (by rw[vB,if_neg (by rw[hv];simp),if_neg hne,if_pos ho]) (by omega)]
  refine aa (aa (aa (aa ?_)))
  exact ah ⟨vH,.slice none 0 0,rfl,OwnB.zero tys,Sl.nil _ _⟩
 have ho:CZ cs b=0:=by simpa using ho
 refine aa ?_
 refine ar (TM h hB) ?_
 rintro _ H2 O2 ⟨w,s,rfl,ho2,hs⟩ l2
 rw[List.append_nil]
 have e3:yZ b=cU b:=by rw[yZ,if_neg (by rw[hv];simp)]
 rw[e3] at hs ⊢
 refine⟨al w (lS b).1++(Bq (cU b) s++[iV (lS b).2]),rfl,ax (aZ H2 ho2) (ax ⟨rfl,rfl,rfl,rfl,hs.one,trivial⟩ ⟨rfl,trivial⟩),af fun r3=>?_⟩
 by_cases hne:b.stack=[]
 ·have e2:(lS b)=(zBd,9):=by rw[lS,if_neg (by rw[hv];simp),if_pos hne]
  rw[bad (e:=9) (by rw[vB,if_neg (by rw[hv];simp),if_pos hne]) (by omega)]
  rw[e2] at *
  refine aa (aa ?_)
  refine ab _ (aY _ _) (ai (fun _=>?_) (fun hd=>by cases hd))
  refine aa (aa (aa (aa ?_)))
  exact kZ ⟨vH,.slice none 0 0,rfl,OwnB.zero tys,Sl.nil _ _⟩
 have hE:vB cs b=0:=by rw[vB,if_neg (by rw[hv];simp),if_neg hne,if_neg (by rw[ho];simp)]
 obtain⟨p1,p2,p3,p4⟩:=OV hv hne hz
 obtain⟨i1,i2,i3,i4⟩:=BA hv hne
 have hq:Vu (Et cs b most) (EB cs b) (vB cs b)=Vu (mU cs (cU b) most (BJ cs (cU b).card (cU b).trig) (cU b).tgs (sU cs (cU b) (lS b).1)) (cU b) 0:=by
  rw[Et,EB,if_pos hE,if_pos hE,hE];rfl
 rw[hq,p1]
 have hgl:=hgl.le (Heap.le_trans l1 l2)
 have hk:=hk.le (Heap.le_trans l1 l2)
 clear hq bad hE
 generalize lS b=pb at *
 generalize cU b=x at *
 refine aa (aa ?_)
 refine ab _ (aY _ _) (ai (fun hd=>by cases hd) (fun _=>?_))
 refine aa ?_
 refine ab _ (aB _ _) (ai (fun ht=>?_) (fun ht=>?_))
 ·have ht:x.trig < 0:=of_decide_eq_true ht
  refine aa ?_
  refine ar (NH hk hli x.card) ?_
  rintro _ H3 _ ⟨⟨cells,rfl,c1,c2,c3⟩,rfl⟩ l3
  rw[List.nil_append]
  refine⟨cells,by simp[Shp.open,c1],c2,?_⟩
  have hke:ak (.bin .eql .int) [g cells 1,iV 2]=some (.bool ((cdX cs x.card).kind == 2)):=by rw[c3];exact ay _ _
  refine ab _ hke (ai (fun hc=>?_) (fun hc=>?_))
  ·have hc:(cdX cs x.card).kind=2:=by simpa using hc
   have eb:sU cs x pb.1=(cX pb.1 x.id 2).1:=by rw[sU,if_pos ⟨ht,hc⟩]
   obtain⟨k,o,f1,f2⟩:=p4 ht
   have hv3:an (cX pb.1 x.id 2).1=true:=xW p2 f1 f2 (by omega)
   rw[eb]
   refine aa (aa ?_)
   refine dr ho2 (fun Hf lf hf=>Jb hf (Rf p3 (by omega)) i3 2) ?_
   rintro _ H4 O4 ⟨w4,rfl,h4⟩ l4
   refine⟨al w4 (cX pb.1 x.id 2).1++[iV (cX pb.1 x.id 2).2],rfl,ax (aZ H4 h4) ⟨rfl,trivial⟩,?_⟩
   have l34:=Heap.le_trans l3 l4
   refine aa ?_
   exact F5 (hgl.le l34) (hk.le l34) hli i2 i3 (hs.le l34) h4 hv3 (uX p3 _ _) (by omega) most rfl rfl rfl rfl rfl rfl rfl
  ·have hc:(cdX cs x.card).kind ≠ 2:=by simpa using hc
   have eb:sU cs x pb.1=pb.1:=by rw[sU,if_neg (fun h=>hc h.2)]
   rw[eb]
   exact F5 (hgl.le l3) (hk.le l3) hli i2 i3 (hs.le l3) ho2 p2 p3 (by omega) most rfl rfl rfl rfl rfl rfl rfl
 ·have ht:¬ x.trig < 0:=of_decide_eq_false ht
  have eb:sU cs x pb.1=pb.1:=by rw[sU,if_neg (fun h=>ht h.1)]
  rw[eb]
  exact F5 hgl hk hli i2 i3 hs ho2 p2 p3 (by omega) most rfl rfl rfl rfl rfl rfl rfl
def Vt (x:Bd) (it:It) (e:Int) (r:Value) (H':Heap) (O':Own):Prop:=(∃ w s,r=.tuple #[.agg (al w x).toArray,.agg (Bq it s).toArray,iV e]∧BdS H' w x∧Sl H' 2 s (bO it.tgs))∧O'=[]
theorem Ol {n:Nat} {b:Bd} (h:szB n b) (hn:n≤100000):∀ q,(ao b q).lib.length + (ao b q).hand.length≤1000000:=fun q=>by
 obtain⟨a1,a2,_⟩:=y6 h q
 omega
theorem Pg {H:Heap} {av:Value} {L:List Eff} (h:Sl H 1 av (qw L)) {i:Nat} (hi:i < L.length):ak .len [av]=some (iV L.length)∧∃ a,ak (.idx 1) [av,iV i]=some (.pointer (some a))∧Reads H [] (.pointer (some a)) 1 [.bool (rF L[i])]:=by
 have hlen:=h.len
 rw[qw,List.length_map] at hlen
 obtain⟨a,k1,k2,_⟩:=(h.rsl ([]:Own)).idx .i64 i [.bool (rF L[i])] (by rw[qw,List.getElem?_map,List.getElem?_eq_getElem hi];rfl)
 exact⟨hlen,a,k1,k2⟩
theorem Gt {H:Heap} {cv:Value} {cs:List CdX} (hk:CardsX H cv cs) (hli:dh (cs.map CdX.base)=true) {x:It} (hp:x.player=0∨x.player=1) (hid:i64 x.id) {s:Value} (hs:Sl H 2 s (bO x.tgs)) {w:cn} {c:Bd} (hc:BdS H w c) (hv:an c=true) {n:Nat} (hz:szB n c) (hn:n≤20000) (most:Int)
  {av:Value} (hav:Sl H 1 av (qw (BJ cs x.card x.trig))) {l0 l1 l2:List Value} (q0:g l0 0=cv) (q39:g l0 39=iV most) (q40:g l0 40=av) (q5:G5 l1 38=Bq x s) (q1:g l1 38=iV x.player) (q2:g l1 39=iV x.id) (q3:g l1 42=s) (q4:G38 l2 0=al w c) {r1 r2 r3 r4 lab:Nat} :
  (dP r1 l0 l1 lab l2 r2 r3 r4).den PP (Vt (mU cs x most (BJ cs x.card x.trig) x.tgs c) x 0) H []:=by
 simp only[dP]
 rw[q0,q39,q40,q5,q1,q2,q3,q4]
 have hL5:=rE hli x.card x.trig
 refine aa ?_
 refine ar (zo hk x.player x.id x.card x.trig hs.one) ?_
 rintro ev H1 _ ⟨hev,rfl⟩ l1
 refine⟨[ev],rfl,⟨hev.one,trivial⟩,?_⟩
 obtain⟨elen,_⟩:=DN hev
 generalize hL:BJ cs x.card x.trig=L at *
 generalize hfin:mU cs x most L x.tgs c=fin
 have tlen:ak .len [s]=some (iV x.tgs.length):=by have:=hs.len;rwa [bf] at this
 have tB:=hs.lenB
 rw[bf] at tB
 refine fG (fun vs H' O'=>∃ (i k:Nat) (w:cn) (c:Bd),vs=iV (k:Int)::iV (i:Int)::al w c∧i≤L.length∧k≤x.tgs.length∧Heap.le H1 H'∧BdS H' w c∧O'=[]∧an c=true∧szB (n + 100 * i) c∧mU cs x most (L.drop i) (x.tgs.drop k) c=fin) (fun vs _ _=>match g vs 1 with | .int _ k=>L.length + 1 - k.toNat | _=>0) ⟨0,0,w,c,rfl,Nat.zero_le _,Nat.zero_le _,Heap.le_refl _,hc.le l1,rfl,hv,hz,hfin⟩ ?_
 rintro _ H2 O2 _ _ _ ⟨i,k,w2,c2,rfl,hi,hkt,hle,hc2,rfl,hv2,hz2,hg⟩
 have l12:=Heap.le_trans l1 hle
 have hk:=hk.le l12
 have hev:=hev.le hle
 have hs2:=hs.le l12
 have hav:=hav.le l12
 refine ab _ elen ?_
 refine ab _ (aB _ _) (ai (fun hlt=>?_) (fun hge=>?_))
 ·have hlt:i < L.length:=by have:=of_decide_eq_true hlt;omega
  rw[List.drop_eq_getElem_cons hlt,y4] at hg
  obtain⟨a,k1,k2,k3,k4,k5⟩:=(hev.rsl ([]:Own)).idx .i64 i _ (ny hlt)
  obtain⟨alen,a5,v1,v2⟩:=Pg hav hlt
  generalize L[i]=e at *
  have nxt:∀ {H3:Heap} {k3:Nat} {w3:cn} {c3:Bd},Heap.le H2 H3→k3≤x.tgs.length→BdS H3 w3 c3→(an c3=true∧szB (n + 100 * i + 100) c3)→mU cs x most (L.drop (i + 1)) (x.tgs.drop k3) c3=fin →
    (∃ (j k:Nat) (w:cn) (c:Bd),iV (k3:Int)::iV ((i + 1:Nat):Int)::al w3 c3=iV (k:Int)::iV (j:Int)::al w c∧j≤L.length∧k≤x.tgs.length∧Heap.le H1 H3∧BdS H3 w c∧([]:Own)=[]∧an c=true∧szB (n + 100 * j) c∧mU cs x most (L.drop j) (x.tgs.drop k) c=fin) ∧
     (L.length + 1 - ((i + 1:Nat):Int).toNat < L.length + 1 - (i:Int).toNat):=by
   intro H3 k3 w3 c3 h1 h2 h3 h4 h5
   refine⟨⟨i + 1,k3,w3,c3,rfl,hlt,h2,Heap.le_trans hle h1,h3,rfl,h4.1,by rw[Nat.mul_add,← Nat.add_assoc];exact h4.2,h5⟩,?_⟩
   omega
  have act:∀ t,an (yw cs x most c2 e t)=true∧szB (n + 100 * i + 100) (yw cs x most c2 e t):=fun t=>LZ most e t hp hid hv2 hz2
  have hil:decide ((i:Int) < (L.length:Int))=true:=decide_eq_true (by omega)
  refine af fun b4=>?_
  refine ab _ k1 ?_
  refine aw rfl ?_
  refine ap (k3 1 1 (by omega)) rfl ⟨rfl,trivial⟩ ?_
  refine ab _ (aY _ _) (ai (fun h0=>?_) (fun h0=>?_))
  ·have h0:e.target ≠ 0:=by simpa using h0
   rw[if_neg h0] at hg
   refine aa ?_
   refine ab _ tlen ?_
   refine ab _ (cI _ _) (ai (fun hz0=>?_) (fun hz0=>?_))
   ·have hkl:x.tgs.length≤k:=by have:=of_decide_eq_true hz0;omega
    have hnil:x.tgs.drop k=[]:=List.drop_of_length_le hkl
    rw[if_pos hnil] at hg
    obtain⟨n1,n2⟩:=nxt (Heap.le_refl _) hkt hc2 ⟨hv2,szB.le hz2 (by omega)⟩ hg
    exact ab _ (az (by omega)) (bU (by simp[Eqs,E]) n1 n2)
   have hkl:k < x.tgs.length:=by have:=of_decide_eq_false hz0;omega
   rw[List.drop_eq_getElem_cons hkl,if_neg (List.cons_ne_nil x.tgs[k] (x.tgs.drop (k + 1)))] at hg
   obtain⟨a2,m1,m2,_,m4,m5⟩:=(hs2.rsl ([]:Own)).idx .i64 k (Tg.row x.tgs[k]) (by rw[bO,List.getElem?_map,List.getElem?_eq_getElem hkl];rfl)
   have hg:mU cs x most (L.drop (i + 1)) (x.tgs.drop (k + 1)) (yw cs x most c2 e x.tgs[k])=fin:=hg
   generalize x.tgs[k]=t at *
   refine aa ?_
   refine ab _ m1 (ap m2 m4 m5 ?_)
   refine aa ?_
   refine ab _ (az (by omega)) ?_
   refine ab _ alen ?_
   refine ab _ (aB _ _) ?_
   rw[hil]
   refine ae (ae ?_)
   refine⟨.pointer (some a5),fun _=>v1,.inr rfl,?_⟩
   refine ae ?_
   refine⟨[.bool (rF e)],rfl,⟨rfl,trivial⟩,fun _=>v2,?_⟩
   refine ae ?_
   refine ab _ (aT _ _) (ai (fun he=>?_) (fun he=>?_))
   ·have he:rF e=true:=by simpa using he
    have ea:yw cs x most c2 e t=rx cs c2 x.player x.id e t most:=by rw[yw,if_pos he]
    have act:=act t
    rw[ea] at hg act
    refine aa (aa (aa ?_))
    refine ab _ k1 (ap k2 k4 k5 ?_)
    refine aa ?_
    refine ar (La hk hli hc2 hv2 (Rf hz2 (by omega)) (Oh hz2 (by omega)) (Ol hz2 (by omega)) hp hid he) ?_
    rintro _ H4 _ ⟨⟨w4,rfl,h4⟩,rfl⟩ l4
    refine⟨al w4 _,rfl,am (h4.r []),?_⟩
    obtain⟨n1,n2⟩:=nxt l4 hkl h4 act hg
    refine aa ?_
    exact ab _ (az (by omega)) (bU (by simp[Eqs,E]) n1 n2)
   ·have he:rF e=false:=by simpa using he
    have ea:yw cs x most c2 e t=c2:=by rw[yw,if_neg (by rw[he];simp)]
    rw[ea] at hg
    obtain⟨n1,n2⟩:=nxt (Heap.le_refl _) hkl hc2 ⟨hv2,szB.le hz2 (by omega)⟩ hg
    exact ab _ (az (by omega)) (bU (by simp[Eqs,E]) n1 n2)
  ·have h0:e.target=0:=by simpa using h0
   rw[if_pos h0] at hg
   refine ab _ alen ?_
   refine ab _ (aB _ _) ?_
   rw[hil]
   refine ae (ae ?_)
   refine⟨.pointer (some a5),fun _=>v1,.inr rfl,?_⟩
   refine ae ?_
   refine⟨[.bool (rF e)],rfl,⟨rfl,trivial⟩,fun _=>v2,?_⟩
   refine ae ?_
   refine ab _ (aT _ _) (ai (fun he=>?_) (fun he=>?_))
   ·have he:rF e=true:=by simpa using he
    have ea:yw cs x most c2 e ⟨0,0⟩=rx cs c2 x.player x.id e ⟨0,0⟩ most:=by rw[yw,if_pos he]
    have act:=act ⟨0,0⟩
    rw[ea] at hg act
    refine aa (aa (aa ?_))
    refine ab _ k1 (ap k2 k4 k5 ?_)
    refine aa ?_
    refine ar (La (t:=⟨0,0⟩) hk hli hc2 hv2 (Rf hz2 (by omega)) (Oh hz2 (by omega)) (Ol hz2 (by omega)) hp hid he) ?_
    rintro _ H4 _ ⟨⟨w4,rfl,h4⟩,rfl⟩ l4
    refine⟨al w4 _,rfl,am (h4.r []),?_⟩
    obtain⟨n1,n2⟩:=nxt l4 hkt h4 act hg
    refine aa ?_
    exact ab _ (az (by omega)) (bU (by simp[Eqs,E]) n1 n2)
   ·have he:rF e=false:=by simpa using he
    have ea:yw cs x most c2 e ⟨0,0⟩=c2:=by rw[yw,if_neg (by rw[he];simp)]
    rw[ea] at hg
    obtain⟨n1,n2⟩:=nxt (Heap.le_refl _) hkt hc2 ⟨hv2,szB.le hz2 (by omega)⟩ hg
    exact ab _ (az (by omega)) (bU (by simp[Eqs,E]) n1 n2)
 ·have hge:L.length≤i:=by have:=of_decide_eq_false hge;omega
  rw[List.drop_of_length_le hge] at hg
  have hg:c2=fin:=hg
  subst hg
  refine aa (aa (aa (aa (aa (aa ?_)))))
  exact ah ⟨⟨w2,s,rfl,hc2,hs2⟩,rfl⟩
theorem WH {H:Heap} {cv:Value} {cs:List CdX} (hk:CardsX H cv cs) (hli:dh (cs.map CdX.base)=true) {v:cn} {b:Bd} (h:BdS H v b) (hv:an b=true) {n:Nat} (hz:szB n b) (hn:n≤19000) (most:Int) {av:Value} (h1:av.oneCell'=true) (hav:b.stack ≠ []→Sl H 1 av (qw (BJ cs (cU b).card (cU b).trig))) :
  Triple PP pm [cv,.agg (al v b).toArray,iV most,av] H [] (Vt (Et cs b most) (EB cs b) (vB cs b)):=by
 refine vn (vs:=cv::(al v b++[iV most,av])) (by kernel_rfl) ⟨hk.one,ax (am (h.r [])) ⟨rfl,h1,trivial⟩⟩ ?_
 simp only[o6]
 have hB:=Rf hz (by omega)
 have slen:ak .len [v.s]=some (iV b.stack.length):=ItsR.len (h.stack.r [])
 refine af fun r0=>af fun r1=>af fun r2=>?_
 have bad:∀ {e:Int},vB cs b=e→e ≠ 0→Vt (Et cs b most) (EB cs b) (vB cs b)=Vt zBd zIt e:=fun he hne=>by
  rw[Et,EB,he,if_neg hne,if_neg hne]
 refine aa ?_
 refine ab _ slen ?_
 refine ab _ (ay _ _) (ai (fun h0=>?_) (fun h0=>?_))
 ·have h0:b.stack=[]:=List.length_eq_zero_iff.1 (by have:(b.stack.length:Int)=0:=(by simpa using h0);omega)
  rw[bad (e:=9) (by rw[vB,if_neg (by rw[hv];simp),if_pos h0]) (by omega)]
  simp only[fu]
  refine aa (aa (aa (aa ?_)))
  exact ah ⟨⟨vH,.slice none 0 0,rfl,vk _,Sl.nil _ _⟩,rfl⟩
 have hne:b.stack ≠ []:=fun e=>by rw[e] at h0;simp at h0
 refine aa ?_
 refine aj (VK hk hli h hv) rfl ⟨rfl,trivial⟩ fun H1 l1=>?_
 have h:=h.le l1
 refine ab _ (aY _ _) (ai (fun ho=>?_) (fun ho=>?_))
 ·have ho:CZ cs b ≠ 0:=by simpa using ho
  rw[bad (e:=8) (by rw[vB,if_neg (by rw[hv];simp),if_neg hne,if_pos ho]) (by omega)]
  simp only[fu]
  refine aa (aa (aa (aa ?_)))
  exact ah ⟨⟨vH,.slice none 0 0,rfl,vk _,Sl.nil _ _⟩,rfl⟩
 have ho:CZ cs b=0:=by simpa using ho
 refine aa ?_
 refine ar (WJ h hv hB) ?_
 rintro _ H2 _ ⟨⟨w,s,rfl,hp,hs⟩,rfl⟩ l2
 have e3:yZ b=cU b:=by rw[yZ,if_neg (by rw[hv];simp)]
 rw[e3] at hs ⊢
 refine⟨al w (lS b).1++(Bq (cU b) s++[iV (lS b).2]),rfl,ax (am (hp.r [])) (ax ⟨rfl,rfl,rfl,rfl,hs.one,trivial⟩ ⟨rfl,trivial⟩),af fun r3=>?_⟩
 have hE:vB cs b=0:=by rw[vB,if_neg (by rw[hv];simp),if_neg hne,if_neg (by rw[ho];simp)]
 obtain⟨p1,p2,p3,p4⟩:=OV hv hne hz
 obtain⟨i1,i2,i3,i4⟩:=BA hv hne
 have hq:Vt (Et cs b most) (EB cs b) (vB cs b)=Vt (mU cs (cU b) most (BJ cs (cU b).card (cU b).trig) (cU b).tgs (sU cs (cU b) (lS b).1)) (cU b) 0:=by
  rw[Et,EB,if_pos hE,if_pos hE,hE];rfl
 rw[hq]
 have l12:=Heap.le_trans l1 l2
 have hk:=hk.le l12
 have hav:=(hav hne).le l12
 clear hq bad hE
 generalize lS b=pb at *
 generalize cU b=x at *
 refine aa (aa (aa ?_))
 refine ab _ (ay _ _) (ai (fun ht=>?_) (fun ht=>?_))
 ·have ht:x.trig=-1:=by simpa using ht
  have ht:x.trig < 0:=by omega
  refine aa ?_
  refine ar (OQ (O:=[]) hk (UA x.card)) ?_
  rintro _ H3 _ ⟨⟨cells,rfl,c1,c2,c3⟩,rfl⟩ l3
  have c3:g cells 1=iV (cdX cs x.card).kind:=c3.kind
  refine⟨cells,by simp[Shp.open,c1],c2,?_⟩
  have hke:ak (.bin .eql .int) [g cells 1,iV 2]=some (.bool ((cdX cs x.card).kind == 2)):=by rw[c3];exact ay _ _
  refine ab _ hke (ai (fun hc=>?_) (fun hc=>?_))
  ·have hc:(cdX cs x.card).kind=2:=by simpa using hc
   have eb:sU cs x pb.1=(cX pb.1 x.id 2).1:=by rw[sU,if_pos ⟨ht,hc⟩]
   obtain⟨k,o,f1,f2⟩:=p4 ht
   have hv3:an (cX pb.1 x.id 2).1=true:=xW p2 f1 f2 (by omega)
   rw[eb]
   refine aa (aa ?_)
   refine ar (show Triple PP fS [.agg (al w pb.1).toArray,iV x.id,iV 2] H3 [] fun r H' O'=>(∃ w,r=.agg (al w (cX pb.1 x.id 2).1).toArray∧BdS H' w (cX pb.1 x.id 2).1)∧O'=[] from by
    rw[← f2];exact tU (hp.le l3) p2 (Rf p3 (by omega)) f1 2 (by omega)) ?_
   rintro _ H4 _ ⟨⟨w4,rfl,h4⟩,rfl⟩ l4
   refine⟨al w4 (cX pb.1 x.id 2).1,rfl,am (h4.r []),?_⟩
   have l34:=Heap.le_trans l3 l4
   refine aa ?_
   exact Gt (hk.le l34) hli i2 i3 (hs.le l34) h4 hv3 (uX p3 _ _) (by omega) most (hav.le l34) rfl rfl rfl rfl rfl rfl rfl rfl
  ·have hc:(cdX cs x.card).kind ≠ 2:=by simpa using hc
   have eb:sU cs x pb.1=pb.1:=by rw[sU,if_neg (fun h=>hc h.2)]
   rw[eb]
   exact Gt (hk.le l3) hli i2 i3 (hs.le l3) (hp.le l3) p2 p3 (by omega) most (hav.le l3) rfl rfl rfl rfl rfl rfl rfl rfl
 ·have ht:x.trig ≠ -1:=by simpa using ht
  have eb:sU cs x pb.1=pb.1:=by rw[sU,if_neg (fun h=>by omega)]
  rw[eb]
  exact Gt hk hli i2 i3 hs hp p2 p3 (by omega) most hav rfl rfl rfl rfl rfl rfl rfl rfl
theorem VS {H:Heap} {O:Own} (hgl:GlobOk zC H) {cv:Value} {cs:List CdX} (hk:CardsX H cv cs) (hli:dh (cs.map CdX.base)=true) {vv:List Value} {most:Int} {v u w:cn} {b:Bd} {s:Value} (h:BdS H v b) (hu:BdS H u b) (hv:an b=true) {i:Nat} (hi:i < 25) (hz:szB (40 + 510 * i) b) (ho:OwnB tys w (Et cs b most) O) (hs:Sl H 2 s (bO (EB cs b).tgs))
  {av:Value} (h1:av.oneCell'=true) (hav:b.stack ≠ []→Sl H 1 av (qw (BJ cs (cU b).card (cU b).trig))) (q0:g vv 0=cv) (q39:g vv 39=iV most) {r1 r2 r3 r4 m:Nat}
  {I:List Value→Heap→Own→Prop} {μ:List Value→Heap→Own→Nat} (hI:∀ {H':Heap} {w':cn} {c':Bd},Heap.le H H'→BdS H' w' c'→szB (40 + 510 * (i + 1)) c'→I (iV ((i + 1:Nat):Int)::al w' c') H' []∧μ (iV ((i + 1:Nat):Int)::al w' c') H' [] < m) :
  (bM vv (iV (i:Int)::al v b) [av] r1 (al w (Et cs b most)++(Bq (EB cs b) s++[iV (vB cs b)])) r2 r3 r4 (al u b) (L8 I μ m)).den PP (fun r _ O'=>r=.bool true∧O'=[]) H O:=by
 simp only[bM,q0,q39]
 refine ar (WH hk hli h hv hz (by omega) most h1 hav) ?_
 rintro _ H2 _ ⟨⟨w2,s2,rfl,h2,hs2⟩,rfl⟩ l2
 rw[List.nil_append]
 refine⟨al w2 (Et cs b most)++(Bq (EB cs b) s2++[iV (vB cs b)]),rfl,ax (am (h2.r [])) (ax ⟨rfl,rfl,rfl,rfl,hs2.one,trivial⟩ ⟨rfl,trivial⟩),af fun b4=>af fun b5=>?_⟩
 refine aa (aa (aa (aa ?_)))
 refine aj (zn (x:=EB cs b) (y:=EB cs b) ⟨s,rfl,(hs.le l2).rsl _⟩ ⟨s2,rfl,hs2.rsl _⟩) rfl ⟨rfl,trivial⟩ fun H3 l3=>?_
 rw[show (EB cs b == EB cs b)=true from by simp]
 have l23:=Heap.le_trans l2 l3
 refine ab _ (aJ _) (ai (fun hd=>by cases hd) (fun _=>?_))
 refine aa (aa (aa (aa ?_)))
 refine yl (O1:=O) (O2:=[]) (by simp) (QC ho (h2.le l3) (h.le l23) (hu.le l23) (vB cs b) (vB cs b)) rfl ⟨rfl,trivial⟩ fun Hg Og lg=>?_
 rw[show (((Et cs b most == Et cs b most) && (vB cs b == vB cs b)) && (b == b))=true from by simp]
 refine ab _ (aJ _) (ai (fun hd=>by cases hd) (fun _=>?_))
 refine ab _ (aY _ _) (ai (fun _=>?_) (fun h0=>?_))
 ·refine ar (JQ (hgl.le (Heap.le_trans l23 lg))) ?_
  rintro _ H5 _ ⟨rfl,rfl⟩ l5
  exact⟨[.bool true],rfl,⟨rfl,trivial⟩,kZ ⟨rfl,rfl⟩⟩
 ·have h0:vB cs b=0:=by simpa using h0
  obtain⟨_,t2⟩:=TV most hli hz h0
  obtain⟨n1,n2⟩:=hI (Heap.le_trans l23 lg) (h2.le (Heap.le_trans l3 lg)) (szB.le t2 (by omega))
  refine aa (aa ?_)
  refine ab _ (az (by omega)) ?_
  refine⟨by simp[Eqs,E],fun _=>⟨Hg,[],Ghost.drop _ _,n1,n2⟩⟩
theorem Jr {H:Heap} (hgl:GlobOk zC H) {cv:Value} {cs:List CdX} (hk:CardsX H cv cs) {v:cn} {b:Bd} (h:BdS H v b) (most:Int) :
  Triple PP iu [cv,.agg (al v b).toArray,iV most] H [] fun r _ O'=>r=.bool true∧O'=[]:=by
 refine mV (vs:=cv::(al v b++[iV most])) (by kernel_rfl) ⟨hk.one,ax (am (h.r [])) ⟨rfl,trivial⟩⟩ ?_
 simp only[io]
 have kn:∀ {H'},Heap.le H H'→dZ (fun H1 O1 R=>Triple PP iE [] H1 O1 R) false [] [] .one (fun l _=>(Tree.ret (g l 0) []).den PP fun r _ O'=>r=.bool true∧O'=[]) H' []:=fun hl=>ar (JQ (hgl.le hl)) (by
  rintro _ H2 _ ⟨rfl,rfl⟩ l2
  exact⟨[.bool true],rfl,⟨rfl,trivial⟩,ah ⟨rfl,rfl⟩⟩)
 refine af fun r0=>?_
 refine aj (Va hk.base) rfl ⟨rfl,trivial⟩ fun H1 l1=>?_
 refine ab _ (aJ _) (ai (fun _=>?_) (fun hli=>?_))
 ·exact kn l1
 have hli:dh (cs.map CdX.base)=true:=sR hli
 have h:=h.le l1
 refine aa ?_
 refine aj (U4 (h.r [])) rfl ⟨rfl,trivial⟩ fun H2 l2=>?_
 have h:=h.le l2
 have l12:=Heap.le_trans l1 l2
 refine ab _ (aJ _) (ai (fun _=>?_) (fun hsm=>?_))
 ·exact kn l12
 have hsz:=Rm (sR hsm)
 refine ar (V2 (hk.le l12)) ?_
 rintro _ H3 _ ⟨⟨mb,rfl⟩,rfl⟩ l3
 refine⟨[.bool mb],rfl,⟨rfl,trivial⟩,?_⟩
 have h:=h.le l3
 have l13:=Heap.le_trans l12 l3
 refine ab _ (aJ _) (ai (fun _=>?_) (fun _=>?_))
 ·exact kn l13
 refine fG (fun vs H' O'=>∃ (i:Nat) (w:cn) (c:Bd),vs=iV (i:Int)::al w c∧i≤25∧Heap.le H H'∧BdS H' w c∧szB (40 + 510 * i) c∧O'=[]) (fun vs _ _=>match g vs 0 with | .int _ k=>25 + 1 - k.toNat | _=>0) ⟨0,v,b,rfl,Nat.zero_le _,l13,h,hsz,rfl⟩ ?_
 rintro _ H4 O4 _ _ _ ⟨i,w,c,rfl,hi,hle,hc,hcz,rfl⟩
 refine ab _ (aB _ _) (ai (fun hlt=>?_) (fun _=>?_))
 case refine_2 =>
  exact kn hle
 have hlt:i < 25:=by have:=of_decide_eq_true hlt;omega
 have hB:=Rf hcz (by omega)
 refine aa ?_
 refine ar (Triple.frozen (EW hc hB)) ?_
 rintro _ H5 _ ⟨⟨u,rfl,hu⟩,rfl⟩ l5
 refine⟨al u c,rfl,am (hu.r []),af fun r1=>?_⟩
 have hc:=hc.le l5
 have hle5:=Heap.le_trans hle l5
 refine aa (aa ?_)
 refine ar (WU (hgl.le hle5) (hk.le hle5) hli hc hcz (by omega) most) ?_
 rintro _ H6 O6 ⟨w6,s6,rfl,ho6,hs6⟩ l6
 have hle6:=Heap.le_trans hle5 l6
 refine⟨al w6 (Et cs c most)++(Bq (EB cs c) s6++[iV (vB cs c)]),rfl,ax (aZ H6 ho6) (ax ⟨rfl,rfl,rfl,rfl,hs6.one,trivial⟩ ⟨rfl,trivial⟩),af fun r2=>af fun r3=>?_⟩
 rw[show O6++(([]:Own)++[])=O6 from by simp]
 have hc:=hc.le l6
 have hu:=hu.le l6
 refine aa (aa (aa ?_))
 refine aj (OL (hc.r _) (Oh hcz (by omega))) rfl ⟨rfl,trivial⟩ fun H7 l7=>?_
 have hc:=hc.le l7
 have hu:=hu.le l7
 have hs7:=hs6.le l7
 have hle7:=Heap.le_trans hle6 l7
 rw[KA]
 refine ab _ (aJ _) (ai (fun hv=>?_) (fun hv=>?_))
 ·have hv:an c=false:=u6 hv
  have hE:vB cs c=2:=by rw[vB,if_pos hv]
  have eV:Et cs c most=zBd:=by rw[Et,hE];rfl
  have eX:EB cs c=zIt:=by rw[EB,hE];rfl
  rw[eV] at ho6 ⊢
  rw[eX] at hs7 ⊢
  rw[hE]
  refine aa (aa (aa ?_))
  refine yl (O1:=O6) (O2:=[]) (by simp) (QC ho6 (vk _) hc hu 2 2) rfl ⟨rfl,trivial⟩ fun Hg Og lg=>?_
  rw[show (((zBd == zBd) && ((2:Int) == 2)) && (c == c))=true from by simp]
  refine ai (fun _=>?_) (fun hd=>by cases hd)
  refine aa ?_
  refine aj (zn (x:=zIt) (y:=zIt) ⟨s6,rfl,(hs7.le lg).rsl _⟩ ⟨.slice none 0 0,rfl,(Sl.nil _ _).rsl _⟩) rfl ⟨rfl,trivial⟩ fun H8 l8=>?_
  rw[show (zIt == zIt)=true from by simp]
  refine ai (fun _=>?_) (fun hd=>by cases hd)
  refine ar (JQ (hgl.le (Heap.le_trans hle7 (Heap.le_trans lg l8)))) ?_
  rintro _ H9 _ ⟨rfl,rfl⟩ l9
  exact⟨[.bool true],rfl,⟨rfl,trivial⟩,kZ ⟨rfl,rfl⟩⟩
 have hv:an c=true:=sR hv
 have slen:ak .len [w.s]=some (iV c.stack.length):=ItsR.len (hc.stack.r [])
 have h200:=oO hv
 have fin:∀ {H':Heap} {av:Value},Heap.le H7 H'→av.oneCell'=true→(c.stack ≠ []→Sl H' 1 av (qw (BJ cs (cU c).card (cU c).trig))) →
   (bM (cv::(al v b++[iV most])) (iV (i:Int)::al w c) [av] r3 (al w6 (Et cs c most)++(Bq (EB cs c) s6++[iV (vB cs c)])) r2 r0 r1 (al u c) (L8 (fun vs H' O'=>∃ (i:Nat) (w:cn) (c:Bd),vs=iV (i:Int)::al w c∧i≤25∧Heap.le H H'∧BdS H' w c∧szB (40 + 510 * i) c∧O'=[]) (fun vs _ _=>match g vs 0 with | .int _ k=>25 + 1 - k.toNat | _=>0) (25 + 1 - (i:Int).toNat))).den PP (fun r _ O'=>r=.bool true∧O'=[]) H' O6:=by
  intro H' av lq h1 h2
  have hleq:=Heap.le_trans hle7 lq
  refine VS (hgl.le hleq) (hk.le hleq) hli (hc.le lq) (hu.le lq) hv hlt hcz ho6 (hs7.le lq) h1 h2 rfl rfl ?_
  intro H9 w9 c9 l9 h9 z9
  refine⟨⟨i + 1,w9,c9,rfl,hlt,Heap.le_trans hleq l9,h9,z9,rfl⟩,?_⟩
  show 25 + 1 - ((i + 1:Nat):Int).toNat < 25 + 1 - (i:Int).toNat
  omega
 refine aa ?_
 refine ab _ slen ?_
 refine ab _ (bK _ _) (ai (fun hpos=>?_) (fun hpos=>?_))
 ·have hpos:(c.stack.length:Int) > 0:=of_decide_eq_true hpos
  have hne:c.stack ≠ []:=fun e=>by rw[e] at hpos;simp at hpos
  obtain⟨l,x,hl⟩:=BP hne
  have hlen:c.stack.length=l.length + 1:=by rw[hl];simp
  have esub:((c.stack.length:Int) - 1)=(l.length:Int):=by omega
  obtain⟨a,s,k1,hs,k2,_⟩:=PN (O:=O6) hc.stack (i:=l.length) (x:=x) (by rw[hl];exact yi l x)
  refine aa ?_
  refine ab _ (Eu (by omega) (by omega)) ?_
  rw[esub]
  refine ab _ k1 (ap k2 rfl ⟨rfl,rfl,rfl,rfl,hs.one,trivial⟩ ?_)
  refine ar (zo (hk.le hle7) x.player x.id x.card x.trig hs.one) ?_
  rintro ev H8 _ ⟨hev,rfl⟩ l8
  rw[List.nil_append]
  refine⟨[ev],rfl,⟨hev.one,trivial⟩,?_⟩
  have hL5:=rE hli x.card x.trig
  refine aa ?_
  refine ar (IH hev (by omega)) ?_
  rintro av H9 _ ⟨hav,rfl⟩ l9
  rw[List.nil_append]
  refine⟨[av],rfl,⟨hav.one,trivial⟩,?_⟩
  exact fin (Heap.le_trans l8 l9) hav.one (fun _=>by rw[sY hl];exact hav)
 ·have hne:c.stack=[]:=List.length_eq_zero_iff.1 (by have:=of_decide_eq_false hpos;omega)
  refine aa ?_
  refine ar (IH (l:=[]) (Sl.nil _ _) (by simp)) ?_
  rintro av H9 _ ⟨hav,rfl⟩ l9
  rw[List.nil_append]
  refine⟨[av],rfl,⟨hav.one,trivial⟩,?_⟩
  exact fin l9 hav.one (fun h=>absurd hne h)
end Go.Proofs.YtdhobpmnkfmcfaaGreatDoor
