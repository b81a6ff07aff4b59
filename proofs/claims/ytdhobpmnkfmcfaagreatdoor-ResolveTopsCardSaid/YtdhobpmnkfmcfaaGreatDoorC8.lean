/- Which boards are valid: what the program says. -/
import Derived.Test.YtdhobpmnkfmcfaaGreatDoorC1
namespace Go.Proofs.YtdhobpmnkfmcfaaGreatDoor
open Go Go.Sx
set_option maxRecDepth 100000
set_option maxHeartbeats 1000000
theorem Lr {α:Type} [DecidableEq α]:∀ {l r:List α},l.Nodup→(∀ x ∈ l,x ∈ r)→l.length≤r.length
 | [],_,_,_=>Nat.zero_le _
 | a::l,r,hn,hs=>by
  rw[List.nodup_cons] at hn
  have har:a ∈ r:=hs a (by simp)
  have h1:=Lr (r:=r.erase a) hn.2 fun x hx=>by
   have:x ≠ a:=fun e=>hn.1 (e ▸ hx)
   exact (List.mem_erase_of_ne this).2 (hs x (by simp[hx]))
  rw[List.length_erase_of_mem har] at h1
  have:=List.length_pos_of_mem har
  simp only[List.length_cons];omega
theorem E8 {α:Type} [DecidableEq α] {l r:List α} (hn:l.Nodup) (hs:∀ x ∈ l,x ∈ r) (hl:r.length≤l.length):∀ x ∈ r,x ∈ l:=by
 intro x hx
 rcases Classical.em (x ∈ l) with h | h
 ·exact h
 ·have:=Lr (l:=x::l) (r:=r) (List.nodup_cons.2 ⟨h,hn⟩) (fun y hy=>by
   rcases List.mem_cons.1 hy with rfl | hy
   ·exact hx
   ·exact hs y hy)
  simp only[List.length_cons] at this;omega
theorem Io {val:Ob→Bool} {ps cs:List (Int × Int)}:∀ {l:List Ob} {prev:Option Int},qx val ps cs prev l=true →
  (∀ o ∈ l,val o=true∧(cz ps o.id).isSome=true∧∀ p,prev=some p→p < o.id)∧(l.map (·.id)).Nodup
 | [],_,_=>⟨by simp,by simp⟩
 | o::r,prev,h=>by
  simp only[qx,E5,Bool.and_eq_true,Bool.not_eq_true',Bool.or_eq_false_iff,Bool.not_eq_false'] at h
  obtain⟨⟨⟨⟨⟨h1,h2⟩,h3⟩,_⟩,_⟩,h6⟩:=h
  obtain⟨k1,k2⟩:=Io h6
  have hp:∀ p,prev=some p→p < o.id:=by
   rintro p rfl
   simp only[jv,decide_eq_false_iff_not] at h2
   omega
  refine⟨?_,?_⟩
  ·intro x hx
   rcases List.mem_cons.1 hx with rfl | hx
   ·refine⟨h1,?_,hp⟩
    cases hl:cz ps x.id with
    | none=>rw[hl] at h3;cases h3
    | some v=>rfl
   ·obtain⟨a1,a2,a3⟩:=k1 x hx
    exact⟨a1,a2,fun p e=>by have:=a3 _ rfl;have:=hp p e;omega⟩
  ·rw[List.map_cons,List.nodup_cons]
   refine⟨?_,k2⟩
   intro hm
   obtain⟨x,hx,e⟩:=List.mem_map.1 hm
   have:=(k1 x hx).2.2 _ rfl
   omega
theorem zq {val:Ob→Bool} {b:Bd} (h:bD val b=true):∀ x ∈ (aL b).map (·.1),∃ o ∈ b.objs,o.id=x∧val o=true:=by
 simp only[bD,Bool.and_eq_true,decide_eq_true_eq] at h
 obtain⟨_,h2,h3⟩:=h
 obtain⟨k1,k2⟩:=Io h2
 intro x hx
 have:=E8 (l:=b.objs.map (·.id)) (r:=(aL b).map (·.1)) k2 (fun y hy=>by
  obtain⟨o,ho,rfl⟩:=List.mem_map.1 hy
  have:=(k1 o ho).2.1
  rcases Classical.em (o.id ∈ (aL b).map (·.1)) with h | h
  ·exact h
  ·rw[fB.2 h] at this;cases this) (by simp[h3]) x hx
 obtain⟨o,ho,rfl⟩:=List.mem_map.1 this
 exact⟨o,ho,rfl,(k1 o ho).1⟩
theorem xg {o:Ob} (h:aW o=true):1≤o.id∧o.id≤500:=by
 simp only[aW,Bool.and_eq_true,decide_eq_true_eq] at h
 exact⟨h.1.2.1.1.1.2,h.1.2.1.1.2⟩
theorem MM {b:Bd} (h:bD aW b=true):∀ x,x ∈ b.s0.field∨x ∈ b.s1.field→0 < x∧x≤500:=by
 intro x hx
 obtain⟨o,_,rfl,ho⟩:=zq h x (by
  simp only[aL,cB,List.map_append,List.map_map,List.mem_append,List.mem_map,Function.comp]
  rcases hx with hx | hx
  ·left;right;right;left;exact⟨x,hx,rfl⟩
  ·right;left;right;right;left;exact⟨x,hx,rfl⟩)
 have:=xg ho
 omega
def dm (b:Bd):Bool:=if b.active=0 then jD b.s0.field b.s1.field b.att b.blocks else jD b.s1.field b.s0.field b.att b.blocks
theorem SQ {H:Heap} {O:Own} {v:cn} {b:Bd} (h:BdR H O v b) (ha:b.active=0∨b.active=1) (hp:∀ x,x ∈ b.s0.field∨x ∈ b.s1.field→0 < x∧x≤500) :
  RetO PP wo [.agg (al v b).toArray] H O (.bool (dm b)):=by
 refine Bj (vs:=al v b) (by kernel_rfl) (am h) ?_
 simp only[vY]
 refine af fun r0=>aa ?_
 have e34:g (al v b) 34=iV b.active:=rfl
 rw[e34]
 have hs:∀ n:Int,n=0∨n=1→ak (.bin .sub .int) [iV 1,iV n]=some (iV (1 - n)):=by
  rintro n (rfl | rfl) <;> rfl
 rcases ha with ha | ha
 ·rw[ha]
  refine⟨.i64,0,rfl,fun _=>aa (aa (ab _ (hs 0 (.inl rfl)) ⟨.i64,1,rfl,fun e=>absurd e (by omega),fun _=>⟨.i64,1,rfl,fun _=>?_,fun e=>absurd rfl e⟩⟩)),fun e=>absurd rfl e⟩
  refine aa ?_
  refine FH h.s0.field h.s1.field h.att h.blocks (fun x hx=>(hp x (.inl hx)).1) (fun x hx=>hp x (.inr hx)) ?_ ?_ ?_
  ·intros;simp[Eqs]
  ·intros;simp[Eqs]
  ·exact fun H' _=>⟨by simp[dm,ha],rfl⟩
 ·rw[ha]
  refine⟨.i64,1,rfl,fun e=>absurd e (by omega),fun _=>⟨.i64,1,rfl,fun _=>aa (aa (ab _ (hs 1 (.inr rfl)) ⟨.i64,0,rfl,fun _=>?_,fun e=>absurd rfl e⟩)),fun e=>absurd rfl e⟩⟩
  refine aa ?_
  refine FH h.s1.field h.s0.field h.att h.blocks (fun x hx=>(hp x (.inr hx)).1) (fun x hx=>hp x (.inl hx)) ?_ ?_ ?_
  ·intros;simp[Eqs]
  ·intros;simp[Eqs]
  ·exact fun H' _=>⟨by simp[dm,ha],rfl⟩
theorem u6 {b:Bool} (h:(!b)=true):b=false:=by simpa using h
theorem sR {b:Bool} (h:(!b)=false):b=true:=by simpa using h
def bb (s:St):Bool:=au s.life 0 9999 && (([s.p0,s.p1,s.p2,s.p3].all fun n=>au n 0 99) && (au s.mull 0 7 && au s.acts 0 255))
def oW (b:Bd):Bool:=((!au b.passes 0 2 || decide ((b.objs.length:Int) > 500)) || decide ((b.stack.length:Int) > 200)) || decide ((b.queue.length:Int) > 200)
def an (b:Bd):Bool:=au b.active 0 1 && (au b.turn 0 1000 && (au b.phase 0 10 && (au b.holder (-1) 1 && (!oW b && (bb b.s0 && (bb b.s1 &&
 (!(b.stack.any fun x=>!cQ x false) && (!(b.queue.any fun x=>!cQ x true) && (bD aW b && dm b)))))))))
theorem dq {H:Heap} {O:Own} {v:cn} {b:Bd} (h:BdR H O v b):RetO PP yX [.agg (al v b).toArray] H O (.bool (an b)):=by
 refine CG (vs:=al v b) (by kernel_rfl) (am h) ?_
 simp only[yK]
 refine af fun r0=>?_
 refine aa (aj (dp b.active 0 1 H O) rfl ⟨rfl,trivial⟩ fun H1 l1=>ab _ (aJ _) (ai (fun hb=>ah ⟨?_,rfl⟩) (fun hb=>?_)))
 ·have kf:au b.active 0 1=false:=u6 hb
  simp only[an,kf,Bool.true_and,Bool.false_and,Bool.and_false]
 have k1:au b.active 0 1=true:=sR hb
 replace h:=h.le l1
 clear hb
 refine aa (aj (dp b.turn 0 1000 H1 O) rfl ⟨rfl,trivial⟩ fun H2 l2=>ab _ (aJ _) (ai (fun hb=>ah ⟨?_,rfl⟩) (fun hb=>?_)))
 ·have kf:au b.turn 0 1000=false:=u6 hb
  simp only[an,k1,kf,Bool.true_and,Bool.false_and,Bool.and_false]
 have k2:au b.turn 0 1000=true:=sR hb
 replace h:=h.le l2
 clear hb
 refine aa (aj (dp b.phase 0 10 H2 O) rfl ⟨rfl,trivial⟩ fun H3 l3=>ab _ (aJ _) (ai (fun hb=>ah ⟨?_,rfl⟩) (fun hb=>?_)))
 ·have kf:au b.phase 0 10=false:=u6 hb
  simp only[an,k1,k2,kf,Bool.true_and,Bool.false_and,Bool.and_false]
 have k3:au b.phase 0 10=true:=sR hb
 replace h:=h.le l3
 clear hb
 refine aa (aj (dp b.holder (-1) 1 H3 O) rfl ⟨rfl,trivial⟩ fun H4 l4=>ab _ (aJ _) (ai (fun hb=>ah ⟨?_,rfl⟩) (fun hb=>?_)))
 ·have kf:au b.holder (-1) 1=false:=u6 hb
  simp only[an,k1,k2,k3,kf,Bool.true_and,Bool.false_and,Bool.and_false]
 have k4:au b.holder (-1) 1=true:=sR hb
 replace h:=h.le l4
 clear hb
 refine aa (aj (dp b.passes 0 2 H4 O) rfl ⟨rfl,trivial⟩ fun H5 l5=>ab _ (aJ _) ?_)
 replace h:=h.le l5
 have lo:=h.objs.len
 rw[List.length_map] at lo
 refine aa (ae (ae ?_))
 refine ab _ (lo) (ae (ab _ (bK _ _) (ae (ab _ (aR _ _) ?_))))
 refine aa (ae (ae ?_))
 refine ab _ (ItsR.len h.stack) (ae (ab _ (bK _ _) (ae (ab _ (aR _ _) ?_))))
 refine aa (ae (ae ?_))
 refine ab _ (ItsR.len h.queue) (ae (ab _ (bK _ _) (ae (ab _ (aR _ _) ?_))))
 refine ai (fun hb=>ah ⟨?_,rfl⟩) (fun hb=>?_)
 ·have kf:oW b=true:=hb
  simp only[an,k1,k2,k3,k4,kf,Bool.true_and,Bool.not_true,Bool.false_and]
 have kmid:oW b=false:=hb
 clear hb
 refine aa (af fun r1=>aa ?_)
 refine aa (aj (dp b.s0.life 0 9999 H5 O) rfl ⟨rfl,trivial⟩ fun H6 l6=>ab _ (aJ _) (ai (fun hb=>ah ⟨?_,rfl⟩) (fun hb=>?_)))
 ·have kf:au b.s0.life 0 9999=false:=u6 hb
  simp only[an,bb,k1,k2,k3,k4,kmid,kf,Bool.true_and,Bool.false_and,Bool.and_false,Bool.not_false]
 have k6:au b.s0.life 0 9999=true:=sR hb
 replace h:=h.le l6
 clear hb
 refine aa (aj (AC b.s0.p0 b.s0.p1 b.s0.p2 b.s0.p3 H6 O) rfl ⟨rfl,trivial⟩ fun H7 l7=>ab _ (aJ _) (ai (fun hb=>ah ⟨?_,rfl⟩) (fun hb=>?_)))
 ·have kf:([b.s0.p0,b.s0.p1,b.s0.p2,b.s0.p3].all fun n=>au n 0 99)=false:=u6 hb
  simp only[an,bb,k1,k2,k3,k4,kmid,k6,kf,Bool.true_and,Bool.false_and,Bool.and_false,Bool.not_false]
 have k7:([b.s0.p0,b.s0.p1,b.s0.p2,b.s0.p3].all fun n=>au n 0 99)=true:=sR hb
 replace h:=h.le l7
 clear hb
 refine aa (aj (dp b.s0.mull 0 7 H7 O) rfl ⟨rfl,trivial⟩ fun H8 l8=>ab _ (aJ _) (ai (fun hb=>ah ⟨?_,rfl⟩) (fun hb=>?_)))
 ·have kf:au b.s0.mull 0 7=false:=u6 hb
  simp only[an,bb,k1,k2,k3,k4,kmid,k6,k7,kf,Bool.true_and,Bool.false_and,Bool.and_false,Bool.not_false]
 have k8:au b.s0.mull 0 7=true:=sR hb
 replace h:=h.le l8
 clear hb
 refine aa (aj (dp b.s0.acts 0 255 H8 O) rfl ⟨rfl,trivial⟩ fun H9 l9=>ab _ (aJ _) (ai (fun hb=>ah ⟨?_,rfl⟩) (fun hb=>?_)))
 ·have kf:au b.s0.acts 0 255=false:=u6 hb
  simp only[an,bb,k1,k2,k3,k4,kmid,k6,k7,k8,kf,Bool.true_and,Bool.false_and,Bool.and_false,Bool.not_false]
 have k9:au b.s0.acts 0 255=true:=sR hb
 replace h:=h.le l9
 clear hb
 refine af fun r2=>aa ?_
 refine aa (aj (dp b.s1.life 0 9999 H9 O) rfl ⟨rfl,trivial⟩ fun H10 l10=>ab _ (aJ _) (ai (fun hb=>ah ⟨?_,rfl⟩) (fun hb=>?_)))
 ·have kf:au b.s1.life 0 9999=false:=u6 hb
  simp only[an,bb,k1,k2,k3,k4,kmid,k6,k7,k8,k9,kf,Bool.true_and,Bool.false_and,Bool.and_false,Bool.not_false]
 have k10:au b.s1.life 0 9999=true:=sR hb
 replace h:=h.le l10
 clear hb
 refine aa (aj (AC b.s1.p0 b.s1.p1 b.s1.p2 b.s1.p3 H10 O) rfl ⟨rfl,trivial⟩ fun H11 l11=>ab _ (aJ _) (ai (fun hb=>ah ⟨?_,rfl⟩) (fun hb=>?_)))
 ·have kf:([b.s1.p0,b.s1.p1,b.s1.p2,b.s1.p3].all fun n=>au n 0 99)=false:=u6 hb
  simp only[an,bb,k1,k2,k3,k4,kmid,k6,k7,k8,k9,k10,kf,Bool.true_and,Bool.false_and,Bool.and_false,Bool.not_false]
 have k11:([b.s1.p0,b.s1.p1,b.s1.p2,b.s1.p3].all fun n=>au n 0 99)=true:=sR hb
 replace h:=h.le l11
 clear hb
 refine aa (aj (dp b.s1.mull 0 7 H11 O) rfl ⟨rfl,trivial⟩ fun H12 l12=>ab _ (aJ _) (ai (fun hb=>ah ⟨?_,rfl⟩) (fun hb=>?_)))
 ·have kf:au b.s1.mull 0 7=false:=u6 hb
  simp only[an,bb,k1,k2,k3,k4,kmid,k6,k7,k8,k9,k10,k11,kf,Bool.true_and,Bool.false_and,Bool.and_false,Bool.not_false]
 have k12:au b.s1.mull 0 7=true:=sR hb
 replace h:=h.le l12
 clear hb
 refine aa (aj (dp b.s1.acts 0 255 H12 O) rfl ⟨rfl,trivial⟩ fun H13 l13=>ab _ (aJ _) (ai (fun hb=>ah ⟨?_,rfl⟩) (fun hb=>?_)))
 ·have kf:au b.s1.acts 0 255=false:=u6 hb
  simp only[an,bb,k1,k2,k3,k4,kmid,k6,k7,k8,k9,k10,k11,k12,kf,Bool.true_and,Bool.false_and,Bool.and_false,Bool.not_false]
 have k13:au b.s1.acts 0 255=true:=sR hb
 replace h:=h.le l13
 clear hb
 refine aa (aj (nY (p:=fun x=>!cQ x false) h.stack rfl (iW lT (by decide)) fun H' _ row x hx=>QH hx) rfl ⟨rfl,trivial⟩ fun H20 l20=>ai (fun hb=>ah ⟨?_,rfl⟩) (fun hb=>?_))
 ·simp only[an,bb,k1,k2,k3,k4,kmid,k6,k7,k8,k9,k10,k11,k12,k13,hb,Bool.true_and,Bool.not_true,Bool.not_false,Bool.false_and]
 replace h:=h.le l20
 refine aa (aj (nY (p:=fun x=>!cQ x true) h.queue rfl (iW lT (by decide)) fun H' _ row x hx=>QG hx) rfl ⟨rfl,trivial⟩ fun H21 l21=>ab _ (aJ _) (ai (fun hq=>?_) (fun hq=>ah ⟨?_,rfl⟩)))
 ·replace h:=h.le l21
  simp only[Bool.not_eq_true'] at hq
  have hfin:an b=(bD aW b && dm b):=by simp only[an,bb,k1,k2,k3,k4,kmid,k6,k7,k8,k9,k10,k11,k12,k13,hb,hq,Bool.true_and,Bool.not_false]
  refine aa (aj (SL h) rfl ⟨rfl,trivial⟩ fun H22 l22=>ai (fun hp=>?_) (fun hp=>ah ⟨?_,rfl⟩))
  ·replace h:=h.le l22
   have ha:b.active=0∨b.active=1:=by have:=k1;simp only[au,decide_eq_true_eq] at this;omega
   refine aa (aj (SQ h ha (MM hp)) rfl ⟨rfl,trivial⟩ fun H23 l23=>ah ⟨?_,rfl⟩)
   rw[hfin,hp,Bool.true_and];rfl
  ·rw[hfin,hp];rfl
 ·simp only[Bool.not_eq_false'] at hq
  simp only[an,bb,k1,k2,k3,k4,kmid,k6,k7,k8,k9,k10,k11,k12,k13,hb,hq,Bool.true_and,Bool.not_false,Bool.not_true,Bool.false_and]
theorem Jg {a b:Bool} (h:a=true ↔ b=true):(Value.bool a:Value)=.bool b:=by rw[Bool.eq_iff_iff.2 h]
theorem zm (n:Int) (H:Heap) (O:Own):RetO PP mN [iV n] H O (.bool (au n 0 99)):=by
 refine sG (vs:=[iV n]) (by kernel_rfl) ⟨rfl,trivial⟩ ?_
 simp only[mh]
 refine ab _ (eR _ _) (ae (ab _ (eR _ _) (ae (ab _ (aT _ _) ?_))))
 refine ah ⟨Jg ?_,rfl⟩
 simp[au]
theorem pY (o:Ob):aW o=true ↔ ((0≤o.power∧o.power≤99)∧(0≤o.tough∧o.tough≤99)∧(0≤o.dmg∧o.dmg≤99)∧(0≤o.cnt∧o.cnt≤99)∧(0≤o.pp∧o.pp≤99)∧(0≤o.pt∧o.pt≤99)) ∧
  (o.card=-1∨(o.power=0∧o.tough=0))∧1≤o.id∧o.id≤500∧-1≤o.card∧o.card < 400∧(o.owner=0∨o.owner=1):=by
 simp only[aW,au,List.all_cons,List.all_nil,Bool.and_true,Bool.and_eq_true,Bool.or_eq_true,decide_eq_true_eq,beq_iff_eq,ge_iff_le]
 omega
theorem EK (o:Ob) (H:Heap) (O:Own):RetO PP mM [.agg o.row.toArray] H O (.bool (aW o)):=by
 refine sF (vs:=o.row) (by kernel_rfl) (by simp[Ob.row,Ones,Value.oneCell']) ?_
 simp only[mg]
 repeat (first | refine aa ?_ | refine ae ?_ | refine af fun _=>?_ | refine ab _ (aB _ _) ?_ | refine ab _ (bK _ _) ?_ | refine ab _ (eR _ _) ?_ | refine ab _ (cI _ _) ?_ | refine ab _ (ay _ _) ?_ | refine ab _ (aY _ _) ?_ | refine ab _ (aT _ _) ?_ | refine ab _ (aR _ _) ?_ | refine ab _ (aJ _) ?_ | refine ab _ (wX _ _) ?_ | refine ab _ (rI _ _) ?_)
 refine ai (fun h1=>ah ⟨Jg ?_,rfl⟩) (fun h1=>?_)
 ·rw[pY];simp at h1 ⊢;omega
 refine aa (ab _ (eR _ _) (aa (ae (ae (ab _ (aY _ _) (ae (aa (ae (ae (ae (ae (ab _ (aY _ _) (ae (ae (ae (ab _ (aR _ _) (ae (ab _ (aT _ _) ?_))))))))))))))))))
 refine ai (fun h2=>ah ⟨Jg ?_,rfl⟩) (fun h2=>?_)
 ·rw[pY];simp at h1 h2 ⊢;omega
 have key:∀ (x:Bool),(x=true ↔ ((0≤o.power∧o.power≤99)∧(0≤o.tough∧o.tough≤99)∧(0≤o.dmg∧o.dmg≤99)∧(0≤o.cnt∧o.cnt≤99)∧(0≤o.pp∧o.pp≤99)∧(0≤o.pt∧o.pt≤99)))→(Value.bool x:Value)=.bool (aW o):=by
  intro x hx
  refine Jg ?_
  rw[hx,pY]
  simp at h1 h2 ⊢;omega
 refine aa (aj (zm o.power H O) rfl ⟨rfl,trivial⟩ fun H1 _=>ai (fun k1=>?_) (fun k1=>ah ⟨key _ ?_,rfl⟩))
 rotate_left
 ·simp[au] at k1 ⊢;omega
 refine aa (aj (zm o.tough H1 O) rfl ⟨rfl,trivial⟩ fun H2 _=>ai (fun k2=>?_) (fun k2=>ah ⟨key _ ?_,rfl⟩))
 rotate_left
 ·simp[au] at k2 ⊢;omega
 refine aa (aj (zm o.dmg H2 O) rfl ⟨rfl,trivial⟩ fun H3 _=>ai (fun k3=>?_) (fun k3=>ah ⟨key _ ?_,rfl⟩))
 rotate_left
 ·simp[au] at k3 ⊢;omega
 refine aa (aj (zm o.cnt H3 O) rfl ⟨rfl,trivial⟩ fun H4 _=>ai (fun k4=>?_) (fun k4=>ah ⟨key _ ?_,rfl⟩))
 rotate_left
 ·simp[au] at k4 ⊢;omega
 refine aa (aj (zm o.pp H4 O) rfl ⟨rfl,trivial⟩ fun H5 _=>ai (fun k5=>?_) (fun k5=>ah ⟨key _ ?_,rfl⟩))
 rotate_left
 ·simp[au] at k5 ⊢;omega
 refine aa (aj (zm o.pt H5 O) rfl ⟨rfl,trivial⟩ fun H6 _=>ah ⟨key _ ?_,rfl⟩)
 simp[au] at k1 k2 k3 k4 k5 ⊢;omega
theorem Ti {vl vh vf vg:Value} (s:St) (hl:vl.oneCell'=true) (hh:vh.oneCell'=true) (hf:vf.oneCell'=true) (hg:vg.oneCell'=true) (H:Heap) (O:Own) :
  RetO PP oz [.agg (Rq vl vh vf vg s).toArray] H O (.bool (bb s)):=by
 refine tp (vs:=Rq vl vh vf vg s) (by kernel_rfl) ⟨rfl,rfl,rfl,rfl,rfl,hl,hh,hf,hg,rfl,rfl,rfl,rfl,rfl,trivial⟩ ?_
 simp only[od]
 have key:∀ (x:Bool),(x=true ↔ ((0≤s.life∧s.life≤9999)∧(0≤s.p0∧s.p0≤99)∧(0≤s.p1∧s.p1≤99)∧(0≤s.p2∧s.p2≤99)∧(0≤s.p3∧s.p3≤99)∧(0≤s.mull∧s.mull≤7)∧(0≤s.acts∧s.acts≤255)))→(Value.bool x:Value)=.bool (bb s):=by
  intro x hx
  refine Jg ?_
  rw[hx]
  simp only[bb,au,List.all_cons,List.all_nil,Bool.and_true,Bool.and_eq_true,decide_eq_true_eq]
  omega
 refine af fun _=>aa (ab _ (aB _ _) (ae (ab _ (aB _ _) (ae (ab _ (aR _ _) ?_)))))
 refine ai (fun h1=>ah ⟨key _ ?_,rfl⟩) (fun h1=>?_)
 ·simp at h1 ⊢;omega
 refine ab _ (aB _ _) (ae (ab _ (aB _ _) (ae (ab _ (aR _ _) ?_))))
 refine ai (fun h2=>ah ⟨key _ ?_,rfl⟩) (fun h2=>?_)
 ·simp at h2 ⊢;omega
 refine ab _ (aB _ _) (ae (ab _ (aB _ _) (ae (ab _ (aR _ _) ?_))))
 refine ai (fun h3=>ah ⟨key _ ?_,rfl⟩) (fun h3=>?_)
 ·simp at h3 ⊢;omega
 refine ab _ (aB _ _) (ae (ab _ (aB _ _) (ae (ab _ (aR _ _) ?_))))
 refine ai (fun h4=>ah ⟨key _ ?_,rfl⟩) (fun h4=>?_)
 ·simp at h4 ⊢;omega
 repeat (first | refine aa ?_ | refine ae ?_ | refine af fun _=>?_ | refine ab _ (aB _ _) ?_ | refine ab _ (bK _ _) ?_ | refine ab _ (eR _ _) ?_ | refine ab _ (cI _ _) ?_ | refine ab _ (ay _ _) ?_ | refine ab _ (aY _ _) ?_ | refine ab _ (aT _ _) ?_ | refine ab _ (aR _ _) ?_ | refine ab _ (aJ _) ?_ | refine ab _ (wX _ _) ?_ | refine ab _ (rI _ _) ?_)
 refine ah ⟨key _ ?_,rfl⟩
 simp at h1 h2 h3 h4 ⊢;omega
abbrev IY (n:Nat) (R:Nat→Value→Heap→Own→Prop):List Value→Heap→Own→Prop:=fun vs H O=>∃ (i:Nat) (x:Value),vs=[x,iV i]∧i≤n∧R i x H O
abbrev MY (n:Nat):List Value→Heap→Own→Nat:=fun vs _ _=>match g vs 1 with | .int _ k=>n - k.toNat | _=>0
theorem de {P:Program} {lab key:Nat} {x0:Value} {body:(List Value→Heap→Own→Prop)→List Value→Tree} {H:Heap} {O:Own} {Q:Value→Heap→Own→Prop} (n:Nat) (R:Nat→Value→Heap→Own→Prop)
  (h0:R 0 x0 H O) (step:∀ i x H' O',i≤n→Heap.le H H'→R i x H' O'→(body (L8 (IY n R) (MY n) (n - i)) [x,iV i]).den P Q H' O') :
  (Tree.loop lab key [x0,.int .i64 0] body).den P Q H O:=by
 refine fG (IY n R) (MY n) ⟨0,x0,rfl,Nat.zero_le _,h0⟩ ?_
 rintro vs H' O' _ _ hle ⟨i,x,rfl,hi,hr⟩
 exact step i x H' O' hi hle hr
theorem aS {P:Program} {lab n i:Nat} {R:Nat→Value→Heap→Own→Prop} {x:Value} {eqs:List (List Value × List Value)} {H:Heap} {O:Own} {Q:Value→Heap→Own→Prop} (he:Eqs eqs) (hi:i < n) (hr:R (i + 1) x H O) :
  (Tree.cont lab (L8 (IY n R) (MY n) (n - i)) [x,iV ((i + 1:Nat):Int)] eqs).den P Q H O:=by
 refine bU he ⟨i + 1,x,rfl,hi,hr⟩ ?_
 show n - ((i + 1:Nat):Int).toNat < n - i
 simp;omega
theorem ES {α:Type} [BEq α] [LawfulBEq α] {l:List α} {i:Nat} (h:i < l.length) (n:α):(l.take (i + 1)).count n=(l.take i).count n + (if l[i] == n then 1 else 0):=by
 rw[List.take_add_one,List.getElem?_eq_getElem h,Option.toList_some,List.count_append,List.count_singleton]
theorem gk {H:Heap} {O:Own} {v:Value} {l:List Int} (h:RSl H O 1 v (aE l)) (n:Int):RetO PP mL [v,iV n] H O (iV ((l.count n:Nat):Int)):=by
 refine sE (vs:=[v,iV n]) (by kernel_rfl) ⟨h.one,rfl,trivial⟩ ?_
 simp only[mf]
 have hlen:=h.len
 rw[aE,List.length_map] at hlen
 have hB:=h.lenB
 simp only[aE,List.length_map] at hB
 refine de l.length (fun i x H' O'=>O'=O∧Heap.le H H'∧x=iV (((l.take i).count n:Nat):Int)) ⟨rfl,Heap.le_refl H,by simp⟩ ?_
 rintro i x H' O' hi - ⟨rfl,hle,rfl⟩
 have hci:(l.take i).count n≤i:=Nat.le_trans List.count_le_length (by simp;omega)
 refine ab _ hlen (ab _ (aB _ _) (ai (fun hb=>?_) (fun hb=>?_)))
 ·have hlt:i < l.length:=by simpa using hb
  obtain⟨a,h1,h2,_,h3,h4⟩:=(h.le hle).idx .i64 i [iV l[i]] (by simp[aE,hlt])
  refine ab _ h1 (ap h2 h3 h4 (ab _ (ay _ _) (ai (fun hb=>?_) (fun hb=>?_))))
  ·refine ab _ (az (by omega)) (ab _ (az (by omega)) (aS (by simp[Eqs]) hlt ⟨rfl,hle,?_⟩))
   rw[ES hlt,hb];rfl
  ·refine ab _ (az (by omega)) (aS (by simp[Eqs]) hlt ⟨rfl,hle,?_⟩)
   rw[ES hlt,hb];rfl
 ·have:l.length≤i:=by simpa using hb
  refine ah ⟨?_,rfl⟩
  rw[List.take_of_length_le this];rfl
def eY (b:Bd) (id:Int):Int:=gm (fun o=>o.id == id) b.objs 0
theorem wz {H:Heap} {O:Own} {v:cn} {b:Bd} (h:BdR H O v b) (id:Int):RetO PP mK [.agg (al v b).toArray,iV id] H O (iV (eY b id)):=by
 refine sD (vs:=al v b++[iV id]) (by kernel_rfl) (ax (am h) ⟨rfl,trivial⟩) ?_
 simp only[me]
 have lo:=h.objs.len
 have hB:=h.objs.lenB
 rw[List.length_map] at lo hB
 refine af fun r0=>aQ b.objs.length (fun i H' O'=>O'=O∧Heap.le H H'∧eY b id=gm (fun o=>o.id == id) (b.objs.drop i) i) ⟨rfl,Heap.le_refl H,by simp[eY]⟩ ?_
 rintro i H' O' hi - ⟨rfl,hle,hor⟩
 refine aa (ab _ lo (ab _ (aB _ _) (ai (fun hb=>?_) (fun hb=>?_))))
 ·have hlt:i < b.objs.length:=by simpa using hb
  obtain⟨a,h1,h2,h5,h3,h4⟩:=(h.objs.le hle).idx .i64 i (Ob.row b.objs[i]) (by simp[hlt])
  have hr:Reads H' O' (.pointer (some a)) 1 [iV b.objs[i].id]:=by
   have:=h5 0 1 (by omega)
   have e:aO (.pointer (some a)) 0=.pointer (some a):=by simp[aO,Addr.add]
   rwa [e] at this
  refine aa (ab _ h1 (aw rfl (ap hr rfl ⟨rfl,trivial⟩ (ab _ (ay _ _) (ai (fun hb=>?_) (fun hb=>?_))))))
  ·refine ah ⟨?_,rfl⟩
   rw[hor,List.drop_eq_getElem_cons hlt,gm,if_pos hb];rfl
  ·refine ab _ (az (by omega)) (aI (by simp[Eqs]) hlt ⟨rfl,hle,?_⟩)
   rw[hor,List.drop_eq_getElem_cons hlt,gm,if_neg (by rw[hb];simp)];rfl
 ·have hge:b.objs.length≤i:=by simpa using hb
  refine ah ⟨?_,rfl⟩
  rw[hor,List.drop_of_length_le hge];rfl
theorem Tj {H:Heap} {O:Own} {row:List Value} {x:It} (h:ItR H O row x) (q:Bool):RetO PP oD [.agg row.toArray,.bool q] H O (.bool (cQ x q)):=by
 obtain⟨s,rfl,hs⟩:=h
 refine tz (vs:=[iV x.player,iV x.id,iV x.card,iV x.trig,s,.bool q]) (by kernel_rfl) ⟨rfl,rfl,rfl,rfl,hs.one,rfl,trivial⟩ ?_
 simp only[oh]
 have lt:=hs.len
 have hB:=hs.lenB
 rw[List.length_map] at lt hB
 have e4:∀ {k:Value→Tree} {Q:Value→Heap→Own→Prop} {H':Heap} {O':Own},(k (iV x.tgs.length)).den PP Q H' O'→(Tree.pure [] .len [g [iV x.player,iV x.id,iV x.card,iV x.trig,s,Value.bool q] 4] k).den PP Q H' O':=fun hk=>ab _ lt hk
 repeat (first | refine aa ?_ | refine ae ?_ | refine af fun _=>?_ | refine ab _ (aB _ _) ?_ | refine ab _ (bK _ _) ?_ | refine ab _ (eR _ _) ?_ | refine ab _ (cI _ _) ?_ | refine ab _ (ay _ _) ?_ | refine ab _ (aY _ _) ?_ | refine ab _ (aT _ _) ?_ | refine ab _ (aR _ _) ?_ | refine ab _ (aJ _) ?_ | refine ab _ (wX _ _) ?_ | refine ab _ (rI _ _) ?_)
 refine e4 ?_
 refine ae (ab _ (aB _ _) (ae (ab _ (aR _ _) ?_)))
 have fiff:cQ x q=true ↔ (0≤x.player∧x.player≤1)∧(1≤x.id∧x.id≤500)∧(0≤x.card∧x.card≤399)∧(-1≤x.trig∧x.trig≤1)∧(x.tgs.length≤4∧¬ (0≤x.trig∧0 < x.tgs.length)∧¬ (q=true∧x.trig < 0))∧(x.tgs.any fun t=>!jM t)=false:=by
  simp only[cQ,au,Bool.and_eq_true,Bool.not_eq_true',Bool.or_eq_false_iff,Bool.and_eq_false_iff,decide_eq_true_eq,decide_eq_false_iff_not]
  generalize (x.tgs.any fun t=>!jM t)=c
  cases q <;> simp only[Bool.false_eq_true,false_and,true_and,not_false_eq_true,and_true,reduceCtorEq,or_false,false_or,true_or] <;> constructor <;> intro e <;> (try obtain⟨e1,e2,e3,e4,e5,e6⟩:=e) <;> (try refine⟨?_,?_,?_,?_,?_,?_⟩) <;> first | omega | assumption
 refine ai (fun h1=>ah ⟨Jg ?_,rfl⟩) (fun h1=>?_)
 ·rw[fiff]
  simp only[Bool.or_eq_true,decide_eq_true_eq] at h1
  refine⟨fun e=>(by cases e),fun ⟨e1,e2,e3,e4,e5,e6⟩=>?_⟩
  omega
 simp only[Bool.or_eq_false_iff,decide_eq_false_iff_not] at h1
 refine aa (ab _ (eR _ _) (aa (ae (ae ?_))))
 refine e4 ?_
 refine ae (ab _ (aB _ _) (ae (ab _ (aT _ _) (ae (aa (ae (ae (ae (ae (ab _ (aB _ _) (ae (ae (ae (ab _ (aT _ _) (ae (ab _ (aR _ _) ?_))))))))))))))))
 refine ai (fun h2=>ah ⟨Jg ?_,rfl⟩) (fun h2=>?_)
 ·rw[fiff]
  simp only[Bool.or_eq_true,Bool.and_eq_true,decide_eq_true_eq] at h2
  refine⟨fun e=>(by cases e),fun ⟨e1,e2,e3,e4,⟨e5,e6,e7⟩,e8⟩=>?_⟩
  rcases h2 with h2 | h2
  ·omega
  ·exact absurd h2 e7
 simp only[Bool.or_eq_false_iff,Bool.and_eq_false_iff,decide_eq_false_iff_not] at h2
 have hfin:(Value.bool (!(x.tgs.any fun t=>!jM t)):Value)=.bool (cQ x q):=by
  refine Jg ?_
  rw[fiff,Bool.not_eq_true']
  refine⟨fun e=>⟨by omega,by omega,by omega,by omega,⟨by omega,by omega,fun e'=>?_⟩,e⟩,fun e=>e.2.2.2.2.2⟩
  rcases h2.2 with h3 | h3
  ·rw[h3] at e';cases e'.1
  ·exact h3 e'.2
 refine aQ x.tgs.length (fun i H' O'=>O'=O∧Heap.le H H'∧(x.tgs.any fun t=>!jM t)=((x.tgs.drop i).any fun t=>!jM t)) ⟨rfl,Heap.le_refl H,rfl⟩ ?_
 rintro i H' O' hi - ⟨rfl,hle,hor⟩
 refine aa (e4 (ab _ (aB _ _) (ai (fun hb=>?_) (fun hb=>?_))))
 ·have hlt:i < x.tgs.length:=by simpa using hb
  obtain⟨a,k1,k2,_,k3,k4⟩:=(hs.le hle).idx .i64 i (Tg.row x.tgs[i]) (by simp[hlt])
  refine aa (ab _ k1 (ap k2 k3 k4 ?_))
  repeat (first | refine aa ?_ | refine ae ?_ | refine af fun _=>?_ | refine ab _ (aB _ _) ?_ | refine ab _ (bK _ _) ?_ | refine ab _ (eR _ _) ?_ | refine ab _ (cI _ _) ?_ | refine ab _ (ay _ _) ?_ | refine ab _ (aY _ _) ?_ | refine ab _ (aT _ _) ?_ | refine ab _ (aR _ _) ?_ | refine ab _ (aJ _) ?_ | refine ab _ (wX _ _) ?_ | refine ab _ (rI _ _) ?_)
  have hst:((x.tgs.drop i).any fun t=>!jM t)=(!jM x.tgs[i] || ((x.tgs.drop (i + 1)).any fun t=>!jM t)):=by rw[List.drop_eq_getElem_cons hlt,List.any_cons]
  refine ai (fun hb=>ah ⟨?_,rfl⟩) (fun hb=>?_)
  ·have:jM x.tgs[i]=false:=by simp[jM,au] at hb ⊢;omega
   rw[← hfin,hor,hst,this];rfl
  ·have:jM x.tgs[i]=true:=by simp[jM,au] at hb ⊢;omega
   refine ab _ (az (by omega)) (aI (by simp[Eqs]) hlt ⟨rfl,hle,?_⟩)
   rw[hor,hst,this];rfl
 ·have hge:x.tgs.length≤i:=by simpa using hb
  refine ah ⟨?_,rfl⟩
  rw[← hfin,hor,List.drop_of_length_le hge];rfl
def VF (s:St):Prop:=s.lib.length≤100000∧s.hand.length≤100000∧s.field.length≤100000∧s.grave.length≤100000
def Jh (b:Bd):Prop:=VF b.s0∧VF b.s1∧b.stack.length≤100000
def jy (p id:Int) (x:It):Bool:=(x.trig == -1 && x.id == id) && x.player == p
def sX (s:St) (id:Int):Nat:=((s.lib.count id + s.hand.count id) + s.field.count id) + s.grave.count id
def tW (b:Bd) (p id:Int):Nat:=(if p=0 then sX b.s0 id else sX b.s1 id) + b.stack.countP (jy p id)
theorem kM {α:Type} {l:List α} {i:Nat} (h:i < l.length) (p:α→Bool):(l.take (i + 1)).countP p=(l.take i).countP p + (if p l[i] then 1 else 0):=by
 rw[List.take_add_one,List.getElem?_eq_getElem h,Option.toList_some,List.countP_append,List.countP_singleton]
theorem Hk {n:Nat} (h:n < 2 ^ 63):ak (.bin .add .int) [iV 0,iV (n:Int)]=some (iV (n:Int)):=by
 have:=hY (i:=0) (n:=n) (by omega)
 simpa using this
theorem RA {H:Heap} {O:Own} {v:cn} {b:Bd} (h:BdR H O v b) (hfit:Jh b) {p:Int} (hp:p=0∨p=1) (id:Int) :
  RetO PP lH [.agg (al v b).toArray,iV p,iV id] H O (iV ((tW b p id:Nat):Int)):=by
 refine qX (vs:=al v b++[iV p,iV id]) (by kernel_rfl) (ax (am h) ⟨rfl,rfl,trivial⟩) ?_
 simp only[lr]
 obtain⟨⟨f1,f2,f3,f4⟩,⟨f5,f6,f7,f8⟩,f9⟩:=hfit
 refine af fun r0=>?_
 have e38:g (al v b++[iV p,iV id]) 38=iV p:=rfl
 rw[e38]
 rcases hp with rfl | rfl
 ·refine⟨.i64,0,rfl,fun _=>?_,fun e=>absurd rfl e⟩
  obtain⟨z1,z2,z3,z4⟩:=fq h.s0
  have c1:b.s0.lib.count id≤b.s0.lib.length:=List.count_le_length
  have c2:b.s0.hand.count id≤b.s0.hand.length:=List.count_le_length
  have c3:b.s0.field.count id≤b.s0.field.length:=List.count_le_length
  have c4:b.s0.grave.count id≤b.s0.grave.length:=List.count_le_length
  refine aa (aj (jt b.s0 z1 z2 z3 z4 H O) rfl ⟨z1,z2,z3,z4,trivial⟩ fun H1 l1=>?_)
  replace h:=h.le l1
  refine aj (gk h.s0.lib id) rfl ⟨rfl,trivial⟩ fun H2 l2=>ab _ (Hk (by omega)) ?_
  replace h:=h.le l2
  refine aj (gk h.s0.hand id) rfl ⟨rfl,trivial⟩ fun H3 l3=>ab _ (hY (by omega)) ?_
  replace h:=h.le l3
  refine aj (gk h.s0.field id) rfl ⟨rfl,trivial⟩ fun H4 l4=>ab _ (hY (by omega)) ?_
  replace h:=h.le l4
  refine aj (gk h.s0.grave id) rfl ⟨rfl,trivial⟩ fun H5 l5=>ab _ (hY (by omega)) ?_
  replace h:=h.le l5
  have hz:((b.s0.lib.count id + b.s0.hand.count id) + b.s0.field.count id) + b.s0.grave.count id=sX b.s0 id:=rfl
  have hzb:sX b.s0 id≤400000:=by unfold sX;omega
  rw[hz]
  obtain⟨rows,hrs,hrl,hit⟩:=h.stack
  have hsl:ak .len [v.s]=some (iV b.stack.length):=ItsR.len h.stack
  refine de b.stack.length (fun i x H' O'=>O'=O∧Heap.le H5 H'∧x=iV ((sX b.s0 id + (b.stack.take i).countP (jy 0 id):Nat):Int)) ⟨rfl,Heap.le_refl _,by simp⟩ ?_
  rintro i x H' O' hi - ⟨rfl,hle,rfl⟩
  have hci:(b.stack.take i).countP (jy 0 id)≤i:=Nat.le_trans List.countP_le_length (by simp;omega)
  refine aa (ab _ hsl (ab _ (aB _ _) (ai (fun hb=>?_) (fun hb=>?_))))
  ·have hlt:i < b.stack.length:=by simpa using hb
   obtain⟨a,h1,h2,_,h3,h4⟩:=(hrs.le hle).idx .i64 i rows[i] (by simp[hrl,hlt])
   obtain⟨s,hrow,_⟩:=hit i rows[i] b.stack[i] (by simp[hrl,hlt]) (by simp[hlt])
   rw[hrow] at h2 h3 h4
   refine aa (ab _ h1 (ap h2 h3 h4 ?_))
   refine af fun _=>aa (aa (ab _ (ay _ _) (aa (ae (ae (ae (ab _ (ay _ _) (ae (ab _ (aT _ _) (aa (ae (ae (ae (ab _ (ay _ _) (ae (ab _ (aT _ _) ?_))))))))))))))))
   refine ai (fun hb=>?_) (fun hb=>?_)
   ·refine ab _ (az (by omega)) (ab _ (az (by omega)) (aS (by simp[Eqs]) hlt ⟨rfl,hle,?_⟩))
    have:jy 0 id b.stack[i]=true:=hb
    rw[kM hlt,this];rfl
   ·refine ab _ (az (by omega)) (aS (by simp[Eqs]) hlt ⟨rfl,hle,?_⟩)
    have:jy 0 id b.stack[i]=false:=hb
    rw[kM hlt,this];rfl
  ·have:b.stack.length≤i:=by simpa using hb
   refine ah ⟨?_,rfl⟩
   rw[List.take_of_length_le this];rfl
 ·refine⟨.i64,1,rfl,fun e=>absurd e (by omega),fun _=>⟨.i64,1,rfl,fun _=>?_,fun e=>absurd rfl e⟩⟩
  obtain⟨z1,z2,z3,z4⟩:=fq h.s1
  have c1:b.s1.lib.count id≤b.s1.lib.length:=List.count_le_length
  have c2:b.s1.hand.count id≤b.s1.hand.length:=List.count_le_length
  have c3:b.s1.field.count id≤b.s1.field.length:=List.count_le_length
  have c4:b.s1.grave.count id≤b.s1.grave.length:=List.count_le_length
  refine aa (aj (jt b.s1 z1 z2 z3 z4 H O) rfl ⟨z1,z2,z3,z4,trivial⟩ fun H1 l1=>?_)
  replace h:=h.le l1
  refine aj (gk h.s1.lib id) rfl ⟨rfl,trivial⟩ fun H2 l2=>ab _ (Hk (by omega)) ?_
  replace h:=h.le l2
  refine aj (gk h.s1.hand id) rfl ⟨rfl,trivial⟩ fun H3 l3=>ab _ (hY (by omega)) ?_
  replace h:=h.le l3
  refine aj (gk h.s1.field id) rfl ⟨rfl,trivial⟩ fun H4 l4=>ab _ (hY (by omega)) ?_
  replace h:=h.le l4
  refine aj (gk h.s1.grave id) rfl ⟨rfl,trivial⟩ fun H5 l5=>ab _ (hY (by omega)) ?_
  replace h:=h.le l5
  have hz:((b.s1.lib.count id + b.s1.hand.count id) + b.s1.field.count id) + b.s1.grave.count id=sX b.s1 id:=rfl
  have hzb:sX b.s1 id≤400000:=by unfold sX;omega
  rw[hz]
  obtain⟨rows,hrs,hrl,hit⟩:=h.stack
  have hsl:ak .len [v.s]=some (iV b.stack.length):=ItsR.len h.stack
  refine de b.stack.length (fun i x H' O'=>O'=O∧Heap.le H5 H'∧x=iV ((sX b.s1 id + (b.stack.take i).countP (jy 1 id):Nat):Int)) ⟨rfl,Heap.le_refl _,by simp⟩ ?_
  rintro i x H' O' hi - ⟨rfl,hle,rfl⟩
  have hci:(b.stack.take i).countP (jy 1 id)≤i:=Nat.le_trans List.countP_le_length (by simp;omega)
  refine aa (ab _ hsl (ab _ (aB _ _) (ai (fun hb=>?_) (fun hb=>?_))))
  ·have hlt:i < b.stack.length:=by simpa using hb
   obtain⟨a,h1,h2,_,h3,h4⟩:=(hrs.le hle).idx .i64 i rows[i] (by simp[hrl,hlt])
   obtain⟨s,hrow,_⟩:=hit i rows[i] b.stack[i] (by simp[hrl,hlt]) (by simp[hlt])
   rw[hrow] at h2 h3 h4
   refine aa (ab _ h1 (ap h2 h3 h4 ?_))
   refine af fun _=>aa (aa (ab _ (ay _ _) (aa (ae (ae (ae (ab _ (ay _ _) (ae (ab _ (aT _ _) (aa (ae (ae (ae (ab _ (ay _ _) (ae (ab _ (aT _ _) ?_))))))))))))))))
   refine ai (fun hb=>?_) (fun hb=>?_)
   ·refine ab _ (az (by omega)) (ab _ (az (by omega)) (aS (by simp[Eqs]) hlt ⟨rfl,hle,?_⟩))
    have:jy 1 id b.stack[i]=true:=hb
    rw[kM hlt,this];rfl
   ·refine ab _ (az (by omega)) (aS (by simp[Eqs]) hlt ⟨rfl,hle,?_⟩)
    have:jy 1 id b.stack[i]=false:=hb
    rw[kM hlt,this];rfl
  ·have:b.stack.length≤i:=by simpa using hb
   refine ah ⟨?_,rfl⟩
   rw[List.take_of_length_le this];rfl
theorem lm {α:Type} (p:α→Bool):∀ (l:List α) (i:Int),0≤i→(gm p l i=-1∧∀ x ∈ l,p x=false)∨∃ (k:Nat) (x:α),l[k]?=some x∧p x=true∧gm p l i=i + k
 | [],i,_=>.inl ⟨rfl,by simp⟩
 | a::l,i,h=>by
  simp only[gm]
  by_cases hp:p a=true
  ·right;exact⟨0,a,rfl,hp,by rw[if_pos hp];simp⟩
  ·rw[if_neg hp]
   rcases lm p l (i + 1) (by omega) with ⟨h1,h2⟩ | ⟨k,x,h1,h2,h3⟩
   ·left
    refine⟨h1,fun x hx=>?_⟩
    rcases List.mem_cons.1 hx with rfl | hx
    ·simpa using hp
    ·exact h2 x hx
   ·right;exact⟨k + 1,x,by simpa using h1,h2,by rw[h3];omega⟩
def uq (b:Bd) (i:Int):Int:=(b.objs[i.toNat]?.map (·.card)).getD 0
def oR (b:Bd) (x:It):Bool:=decide (x.trig ≥ 0) || !(decide (eY b x.id < 0) || (uq b (eY b x.id) != x.card))
def rR (x:It):Bool:=!decide (x.trig ≥ 0)
def GE (b:Bd):Nat:=b.s0.lib.length + b.s0.hand.length + b.s0.field.length + b.s0.grave.length + b.s1.lib.length + b.s1.hand.length + b.s1.field.length + b.s1.grave.length
def pJ (b:Bd):Option Int→List Ob→Bool
 | _,[]=>true
 | prev,o::r=>(!(!aW o || jv prev o.id) && (((tW b o.owner o.id:Nat):Int) == 1)) && pJ b (some o.id) r
def vK (b:Bd):Bool:=b.stack.all (oR b) && (pJ b none b.objs && (((GE b + b.stack.countP rR:Nat):Int) == (b.objs.length:Int)))
theorem oP {o:Ob} (h:aW o=true):o.owner=0∨o.owner=1:=((pY o).1 h).2.2.2.2.2.2
theorem Uk {H:Heap} {O:Own} {v:cn} {b:Bd} (h:BdR H O v b) (hfit:Jh b):RetO PP mF [.agg (al v b).toArray] H O (.bool (vK b)):=by
 refine sq (vs:=al v b) (by kernel_rfl) (am h) ?_
 simp only[lY]
 have hfit':=hfit
 obtain⟨⟨f1,f2,f3,f4⟩,⟨f5,f6,f7,f8⟩,f9⟩:=hfit
 have len1:∀ {H':Heap} {O':Own} {w:Value} {l:List Int},RSl H' O' 1 w (aE l)→ak .len [w]=some (iV l.length):=fun h=>by have:=h.len;rwa [aE,List.length_map] at this
 obtain⟨z1,z2,z3,z4⟩:=fq h.s0
 obtain⟨z5,z6,z7,z8⟩:=fq h.s1
 refine af fun r0=>aa (aj (jt b.s0 z1 z2 z3 z4 H O) rfl ⟨z1,z2,z3,z4,trivial⟩ fun H1 l1=>?_)
 replace h:=h.le l1
 refine ab _ (len1 h.s0.lib) (ab _ (Hk (by omega)) (ab _ (len1 h.s0.hand) (ab _ (hY (by omega)) (ab _ (len1 h.s0.field) (ab _ (hY (by omega)) (ab _ (len1 h.s0.grave) (ab _ (hY (by omega)) ?_)))))))
 refine aa (aj (jt b.s1 z5 z6 z7 z8 H1 O) rfl ⟨z5,z6,z7,z8,trivial⟩ fun H2 l2=>?_)
 replace h:=h.le l2
 refine ab _ (len1 h.s1.lib) (ab _ (hY (by omega)) (ab _ (len1 h.s1.hand) (ab _ (hY (by omega)) (ab _ (len1 h.s1.field) (ab _ (hY (by omega)) (ab _ (len1 h.s1.grave) (ab _ (hY (by omega)) ?_)))))))
 have hz:b.s0.lib.length + b.s0.hand.length + b.s0.field.length + b.s0.grave.length + b.s1.lib.length + b.s1.hand.length + b.s1.field.length + b.s1.grave.length=GE b:=rfl
 have hzb:GE b≤800000:=by unfold GE;omega
 rw[hz]
 have hsl:ak .len [v.s]=some (iV b.stack.length):=ItsR.len h.stack
 have stk:=h.stack
 obtain⟨rows,hrs,hrl,hit⟩:=stk
 have lo:=h.objs.len
 have lob:=h.objs.lenB
 rw[List.length_map] at lo lob
 refine de b.stack.length (fun i x H' O'=>O'=O∧Heap.le H2 H'∧x=iV ((GE b + (b.stack.take i).countP rR:Nat):Int)∧b.stack.all (oR b)=(b.stack.drop i).all (oR b)) ⟨rfl,Heap.le_refl _,by simp,rfl⟩ ?_
 rintro i x H' O' hi - ⟨rfl,hle,rfl,hor⟩
 have hci:(b.stack.take i).countP rR≤i:=Nat.le_trans List.countP_le_length (by simp;omega)
 refine aa (ab _ hsl (ab _ (aB _ _) (ai (fun hb=>?_) (fun hb=>?_))))
 ·have hlt:i < b.stack.length:=by simpa using hb
  obtain⟨a,h1,h2,_,h3,h4⟩:=(hrs.le hle).idx .i64 i rows[i] (by simp[hrl,hlt])
  obtain⟨s,hrow,_⟩:=hit i rows[i] b.stack[i] (by simp[hrl,hlt]) (by simp[hlt])
  rw[hrow] at h2 h3 h4
  have hst:(b.stack.drop i).all (oR b)=(oR b b.stack[i] && (b.stack.drop (i + 1)).all (oR b)):=by rw[List.drop_eq_getElem_cons hlt,List.all_cons]
  refine aa (ab _ h1 (ap h2 h3 h4 ?_))
  refine af fun _=>aa (aa (ab _ (eR _ _) ?_))
  refine ai (fun hb=>?_) (fun hb=>?_)
  ·refine ab _ (az (by omega)) (aS (by simp[Eqs]) hlt ⟨rfl,hle,?_,?_⟩)
   ·have:rR b.stack[i]=false:=by simp only[rR,hb,Bool.not_true]
    rw[kM hlt,this];rfl
   ·rw[hor,hst]
    have:oR b b.stack[i]=true:=by simp only[oR,hb,Bool.true_or]
    rw[this,Bool.true_and]
  ·refine ab _ (az (by omega)) (aa (aa (aj (wz (h.le hle) b.stack[i].id) rfl ⟨rfl,trivial⟩ fun H3 l3=>ab _ (aB _ _) ?_)))
   refine aa (ae (ae (ae ?_)))
   have hpv:∃ pv:Value,pv.oneCell'=true∧(¬ (eY b b.stack[i].id < 0)→ak (.idx 12) [v.o,iV (eY b b.stack[i].id)]=some pv∧GI pv=true∧Reads H3 O' (aO pv 1) 1 [iV (uq b (eY b b.stack[i].id))]):=by
    rcases lm (fun o=>o.id == b.stack[i].id) b.objs 0 (by omega) with ⟨e,_⟩ | ⟨k,o,e1,_,e3⟩
    ·refine⟨iV 0,rfl,fun hn=>?_⟩
     exfalso;apply hn
     show eY b b.stack[i].id < 0
     unfold eY;omega
    ·have e3:eY b b.stack[i].id=(k:Int):=by unfold eY;omega
     obtain⟨a,k1,k2,k3,_⟩:=((h.objs.le (Heap.le_trans hle l3))).idx .i64 k (Ob.row o) (by rw[List.getElem?_map,e1];rfl)
     refine⟨.pointer (some a),rfl,fun _=>⟨by rw[e3];exact k1,rfl,?_⟩⟩
     have:=k3 1 1 (by omega)
     rw[e3]
     have ec:uq b (k:Int)=o.card:=by simp[uq,e1]
     rw[ec];exact this
   obtain⟨pv,hpone,hpv⟩:=hpv
   have hon:On [((.bool (decide (eY b b.stack[i].id < 0)):Value),false)]→¬ (eY b b.stack[i].id < 0):=fun h=>by
    have:=h.1
    simp at this
    omega
   refine⟨pv,fun ho=>(hpv (hon ho)).1,.inr hpone,?_⟩
   refine⟨fun ho=>(hpv (hon ho)).2.1,?_⟩
   refine ae (ae ?_)
   refine⟨[iV (uq b (eY b b.stack[i].id))],rfl,⟨rfl,trivial⟩,fun ho=>(hpv (hon ho)).2.2,?_⟩
   refine aa (ae (ae (ae (ab _ (aY _ _) (ae (ab _ (aR _ _) ?_))))))
   have hsi:oR b b.stack[i]=!(decide (eY b b.stack[i].id < 0) || (uq b (eY b b.stack[i].id) != b.stack[i].card)):=by simp only[oR,hb,Bool.false_or]
   refine ai (fun hc=>ah ⟨?_,rfl⟩) (fun hc=>?_)
   ·have:b.stack.all (oR b)=false:=by rw[hor,hst,hsi,show (decide (eY b b.stack[i].id < 0) || (uq b (eY b b.stack[i].id) != b.stack[i].card))=true from hc];rfl
    rw[vK,this];rfl
   ·refine ab _ (az (by omega)) (aS (by simp[Eqs]) hlt ⟨rfl,Heap.le_trans hle l3,?_,?_⟩)
    ·have:rR b.stack[i]=true:=by simp only[rR,hb,Bool.not_false]
     rw[kM hlt,this];rfl
    ·rw[hor,hst,hsi,show (decide (eY b b.stack[i].id < 0) || (uq b (eY b b.stack[i].id) != b.stack[i].card))=false from hc];rfl
 ·have hge:b.stack.length≤i:=by simpa using hb
  rw[List.take_of_length_le hge] at hci ⊢
  rw[List.drop_of_length_le hge] at hor
  have hfr:vK b=(pJ b none b.objs && (((GE b + b.stack.countP rR:Nat):Int) == (b.objs.length:Int))):=by rw[vK,hor];rfl
  replace h:=h.le hle
  refine aQ b.objs.length (fun i H'' O''=>O''=O'∧Heap.le H' H''∧pJ b none b.objs=pJ b (nL b.objs i) (b.objs.drop i)) ⟨rfl,Heap.le_refl _,by simp[nL]⟩ ?_
  rintro j H'' O'' hj - ⟨rfl,hle2,hor2⟩
  refine aa (ab _ lo (ab _ (aB _ _) (ai (fun hb=>?_) (fun hb=>?_))))
  ·have hlt:j < b.objs.length:=by simpa using hb
   obtain⟨a,h1,h2,_,h3,h4⟩:=(h.objs.le hle2).idx .i64 j (Ob.row b.objs[j]) (by simp[hlt])
   refine aa (ab _ h1 (ap h2 h3 h4 (af fun r2=>aa (aa (aj (EK b.objs[j] H'' O'') rfl ⟨rfl,trivial⟩ fun H4 l4=>?_)))))
   have l4':=Heap.le_trans hle2 l4
   have hp:∃ (pv:Value) (x:Int),pv.oneCell'=true∧(0 < j→ak (.idx 12) [v.o,iV ((j:Int) - 1)]=some pv∧GI pv=true∧Reads H4 O'' pv 1 [iV x])∧jv (nL b.objs j) b.objs[j].id=(decide ((j:Int) > 0) && decide (x ≥ b.objs[j].id)):=by
    rcases Nat.eq_zero_or_pos j with rfl | hpos
    ·exact⟨iV 0,0,rfl,fun h=>absurd h (Nat.lt_irrefl 0),by simp[nL,jv]⟩
    ·obtain⟨j',rfl⟩:∃ j',j=j' + 1:=⟨j - 1,by omega⟩
     have hj':j' < b.objs.length:=by omega
     obtain⟨a,k1,k2,k3,_⟩:=(h.objs.le l4').idx .i64 j' (Ob.row b.objs[j']) (by simp[hj'])
     refine⟨.pointer (some a),b.objs[j'].id,rfl,fun _=>⟨?_,rfl,?_⟩,?_⟩
     ·have e:((j' + 1:Nat):Int) - 1=(j':Int):=by omega
      rw[e];exact k1
     ·have:=k3 0 1 (by omega)
      have e:aO (.pointer (some a)) 0=.pointer (some a):=by simp[aO,Addr.add]
      rwa [e] at this
     ·rw[xO hj']
      have:((j' + 1:Nat):Int) > 0:=by omega
      simp only[jv,this,decide_true,Bool.true_and]
   obtain⟨pv,x,hpone,hpv,hprev⟩:=hp
   have hsub1:ak (.bin .sub .int) [iV j,iV 1]=some (iV ((j:Int) - 1)):=by
    simp only[ak,fL,fg,if_true]
    rw[gJ (by omega) (by omega)]
   have hon:∀ {u:Bool},On [((.bool (decide ((j:Int) > 0)):Value),true),(.bool u,false)]→0 < j:=fun h=>by
    have:=h.1
    simp at this
    omega
   refine ab _ (aJ _) (ae (ab _ (bK _ _) ?_))
   repeat (first | refine aa ?_ | refine ae ?_ | refine ab _ hsub1 ?_)
   refine⟨pv,fun ho=>(hpv (hon ho)).1,.inr hpone,?_⟩
   refine⟨fun ho=>(hpv (hon ho)).2.1,?_⟩
   refine ae (ae (ae (ae ?_)))
   refine⟨[iV x],rfl,⟨rfl,trivial⟩,fun ho=>(hpv (hon ho)).2.2,?_⟩
   refine aa (ae (ae (ae (ae (ae (ae (ab _ (eR _ _) (ae (ae (ae (ab _ (aT _ _) (ae (ab _ (aR _ _) ?_)))))))))))))
   have hstep:pJ b (nL b.objs j) (b.objs.drop j)=((!(!aW b.objs[j] || jv (nL b.objs j) b.objs[j].id) && (((tW b b.objs[j].owner b.objs[j].id:Nat):Int) == 1)) && pJ b (some b.objs[j].id) (b.objs.drop (j + 1))):=by
    rw[List.drop_eq_getElem_cons hlt,pJ]
   refine ai (fun hc=>ah ⟨?_,rfl⟩) (fun hc=>?_)
   ·rw[hfr,hor2,hstep,hprev,show (!aW b.objs[j] || (decide ((j:Int) > 0) && decide (x ≥ b.objs[j].id)))=true from hc];rfl
   have hc':(!aW b.objs[j] || (decide ((j:Int) > 0) && decide (x ≥ b.objs[j].id)))=false:=hc
   have hval:aW b.objs[j]=true:=by
    have:=(Bool.or_eq_false_iff.1 hc').1
    simpa using this
   refine aa (aa (aa (aj (RA (h.le l4') hfit' (oP hval) b.objs[j].id) rfl ⟨rfl,trivial⟩ fun H5 l5=>ab _ (aY _ _) (ai (fun hd=>ah ⟨?_,rfl⟩) (fun hd=>?_)))))
   ·have:(((tW b b.objs[j].owner b.objs[j].id:Nat):Int) == 1)=false:=by simpa using hd
    rw[hfr,hor2,hstep,this];simp
   ·have:(((tW b b.objs[j].owner b.objs[j].id:Nat):Int) == 1)=true:=by simpa using hd
    refine ab _ (az (by omega)) (aI (by simp[Eqs]) hlt ⟨rfl,Heap.le_trans l4' l5,?_⟩)
    rw[hor2,hstep,hprev,hc',this,xO hlt];rfl
  ·have hge:b.objs.length≤j:=by simpa using hb
   rw[List.drop_of_length_le hge] at hor2
   refine aa (ab _ lo (ab _ (ay _ _) (ah ⟨?_,rfl⟩)))
   rw[hfr,hor2];rfl
def EP (own att:List Int) (x:Int):Bool:=((((att.count x:Nat):Int) == 1) && (((own.count x:Nat):Int) == 1))
def kh (x y:Bl):Bool:=(y.attacker == x.attacker) || (y.blocker == x.blocker)
def rT (att other:List Int) (done:List Bl) (x:Bl):Bool:=(((att.count x.attacker:Nat):Int) == 1) && ((((other.count x.blocker:Nat):Int) == 1) && done.all fun y=>!kh x y)
def Hn (att other:List Int):List Bl→List Bl→Bool
 | _,[]=>true
 | done,x::r=>rT att other done x && Hn att other (done++[x]) r
def u9 (own other att:List Int) (bl:List Bl):Bool:=att.all (EP own att) && Hn att other [] bl
def ik (b:Bd):Bool:=if b.active=0 then u9 b.s0.field b.s1.field b.att b.blocks else u9 b.s1.field b.s0.field b.att b.blocks
theorem jm {l:List Int} {x:Int} {c:Bool} (h:(((l.count x:Nat):Int) != 1)=c):(((l.count x:Nat):Int) == 1)=!c:=by rw[← h,bne,Bool.not_not]
theorem RB {H:Heap} {O:Own} {v:cn} {b:Bd} (h:BdR H O v b) (ha:b.active=0∨b.active=1):RetO PP lI [.agg (al v b).toArray] H O (.bool (ik b)):=by
 refine qY (vs:=al v b) (by kernel_rfl) (am h) ?_
 simp only[lu]
 have e34:g (al v b) 34=iV b.active:=rfl
 rw[e34]
 have hs:∀ n:Int,n=0∨n=1→ak (.bin .sub .int) [iV 1,iV n]=some (iV (1 - n)):=by
  rintro n (rfl | rfl) <;> rfl
 have la:=h.att.len
 have laB:=h.att.lenB
 have lb:=h.blocks.len
 have lbB:=h.blocks.lenB
 simp only[aE,List.length_map] at la laB lb lbB
 rcases ha with ha | ha
 ·rw[ha]
  have hF:ik b=(b.att.all (EP b.s0.field b.att) && Hn b.att b.s1.field [] b.blocks):=by simp[ik,u9,ha]
  refine af fun r0=>aQ b.att.length (fun i H' O'=>O'=O∧Heap.le H H'∧b.att.all (EP b.s0.field b.att)=(b.att.drop i).all (EP b.s0.field b.att)) ⟨rfl,Heap.le_refl H,rfl⟩ ?_
  rintro i H' O' hi - ⟨rfl,hle,hor⟩
  refine aa (ab _ la (ab _ (aB _ _) (ai (fun hb=>?_) (fun hb=>?_))))
  ·have hlt:i < b.att.length:=by simpa using hb
   have hst:(b.att.drop i).all (EP b.s0.field b.att)=(EP b.s0.field b.att b.att[i] && (b.att.drop (i + 1)).all (EP b.s0.field b.att)):=by rw[List.drop_eq_getElem_cons hlt,List.all_cons]
   obtain⟨a,h1,h2,_,h3,h4⟩:=(h.att.le hle).idx .i64 i [iV b.att[i]] (by simp[aE,hlt])
   refine aa (aa (ab _ h1 (ap h2 h3 h4 (aj (gk (h.att.le hle) b.att[i]) rfl ⟨rfl,trivial⟩ fun H1 l1=>ab _ (aY _ _) (ai (fun hc=>ah ⟨?_,rfl⟩) (fun hc=>aa ?_))))))
   ·rw[hF,hor,hst,EP,jm hc];rfl
   refine⟨.i64,0,rfl,fun _=>?_,fun e=>absurd rfl e⟩
   have l1':=Heap.le_trans hle l1
   obtain⟨a,h1,h2,_,h3,h4⟩:=(h.att.le l1').idx .i64 i [iV b.att[i]] (by simp[aE,hlt])
   refine aa (aa (ab _ h1 (ap h2 h3 h4 (aj (gk (h.s0.field.le l1') b.att[i]) rfl ⟨rfl,trivial⟩ fun H2 l2=>ab _ (aY _ _) (ai (fun hd=>ah ⟨?_,rfl⟩) (fun hd=>?_))))))
   ·rw[hF,hor,hst,EP,jm hc,jm hd];rfl
   ·refine ab _ (az (by omega)) (aI (by simp[Eqs]) hlt ⟨rfl,Heap.le_trans l1' l2,?_⟩)
    rw[hor,hst,EP,jm hc,jm hd];rfl
  ·have hge:b.att.length≤i:=by simpa using hb
   rw[List.drop_of_length_le hge] at hor
   have hF2:ik b=Hn b.att b.s1.field [] b.blocks:=by rw[hF,hor];rfl
   refine aQ b.blocks.length (fun j H'' O''=>O''=O'∧Heap.le H' H''∧Hn b.att b.s1.field [] b.blocks=Hn b.att b.s1.field (b.blocks.take j) (b.blocks.drop j)) ⟨rfl,Heap.le_refl _,rfl⟩ ?_
   rintro j H'' O'' hj - ⟨rfl,hle2,hor2⟩
   have hle2:=Heap.le_trans hle hle2
   refine aa (ab _ lb (ab _ (aB _ _) (ai (fun hb=>?_) (fun hb=>?_))))
   ·have hlt:j < b.blocks.length:=by simpa using hb
    obtain⟨a,h1,h2,_,h3,h4⟩:=(h.blocks.le hle2).idx .i64 j (Bl.row b.blocks[j]) (by simp[hlt])
    have hst:Hn b.att b.s1.field (b.blocks.take j) (b.blocks.drop j)=(rT b.att b.s1.field (b.blocks.take j) b.blocks[j] && Hn b.att b.s1.field (b.blocks.take (j + 1)) (b.blocks.drop (j + 1))):=by
     rw[List.drop_eq_getElem_cons hlt,Hn,List.take_add_one,List.getElem?_eq_getElem hlt];rfl
    refine aa (ab _ h1 (ap h2 h3 h4 (af fun r1=>aa (aa (aa (aj (gk (h.att.le hle2) b.blocks[j].attacker) rfl ⟨rfl,trivial⟩ fun H1 l1=>ab _ (aY _ _) (ai (fun hc=>ah ⟨?_,rfl⟩) (fun hc=>aa (ab _ (hs _ (.inl rfl)) ?_)))))))))
    ·rw[hF2,hor2,hst,rT,jm hc];rfl
    refine⟨.i64,1,rfl,fun e=>absurd e (by omega),fun _=>⟨.i64,1,rfl,fun _=>?_,fun e=>absurd rfl e⟩⟩
    have l1':=Heap.le_trans hle2 l1
    refine aa (aa (aj (gk (h.s1.field.le l1') b.blocks[j].blocker) rfl ⟨rfl,trivial⟩ fun H2 l2=>ab _ (aY _ _) (ai (fun hd=>ah ⟨?_,rfl⟩) (fun hd=>?_))))
    ·rw[hF2,hor2,hst,rT,jm hc,jm hd];rfl
    have l2':=Heap.le_trans l1' l2
    have hone:rT b.att b.s1.field (b.blocks.take j) b.blocks[j]=(b.blocks.take j).all fun y=>!kh b.blocks[j] y:=by rw[rT,jm hc,jm hd];rfl
    refine aQ j (fun k H3 O3=>O3=O''∧Heap.le H2 H3∧((b.blocks.take j).all fun y=>!kh b.blocks[j] y)=(((b.blocks.take j).drop k).all fun y=>!kh b.blocks[j] y)) ⟨rfl,Heap.le_refl _,rfl⟩ ?_
    rintro k H3 O3 hk - ⟨rfl,hle3,hor3⟩
    have hle3:=Heap.le_trans l2' hle3
    refine ab _ (aB _ _) (ai (fun hb=>?_) (fun hb=>?_))
    ·have hltk:k < j:=by simpa using hb
     have hltb:k < b.blocks.length:=by omega
     have hst3:(((b.blocks.take j).drop k).all fun y=>!kh b.blocks[j] y)=(!kh b.blocks[j] b.blocks[k] && (((b.blocks.take j).drop (k + 1)).all fun y=>!kh b.blocks[j] y)):=by
      rw[List.drop_eq_getElem_cons (by simp;omega),List.all_cons,List.getElem_take]
     obtain⟨a,k1,_,k3,_⟩:=(h.blocks.le hle3).idx .i64 k (Bl.row b.blocks[k]) (by simp[hltb])
     have hr1:Reads H3 O3 (aO (.pointer (some a)) 1) 1 [iV b.blocks[k].attacker]:=k3 1 1 (by omega)
     have hr0:Reads H3 O3 (.pointer (some a)) 1 [iV b.blocks[k].blocker]:=by
      have:=k3 0 1 (by omega)
      have e:aO (.pointer (some a)) 0=.pointer (some a):=by simp[aO,Addr.add]
      rwa [e] at this
     refine aa (ab _ k1 (aw rfl (ap hr1 rfl ⟨rfl,trivial⟩ (aa (ab _ (ay _ _) ?_)))))
     refine aa (ae (ae (ae ?_)))
     refine xN k1 rfl (aw rfl ?_)
     refine ae (ae ?_)
     refine⟨[iV b.blocks[k].blocker],rfl,⟨rfl,trivial⟩,fun _=>hr0,?_⟩
     refine aa (ae (ae (ae (ab _ (ay _ _) (ae (ab _ (aR _ _) ?_))))))
     refine ai (fun hx=>ah ⟨?_,rfl⟩) (fun hx=>?_)
     ·rw[hF2,hor2,hst,hone,hor3,hst3,show kh b.blocks[j] b.blocks[k]=true from hx];rfl
     ·refine ab _ (az (by omega)) (aI (by simp[Eqs]) hltk ⟨rfl,Heap.le_trans (Heap.le_refl _) ?_,?_⟩)
      ·assumption
      ·rw[hor3,hst3,show kh b.blocks[j] b.blocks[k]=false from hx];rfl
    ·have hke:(b.blocks.take j).length≤k:=by
      have:j≤k:=by simpa using hb
      simp;omega
     rw[List.drop_of_length_le hke] at hor3
     refine ab _ (az (by omega)) (aI (by simp[Eqs]) hlt ⟨rfl,?_,?_⟩)
     ·exact Heap.le_trans (by assumption) (Heap.le_trans l1 (Heap.le_trans l2 (by assumption)))
     ·rw[hor2,hst,hone,hor3];rfl
   ·have hge2:b.blocks.length≤j:=by simpa using hb
    refine ah ⟨?_,rfl⟩
    rw[hF2,hor2,List.drop_of_length_le hge2];rfl
 ·rw[ha]
  have hF:ik b=(b.att.all (EP b.s1.field b.att) && Hn b.att b.s0.field [] b.blocks):=by simp[ik,u9,ha]
  refine af fun r0=>aQ b.att.length (fun i H' O'=>O'=O∧Heap.le H H'∧b.att.all (EP b.s1.field b.att)=(b.att.drop i).all (EP b.s1.field b.att)) ⟨rfl,Heap.le_refl H,rfl⟩ ?_
  rintro i H' O' hi - ⟨rfl,hle,hor⟩
  refine aa (ab _ la (ab _ (aB _ _) (ai (fun hb=>?_) (fun hb=>?_))))
  ·have hlt:i < b.att.length:=by simpa using hb
   have hst:(b.att.drop i).all (EP b.s1.field b.att)=(EP b.s1.field b.att b.att[i] && (b.att.drop (i + 1)).all (EP b.s1.field b.att)):=by rw[List.drop_eq_getElem_cons hlt,List.all_cons]
   obtain⟨a,h1,h2,_,h3,h4⟩:=(h.att.le hle).idx .i64 i [iV b.att[i]] (by simp[aE,hlt])
   refine aa (aa (ab _ h1 (ap h2 h3 h4 (aj (gk (h.att.le hle) b.att[i]) rfl ⟨rfl,trivial⟩ fun H1 l1=>ab _ (aY _ _) (ai (fun hc=>ah ⟨?_,rfl⟩) (fun hc=>aa ?_))))))
   ·rw[hF,hor,hst,EP,jm hc];rfl
   refine⟨.i64,1,rfl,fun e=>absurd e (by omega),fun _=>⟨.i64,1,rfl,fun _=>?_,fun e=>absurd rfl e⟩⟩
   have l1':=Heap.le_trans hle l1
   obtain⟨a,h1,h2,_,h3,h4⟩:=(h.att.le l1').idx .i64 i [iV b.att[i]] (by simp[aE,hlt])
   refine aa (aa (ab _ h1 (ap h2 h3 h4 (aj (gk (h.s1.field.le l1') b.att[i]) rfl ⟨rfl,trivial⟩ fun H2 l2=>ab _ (aY _ _) (ai (fun hd=>ah ⟨?_,rfl⟩) (fun hd=>?_))))))
   ·rw[hF,hor,hst,EP,jm hc,jm hd];rfl
   ·refine ab _ (az (by omega)) (aI (by simp[Eqs]) hlt ⟨rfl,Heap.le_trans l1' l2,?_⟩)
    rw[hor,hst,EP,jm hc,jm hd];rfl
  ·have hge:b.att.length≤i:=by simpa using hb
   rw[List.drop_of_length_le hge] at hor
   have hF2:ik b=Hn b.att b.s0.field [] b.blocks:=by rw[hF,hor];rfl
   refine aQ b.blocks.length (fun j H'' O''=>O''=O'∧Heap.le H' H''∧Hn b.att b.s0.field [] b.blocks=Hn b.att b.s0.field (b.blocks.take j) (b.blocks.drop j)) ⟨rfl,Heap.le_refl _,rfl⟩ ?_
   rintro j H'' O'' hj - ⟨rfl,hle2,hor2⟩
   have hle2:=Heap.le_trans hle hle2
   refine aa (ab _ lb (ab _ (aB _ _) (ai (fun hb=>?_) (fun hb=>?_))))
   ·have hlt:j < b.blocks.length:=by simpa using hb
    obtain⟨a,h1,h2,_,h3,h4⟩:=(h.blocks.le hle2).idx .i64 j (Bl.row b.blocks[j]) (by simp[hlt])
    have hst:Hn b.att b.s0.field (b.blocks.take j) (b.blocks.drop j)=(rT b.att b.s0.field (b.blocks.take j) b.blocks[j] && Hn b.att b.s0.field (b.blocks.take (j + 1)) (b.blocks.drop (j + 1))):=by
     rw[List.drop_eq_getElem_cons hlt,Hn,List.take_add_one,List.getElem?_eq_getElem hlt];rfl
    refine aa (ab _ h1 (ap h2 h3 h4 (af fun r1=>aa (aa (aa (aj (gk (h.att.le hle2) b.blocks[j].attacker) rfl ⟨rfl,trivial⟩ fun H1 l1=>ab _ (aY _ _) (ai (fun hc=>ah ⟨?_,rfl⟩) (fun hc=>aa (ab _ (hs _ (.inr rfl)) ?_)))))))))
    ·rw[hF2,hor2,hst,rT,jm hc];rfl
    refine⟨.i64,0,rfl,fun _=>?_,fun e=>absurd rfl e⟩
    have l1':=Heap.le_trans hle2 l1
    refine aa (aa (aj (gk (h.s0.field.le l1') b.blocks[j].blocker) rfl ⟨rfl,trivial⟩ fun H2 l2=>ab _ (aY _ _) (ai (fun hd=>ah ⟨?_,rfl⟩) (fun hd=>?_))))
    ·rw[hF2,hor2,hst,rT,jm hc,jm hd];rfl
    have l2':=Heap.le_trans l1' l2
    have hone:rT b.att b.s0.field (b.blocks.take j) b.blocks[j]=(b.blocks.take j).all fun y=>!kh b.blocks[j] y:=by rw[rT,jm hc,jm hd];rfl
    refine aQ j (fun k H3 O3=>O3=O''∧Heap.le H2 H3∧((b.blocks.take j).all fun y=>!kh b.blocks[j] y)=(((b.blocks.take j).drop k).all fun y=>!kh b.blocks[j] y)) ⟨rfl,Heap.le_refl _,rfl⟩ ?_
    rintro k H3 O3 hk - ⟨rfl,hle3,hor3⟩
    have hle3:=Heap.le_trans l2' hle3
    refine ab _ (aB _ _) (ai (fun hb=>?_) (fun hb=>?_))
    ·have hltk:k < j:=by simpa using hb
     have hltb:k < b.blocks.length:=by omega
     have hst3:(((b.blocks.take j).drop k).all fun y=>!kh b.blocks[j] y)=(!kh b.blocks[j] b.blocks[k] && (((b.blocks.take j).drop (k + 1)).all fun y=>!kh b.blocks[j] y)):=by
      rw[List.drop_eq_getElem_cons (by simp;omega),List.all_cons,List.getElem_take]
     obtain⟨a,k1,_,k3,_⟩:=(h.blocks.le hle3).idx .i64 k (Bl.row b.blocks[k]) (by simp[hltb])
     have hr1:Reads H3 O3 (aO (.pointer (some a)) 1) 1 [iV b.blocks[k].attacker]:=k3 1 1 (by omega)
     have hr0:Reads H3 O3 (.pointer (some a)) 1 [iV b.blocks[k].blocker]:=by
      have:=k3 0 1 (by omega)
      have e:aO (.pointer (some a)) 0=.pointer (some a):=by simp[aO,Addr.add]
      rwa [e] at this
     refine aa (ab _ k1 (aw rfl (ap hr1 rfl ⟨rfl,trivial⟩ (aa (ab _ (ay _ _) ?_)))))
     refine aa (ae (ae (ae ?_)))
     refine xN k1 rfl (aw rfl ?_)
     refine ae (ae ?_)
     refine⟨[iV b.blocks[k].blocker],rfl,⟨rfl,trivial⟩,fun _=>hr0,?_⟩
     refine aa (ae (ae (ae (ab _ (ay _ _) (ae (ab _ (aR _ _) ?_))))))
     refine ai (fun hx=>ah ⟨?_,rfl⟩) (fun hx=>?_)
     ·rw[hF2,hor2,hst,hone,hor3,hst3,show kh b.blocks[j] b.blocks[k]=true from hx];rfl
     ·refine ab _ (az (by omega)) (aI (by simp[Eqs]) hltk ⟨rfl,Heap.le_trans (Heap.le_refl _) ?_,?_⟩)
      ·assumption
      ·rw[hor3,hst3,show kh b.blocks[j] b.blocks[k]=false from hx];rfl
    ·have hke:(b.blocks.take j).length≤k:=by
      have:j≤k:=by simpa using hb
      simp;omega
     rw[List.drop_of_length_le hke] at hor3
     refine ab _ (az (by omega)) (aI (by simp[Eqs]) hlt ⟨rfl,?_,?_⟩)
     ·exact Heap.le_trans (by assumption) (Heap.le_trans l1 (Heap.le_trans l2 (by assumption)))
     ·rw[hor2,hst,hone,hor3];rfl
   ·have hge2:b.blocks.length≤j:=by simpa using hb
    refine ah ⟨?_,rfl⟩
    rw[hF2,hor2,List.drop_of_length_le hge2];rfl
def EL (b:Bd):Bool:=decide ((0≤b.active∧b.active≤1)∧(0≤b.turn∧b.turn≤1000)∧(0≤b.phase∧b.phase≤10)∧(-1≤b.holder∧b.holder≤1)∧(0≤b.passes∧b.passes≤2)∧b.objs.length≤500∧b.stack.length≤200∧b.queue.length≤200)
def qR (b:Bd):Bool:=EL b && (b.stack.all (fun x=>cQ x false) && (b.queue.all (fun x=>cQ x true) && (bb b.s0 && (bb b.s1 && (vK b && ik b)))))
theorem OL {H:Heap} {O:Own} {v:cn} {b:Bd} (h:BdR H O v b) (hfit:Jh b):RetO PP mI [.agg (al v b).toArray] H O (.bool (qR b)):=by
 refine sA (vs:=al v b) (by kernel_rfl) (am h) ?_
 simp only[mc]
 have lo:=h.objs.len
 rw[List.length_map] at lo
 have ls:=ItsR.len h.stack
 have lq:=ItsR.len h.queue
 refine af fun r0=>?_
 repeat (first | refine aa ?_ | refine ae ?_ | refine af fun _=>?_ | refine ab _ (aB _ _) ?_ | refine ab _ (bK _ _) ?_ | refine ab _ (eR _ _) ?_ | refine ab _ (cI _ _) ?_ | refine ab _ (ay _ _) ?_ | refine ab _ (aY _ _) ?_ | refine ab _ (aT _ _) ?_ | refine ab _ (aR _ _) ?_ | refine ab _ (aJ _) ?_ | refine ab _ (wX _ _) ?_ | refine ab _ (rI _ _) ?_)
 refine ab _ lo ?_
 refine ae (ab _ (aB _ _) (ae (ab _ (aR _ _) (aa (ae (ae ?_))))))
 refine ab _ ls ?_
 refine ae (ab _ (aB _ _) (ae (ab _ (aR _ _) (aa (ae (ae ?_))))))
 refine ab _ lq ?_
 refine ae (ab _ (aB _ _) (ae (ab _ (aR _ _) ?_)))
 refine ai (fun hn=>ah ⟨?_,rfl⟩) (fun hn=>?_)
 ·have:EL b=false:=by
   simp only[Bool.or_eq_true,decide_eq_true_eq] at hn
   simp only[EL,decide_eq_false_iff_not]
   omega
  rw[qR,this];rfl
 have hnum:EL b=true:=by
  simp only[Bool.or_eq_false_iff,decide_eq_false_iff_not] at hn
  simp only[EL,decide_eq_true_eq]
  omega
 have stk:=h.stack
 obtain⟨rows,hrs,hrl,hit⟩:=stk
 have hsB:=hrs.lenB
 refine aQ b.stack.length (fun i H' O'=>O'=O∧Heap.le H H'∧b.stack.all (fun x=>cQ x false)=(b.stack.drop i).all (fun x=>cQ x false)) ⟨rfl,Heap.le_refl H,rfl⟩ ?_
 rintro i H' O' hi - ⟨rfl,hle,hor⟩
 refine aa (ab _ ls (ab _ (aB _ _) (ai (fun hb=>?_) (fun hb=>?_))))
 ·have hlt:i < b.stack.length:=by simpa using hb
  obtain⟨a,h1,h2,_,h3,h4⟩:=(hrs.le hle).idx .i64 i rows[i] (by simp[hrl,hlt])
  have hI:=(hit i rows[i] b.stack[i] (by simp[hrl,hlt]) (by simp[hlt])).le hle
  obtain⟨s,hrow,hs⟩:=hI
  rw[hrow] at h2 h3 h4
  have hst:(b.stack.drop i).all (fun x=>cQ x false)=(cQ b.stack[i] false && (b.stack.drop (i + 1)).all (fun x=>cQ x false)):=by rw[List.drop_eq_getElem_cons hlt,List.all_cons]
  refine aa (ab _ h1 (ap h2 h3 h4 (aj (Tj ⟨s,rfl,hs⟩ false) rfl ⟨rfl,trivial⟩ fun H1 l1=>ab _ (aJ _) (ai (fun hc=>ah ⟨?_,rfl⟩) (fun hc=>?_)))))
  ·rw[qR,hor,hst,u6 hc];simp
  ·refine ab _ (az (by omega)) (aI (by simp[Eqs]) hlt ⟨rfl,Heap.le_trans hle l1,?_⟩)
   rw[hor,hst,sR hc];rfl
 ·have hge:b.stack.length≤i:=by simpa using hb
  rw[List.drop_of_length_le hge] at hor
  have hall:b.stack.all (fun x=>cQ x false)=true:=by rw[hor];rfl
  have que:=h.queue
  obtain⟨rows2,hrs2,hrl2,hit2⟩:=que
  have hqB:=hrs2.lenB
  refine aQ b.queue.length (fun j H'' O''=>O''=O'∧Heap.le H' H''∧b.queue.all (fun x=>cQ x true)=(b.queue.drop j).all (fun x=>cQ x true)) ⟨rfl,Heap.le_refl _,rfl⟩ ?_
  rintro j H'' O'' hj - ⟨rfl,hle2,hor2⟩
  have hle2:=Heap.le_trans hle hle2
  refine aa (ab _ lq (ab _ (aB _ _) (ai (fun hb=>?_) (fun hb=>?_))))
  ·have hlt:j < b.queue.length:=by simpa using hb
   obtain⟨a,h1,h2,_,h3,h4⟩:=(hrs2.le hle2).idx .i64 j rows2[j] (by simp[hrl2,hlt])
   have hI:=(hit2 j rows2[j] b.queue[j] (by simp[hrl2,hlt]) (by simp[hlt])).le hle2
   obtain⟨s,hrow,hs⟩:=hI
   rw[hrow] at h2 h3 h4
   have hst:(b.queue.drop j).all (fun x=>cQ x true)=(cQ b.queue[j] true && (b.queue.drop (j + 1)).all (fun x=>cQ x true)):=by rw[List.drop_eq_getElem_cons hlt,List.all_cons]
   refine aa (ab _ h1 (ap h2 h3 h4 (aj (Tj ⟨s,rfl,hs⟩ true) rfl ⟨rfl,trivial⟩ fun H1 l1=>ab _ (aJ _) (ai (fun hc=>ah ⟨?_,rfl⟩) (fun hc=>?_)))))
   ·rw[qR,hor2,hst,u6 hc];simp
   ·refine ab _ (az (by omega)) (aI (by simp[Eqs]) hlt ⟨rfl,?_,?_⟩)
    ·exact Heap.le_trans (by assumption) l1
    ·rw[hor2,hst,sR hc];rfl
  ·have hge2:b.queue.length≤j:=by simpa using hb
   rw[List.drop_of_length_le hge2] at hor2
   have hall2:b.queue.all (fun x=>cQ x true)=true:=by rw[hor2];rfl
   have hF:qR b=(bb b.s0 && (bb b.s1 && (vK b && ik b))):=by rw[qR,hnum,hall,hall2];rfl
   replace h:=h.le hle2
   obtain⟨z1,z2,z3,z4⟩:=fq h.s0
   obtain⟨z5,z6,z7,z8⟩:=fq h.s1
   refine aa (aj (Ti b.s0 z1 z2 z3 z4 H'' O'') rfl ⟨rfl,trivial⟩ fun H1 l1=>ai (fun k1=>?_) (fun k1=>ah ⟨?_,rfl⟩))
   rotate_left
   ·rw[hF,k1];rfl
   replace h:=h.le l1
   refine aa (aj (Ti b.s1 z5 z6 z7 z8 H1 O'') rfl ⟨rfl,trivial⟩ fun H2 l2=>ai (fun k2=>?_) (fun k2=>ah ⟨?_,rfl⟩))
   rotate_left
   ·rw[hF,k1,k2];rfl
   replace h:=h.le l2
   refine aa (aj (Uk h hfit) rfl ⟨rfl,trivial⟩ fun H3 l3=>ai (fun k3=>?_) (fun k3=>ah ⟨?_,rfl⟩))
   rotate_left
   ·rw[hF,k1,k2,k3];rfl
   replace h:=h.le l3
   have ha:b.active=0∨b.active=1:=by
    simp only[EL,decide_eq_true_eq] at hnum
    omega
   refine aa (aj (RB h ha) rfl ⟨rfl,trivial⟩ fun H4 l4=>ah ⟨?_,rfl⟩)
   rw[hF,k1,k2,k3];rfl
theorem E7 {α:Type} [DecidableEq α]:∀ {l r:List α},l.Nodup→(∀ x ∈ l,x ∈ r)→r.length≤l.length→r.Perm l
 | [],r,_,_,h=>by
  have:r=[]:=List.eq_nil_of_length_eq_zero (by simpa using h)
  subst this;exact List.Perm.refl _
 | a::l,r,hn,hs,h=>by
  rw[List.nodup_cons] at hn
  have har:a ∈ r:=hs a (by simp)
  have h1:=E7 (l:=l) (r:=r.erase a) hn.2 (fun x hx=>(List.mem_erase_of_ne (fun e=>hn.1 (by subst e;exact hx))).2 (hs x (by simp[hx]))) (by
   rw[List.length_erase_of_mem har];simp only[List.length_cons] at h;omega)
  exact (List.perm_cons_erase har).trans (h1.cons a)
theorem tY {α β:Type} (f:α→β):∀ {l:List α},(l.map f).Nodup→l.Nodup
 | [],_=>List.nodup_nil
 | a::l,h=>by
  rw[List.map_cons,List.nodup_cons] at h
  exact List.nodup_cons.2 ⟨fun hm=>h.1 (List.mem_map.2 ⟨a,hm,rfl⟩),tY f h.2⟩
def E2:Option Int→List Ob→Bool
 | _,[]=>true
 | prev,o::r=>!jv prev o.id && E2 (some o.id) r
def ok1 (ps cs:List (Int × Int)) (o:Ob):Bool:=aW o && ((cz ps o.id).isSome && (((cz ps o.id).getD 0 == o.owner) && !((cz cs o.id).isSome && ((cz cs o.id).getD 0 != o.card))))
def ok2 (b:Bd) (o:Ob):Bool:=aW o && (((tW b o.owner o.id:Nat):Int) == 1)
theorem nQ {ps cs:List (Int × Int)}:∀ (l:List Ob) (prev:Option Int),qx aW ps cs prev l=(E2 prev l && l.all (ok1 ps cs))
 | [],_=>rfl
 | o::r,prev=>by
  simp only[qx,E5,E2,List.all_cons,ok1,nQ r (some o.id),bne]
  cases aW o <;> cases jv prev o.id <;> cases cz ps o.id <;> cases cz cs o.id <;> simp[Bool.and_assoc,Bool.and_comm,Bool.and_left_comm]
theorem E4 {b:Bd}:∀ (l:List Ob) (prev:Option Int),pJ b prev l=(E2 prev l && l.all (ok2 b))
 | [],_=>rfl
 | o::r,prev=>by
  simp only[pJ,E2,List.all_cons,ok2,E4 r (some o.id)]
  cases aW o <;> cases jv prev o.id <;> simp[Bool.and_assoc,Bool.and_comm,Bool.and_left_comm]
theorem nM:∀ {l:List Ob} {prev:Option Int},E2 prev l=true→(∀ o ∈ l,∀ p,prev=some p→p < o.id)∧(l.map (·.id)).Nodup
 | [],_,_=>⟨by simp,by simp⟩
 | o::r,prev,h=>by
  simp only[E2,Bool.and_eq_true,Bool.not_eq_true'] at h
  obtain⟨k1,k2⟩:=nM h.2
  have hp:∀ p,prev=some p→p < o.id:=by
   rintro p rfl
   have:=h.1
   simp only[jv,decide_eq_false_iff_not] at this
   omega
  refine⟨fun x hx p e=>?_,?_⟩
  ·rcases List.mem_cons.1 hx with rfl | hx
   ·exact hp p e
   ·have:=k1 x hx _ rfl;have:=hp p e;omega
  ·rw[List.map_cons,List.nodup_cons]
   refine⟨fun hm=>?_,k2⟩
   obtain⟨x,hx,e⟩:=List.mem_map.1 hm
   have:=k1 x hx _ rfl
   omega
theorem UU {l:List Ob} (h:(l.map (·.id)).Nodup):∀ {x y:Ob},x ∈ l→y ∈ l→x.id=y.id→x=y:=by
 induction l with
 | nil=>intro x y hx;cases hx
 | cons a l ih =>
  intro x y hx hy e
  rw[List.map_cons,List.nodup_cons] at h
  rcases List.mem_cons.1 hx with k1 | k1 <;> rcases List.mem_cons.1 hy with k2 | k2
  ·rw[k1,k2]
  ·exact absurd (List.mem_map.2 ⟨y,k2,by rw[← e,k1]⟩) h.1
  ·exact absurd (List.mem_map.2 ⟨x,k1,by rw[e,k2]⟩) h.1
  ·exact ih h.2 k1 k2 e
theorem Nw (l:List Int) (p q id:Int):(l.map fun i=>(i,p)).count (id,q)=if p=q then l.count id else 0:=by
 induction l with
 | nil=>simp
 | cons a l ih =>
  simp only[List.map_cons,List.count_cons,ih,beq_iff_eq,Prod.mk.injEq]
  by_cases hp:p=q
  ·simp[hp]
  ·simp[hp]
theorem J3 {l:List It} (ht:∀ x ∈ l,x.trig < 0→x.trig=-1) (p id:Int):(eK l).count (id,p)=l.countP (jy p id):=by
 induction l with
 | nil=>rfl
 | cons x l ih =>
  have ih:=ih fun y hy=>ht y (by simp[hy])
  have hx:=ht x (by simp)
  rw[show x::l=[x]++l from rfl,oV,List.count_append,List.countP_append,ih]
  congr 1
  by_cases h:x.trig < 0
  ·rw[Ik h,List.count_singleton,List.countP_singleton]
   have h1:=hx h
   have e:((x.id,x.player) == (id,p))=jy p id x:=by
    simp only[jy,h1,beq_self_eq_true,Bool.true_and]
    rw[Bool.eq_iff_iff]
    simp[Prod.ext_iff]
   rw[e]
  ·rw[E1 h,List.countP_singleton]
   have:jy p id x=false:=by
    have:x.trig ≠ -1:=by omega
    simp[jy,this]
   rw[this];rfl
theorem PE (l:List It):(eK l).length=l.countP rR:=by
 rw[eK,List.length_map,bH,List.countP_eq_length_filter]
 congr 2
 funext x
 simp only[rR]
 by_cases h:x.trig < 0
 ·have:¬ x.trig ≥ 0:=by omega
  simp[h,this]
 ·have:x.trig ≥ 0:=by omega
  simp[h,this]
theorem PD (b:Bd):(aL b).length=GE b + b.stack.countP rR:=by
 simp only[aL,cB,List.length_append,List.length_map,PE,GE]
 omega
theorem DU {b:Bd} (ht:∀ x ∈ b.stack,x.trig < 0→x.trig=-1) {p:Int} (hp:p=0∨p=1) (id:Int):(aL b).count (id,p)=tW b p id:=by
 simp only[aL,cB,List.count_append,Nw,J3 ht,tW,sX]
 rcases hp with rfl | rfl
 ·simp;omega
 ·simp;omega
theorem IU {b:Bd} (ht:∀ x ∈ b.stack,x.trig < 0→x.trig=-1):vK b=bD aW b:=by
 simp only[vK,bD,nQ,E4]
 have hl:((((GE b + b.stack.countP rR:Nat):Int) == (b.objs.length:Int))=decide ((aL b).length=b.objs.length)):=by
  rw[PD,Bool.eq_iff_iff]
  simp only[beq_iff_eq,decide_eq_true_eq]
  omega
 rw[hl,Bool.eq_iff_iff]
 simp only[Bool.and_eq_true,List.all_eq_true,decide_eq_true_eq]
 constructor
 ·rintro ⟨hst,⟨hord,hok⟩,hlen⟩
  obtain⟨_,hnd⟩:=nM hord
  have hL:(b.objs.map fun o=>(o.id,o.owner)).Nodup:=by
   have e:(b.objs.map fun o=>(o.id,o.owner)).map (·.1)=b.objs.map (·.id):=by rw[List.map_map];rfl
   exact tY (·.1) (by rw[e];exact hnd)
  have hsub:∀ x ∈ (b.objs.map fun o=>(o.id,o.owner)),x ∈ aL b:=by
   intro x hx
   obtain⟨o,ho,rfl⟩:=List.mem_map.1 hx
   have h2:=hok o ho
   simp only[ok2,Bool.and_eq_true,beq_iff_eq] at h2
   have hc:=DU ht (oP h2.1) o.id
   refine List.count_pos_iff.1 ?_
   rw[hc];omega
  have hperm:=E7 hL hsub (by simp[hlen])
  have hfst:((aL b).map (·.1)).Perm (b.objs.map (·.id)):=by
   have:=hperm.map (·.1)
   rwa [List.map_map] at this
  have hnp:((aL b).map (·.1)).Nodup:=hfst.nodup_iff.2 hnd
  refine⟨hnp,⟨hord,fun o ho=>?_⟩,hlen⟩
  have h2:=hok o ho
  simp only[ok2,Bool.and_eq_true,beq_iff_eq] at h2
  have hlk:cz (aL b) o.id=some o.owner:=(jj hnp).2 (hsub _ (List.mem_map.2 ⟨o,ho,rfl⟩))
  simp only[ok1,h2.1,hlk,Option.isSome_some,Option.getD_some,beq_self_eq_true,Bool.true_and,Bool.not_eq_true']
  cases hc:cz (bg b.stack) o.id with
  | none=>rfl
  | some c =>
   simp only[Option.isSome_some,Option.getD_some,Bool.true_and,bne_eq_false_iff_eq]
   have hmem:(o.id,c) ∈ bg b.stack:=by
    simp only[cz,Option.map_eq_some_iff] at hc
    obtain⟨⟨k,c'⟩,hf,rfl⟩:=hc
    have h3:=List.find?_some hf
    have h4:=List.mem_of_find?_eq_some hf
    simp only[beq_iff_eq] at h3
    rw[h3];exact h4
   simp only[bg,bH,List.mem_map,List.mem_filter,decide_eq_true_eq,Prod.mk.injEq] at hmem
   obtain⟨x,⟨hx,hxt⟩,e1,e2⟩:=hmem
   have hsx:=hst x hx
   have hn:decide (x.trig ≥ 0)=false:=by simp;omega
   simp only[oR,hn,Bool.false_or,Bool.not_eq_true',Bool.or_eq_false_iff,decide_eq_false_iff_not,bne_eq_false_iff_eq] at hsx
   rcases lm (fun o=>o.id == x.id) b.objs 0 (by omega) with ⟨e,_⟩ | ⟨k,o',k1,k2,k3⟩
   ·exfalso;apply hsx.1;show eY b x.id < 0;unfold eY;omega
   ·have k3:eY b x.id=(k:Int):=by unfold eY;omega
    have hca:uq b (eY b x.id)=o'.card:=by rw[k3];simp[uq,k1]
    simp only[beq_iff_eq] at k2
    have:o'=o:=UU hnd (List.mem_of_getElem? k1) ho (by rw[k2,e1])
    rw[← e2,← hsx.2,hca,this]
 ·rintro ⟨hnp,⟨hord,hok⟩,hlen⟩
  obtain⟨_,hnd⟩:=nM hord
  have hids:=E8 (l:=b.objs.map (·.id)) (r:=(aL b).map (·.1)) hnd (fun y hy=>by
   obtain⟨o,ho,rfl⟩:=List.mem_map.1 hy
   have h2:=hok o ho
   simp only[ok1,Bool.and_eq_true] at h2
   rcases Classical.em (o.id ∈ (aL b).map (·.1)) with h | h
   ·exact h
   ·have h3:=h2.2.1;rw[fB.2 h] at h3;cases h3) (by simp[hlen])
  refine⟨fun x hx=>?_,⟨hord,fun o ho=>?_⟩,hlen⟩
  ·by_cases hxt:x.trig < 0
   ·have hn:decide (x.trig ≥ 0)=false:=by simp;omega
    have hxp:x.id ∈ (aL b).map (·.1):=by
     simp only[aL,List.map_append,List.mem_append]
     right;right
     simp only[eK,bH,List.mem_map,List.mem_filter,decide_eq_true_eq]
     exact⟨_,⟨x,⟨hx,hxt⟩,rfl⟩,rfl⟩
    obtain⟨o,ho,hoid⟩:=List.mem_map.1 (hids _ hxp)
    simp only[oR,hn,Bool.false_or,Bool.not_eq_true',Bool.or_eq_false_iff,decide_eq_false_iff_not,bne_eq_false_iff_eq]
    rcases lm (fun o=>o.id == x.id) b.objs 0 (by omega) with ⟨_,e⟩ | ⟨k,o',k1,k2,k3⟩
    ·have:=e o ho;simp[hoid] at this
    ·have k3:eY b x.id=(k:Int):=by unfold eY;omega
     refine⟨by omega,?_⟩
     rw[k3]
     simp only[beq_iff_eq] at k2
     have h2:=hok o' (List.mem_of_getElem? k1)
     simp only[ok1,Bool.and_eq_true,Bool.not_eq_true'] at h2
     have hcn:((bg b.stack).map (·.1)).Nodup:=by
      have e:(bg b.stack).map (·.1)=(eK b.stack).map (·.1):=by simp only[bg,eK,List.map_map];rfl
      rw[e]
      simp only[aL,List.map_append] at hnp
      exact (List.nodup_append.1 (List.nodup_append.1 hnp).2.1).2.1
     have hlk:cz (bg b.stack) x.id=some x.card:=(jj hcn).2 (by
      simp only[bg,bH,List.mem_map,List.mem_filter,decide_eq_true_eq]
      exact⟨x,⟨hx,hxt⟩,rfl⟩)
     have h3:=h2.2.2.2
     rw[k2,hlk] at h3
     simp only[Option.isSome_some,Option.getD_some,Bool.true_and,bne_eq_false_iff_eq] at h3
     simp only[uq,Int.toNat_natCast,k1,Option.map_some,Option.getD_some]
     exact h3.symm
   ·have hn:decide (x.trig ≥ 0)=true:=by simp;omega
    simp only[oR,hn,Bool.true_or]
  ·have h2:=hok o ho
   simp only[ok1,Bool.and_eq_true,beq_iff_eq] at h2
   obtain⟨v1,v2,v3,_⟩:=h2
   have hlk:cz (aL b) o.id=some o.owner:=by
    cases e:cz (aL b) o.id with
    | none=>rw[e] at v2;cases v2
    | some c=>rw[e] at v3;rw[← v3];rfl
   have hmem:=(jj hnp).1 hlk
   have hnp':(aL b).Nodup:=tY (·.1) hnp
   have hc:=DU ht (oP v1) o.id
   have h1:(aL b).count (o.id,o.owner)=1:=by
    have a1:=List.count_pos_iff.2 hmem
    have a2:=List.nodup_iff_count.1 hnp' (o.id,o.owner)
    omega
   simp only[ok2,v1,Bool.true_and,beq_iff_eq]
   rw[hc] at h1;omega
theorem DV {l:List Int} (h:l.Nodup) (x:Int):(((l.count x:Nat):Int) == 1)=l.contains x:=by
 have h1:=List.nodup_iff_count.1 h x
 by_cases hm:x ∈ l
 ·have h2:=List.count_pos_iff.2 hm
  have:l.count x=1:=by omega
  simp[this,hm]
 ·have:l.count x=0:=List.count_eq_zero.2 hm
  simp[this,hm]
theorem We {own att:List Int} (ho:own.Nodup):att.all (EP own att)=(decide att.Nodup && att.all fun x=>own.contains x):=by
 rw[Bool.eq_iff_iff]
 simp only[Bool.and_eq_true,List.all_eq_true,decide_eq_true_eq,EP,DV ho,beq_iff_eq]
 constructor
 ·intro h
  refine⟨List.nodup_iff_count.2 fun x=>?_,fun x hx=>(h x hx).2⟩
  by_cases hm:x ∈ att
  ·have:=(h x hm).1;omega
  ·have:=List.count_eq_zero.2 hm;omega
 ·rintro ⟨h1,h2⟩ x hx
  refine⟨?_,h2 x hx⟩
  have:=List.nodup_iff_count.1 h1 x
  have:=List.count_pos_iff.2 hx
  omega
theorem TQ {att other:List Int} (ha:att.Nodup) (ho:other.Nodup):∀ (l done:List Bl) (ua ub:List Int),(∀ a,a ∈ ua ↔ ∃ y ∈ done,y.attacker=a)→(∀ a,a ∈ ub ↔ ∃ y ∈ done,y.blocker=a)→wW att other ua ub l=Hn att other done l
 | [],_,_,_,_,_=>rfl
 | x::r,done,ua,ub,h1,h2=>by
  rw[wW,Hn,TQ ha ho r (done++[x]) (x.attacker::ua) (x.blocker::ub)]
  ·congr 1
   rw[rT,DV ha,DV ho,Bool.eq_iff_iff]
   simp only[Bool.and_eq_true,Bool.not_eq_true',List.all_eq_true,kh,Bool.or_eq_false_iff,beq_eq_false_iff_ne,List.contains_iff_mem]
   have e1:ua.contains x.attacker=false ↔ ∀ y ∈ done,y.attacker ≠ x.attacker:=by
    rw[← Bool.not_eq_true,List.contains_iff_mem,h1]
    exact⟨fun h y hy e=>h ⟨y,hy,e⟩,fun h ⟨y,hy,e⟩=>h y hy e⟩
   have e2:ub.contains x.blocker=false ↔ ∀ y ∈ done,y.blocker ≠ x.blocker:=by
    rw[← Bool.not_eq_true,List.contains_iff_mem,h2]
    exact⟨fun h y hy e=>h ⟨y,hy,e⟩,fun h ⟨y,hy,e⟩=>h y hy e⟩
   rw[e1,e2]
   exact⟨fun ⟨⟨a,b⟩,c,d⟩=>⟨b,d,fun y hy=>⟨a y hy,c y hy⟩⟩,fun ⟨b,d,e⟩=>⟨⟨fun y hy=>(e y hy).1,b⟩,fun y hy=>(e y hy).2,d⟩⟩
  ·intro a
   simp only[List.mem_cons,h1,List.mem_append,List.mem_singleton]
   constructor
   ·rintro (rfl | ⟨y,hy,e⟩)
    ·exact⟨x,.inr (.inl rfl),rfl⟩
    ·exact⟨y,.inl hy,e⟩
   ·rintro ⟨y,hy | hy,e⟩
    ·exact .inr ⟨y,hy,e⟩
    ·rcases hy with rfl | hy
     ·exact .inl e.symm
     ·cases hy
  ·intro a
   simp only[List.mem_cons,h2,List.mem_append,List.mem_singleton]
   constructor
   ·rintro (rfl | ⟨y,hy,e⟩)
    ·exact⟨x,.inr (.inl rfl),rfl⟩
    ·exact⟨y,.inl hy,e⟩
   ·rintro ⟨y,hy | hy,e⟩
    ·exact .inr ⟨y,hy,e⟩
    ·rcases hy with rfl | hy
     ·exact .inl e.symm
     ·cases hy
theorem I0 {own other att:List Int} {bl:List Bl} (ho:own.Nodup) (ht:other.Nodup):u9 own other att bl=jD own other att bl:=by
 rw[u9,jD,We ho]
 by_cases ha:att.Nodup
 ·rw[TQ ha ht bl [] [] [] (by simp) (by simp),Bool.and_assoc]
 ·simp[ha]
theorem tX {b:Bd} (h:bD aW b=true):b.s0.field.Nodup∧b.s1.field.Nodup:=by
 simp only[bD,Bool.and_eq_true,decide_eq_true_eq] at h
 have h1:=h.1
 have e:∀ (l:List Int) (p:Int),(l.map fun i=>(i,p)).map (·.1)=l:=fun l p=>by rw[List.map_map];simp[Function.comp_def]
 simp only[aL,cB,List.map_append,e] at h1
 have h2:=List.nodup_append.1 h1
 have h3:=List.nodup_append.1 h2.2.1
 have f:∀ {a b c d:List Int},(a++(b++(c++d))).Nodup→c.Nodup:=fun h=>(List.nodup_append.1 (List.nodup_append.1 (List.nodup_append.1 h).2.1).2.1).1
 exact⟨f h2.1,f h3.1⟩
theorem Ns {b:Bd} (h:bD aW b=true):ik b=dm b:=by
 obtain⟨h0,h1⟩:=tX h
 rw[ik,dm,I0 h0 h1,I0 h1 h0]
theorem IW {x:It} {q:Bool} (h:cQ x q=true):x.trig < 0→x.trig=-1:=by
 simp only[cQ,au,Bool.and_eq_true,decide_eq_true_eq] at h
 omega
theorem KA (b:Bd):qR b=an b:=by
 rw[Bool.eq_iff_iff]
 have hall:∀ (l:List It) (q:Bool),l.all (fun x=>cQ x q)=!(l.any fun x=>!cQ x q):=fun l q=>by
  induction l with
  | nil=>rfl
  | cons a l ih=>simp[ih]
 have hnum:EL b=(au b.active 0 1 && (au b.turn 0 1000 && (au b.phase 0 10 && (au b.holder (-1) 1 && !oW b)))):=by
  rw[Bool.eq_iff_iff]
  simp only[EL,au,oW,Bool.and_eq_true,Bool.not_eq_true',Bool.or_eq_false_iff,decide_eq_true_eq,decide_eq_false_iff_not,Bool.not_eq_false']
  omega
 have key:∀ (x y:Bool),(b.stack.all (fun x=>cQ x false)=true→x=y)→((b.stack.all (fun x=>cQ x false) && x)=true ↔ (b.stack.all (fun x=>cQ x false) && y)=true):=by
  intro x y h
  cases hs:b.stack.all (fun x=>cQ x false) with
  | false=>simp
  | true=>rw[h hs]
 have hf:b.stack.all (fun x=>cQ x false)=true→(vK b && ik b)=(bD aW b && dm b):=by
  intro hs
  rw[List.all_eq_true] at hs
  rw[IU fun x hx=>IW (hs x hx)]
  cases hp:bD aW b with
  | false=>rfl
  | true=>rw[Ns hp]
 have e1:qR b=(EL b && (b.queue.all (fun x=>cQ x true) && (bb b.s0 && (bb b.s1 && (b.stack.all (fun x=>cQ x false) && (vK b && ik b)))))):=by
  rw[qR]
  cases b.stack.all (fun x=>cQ x false) <;> simp
 have e2:an b=(EL b && (b.queue.all (fun x=>cQ x true) && (bb b.s0 && (bb b.s1 && (b.stack.all (fun x=>cQ x false) && (bD aW b && dm b)))))):=by
  rw[an,hnum,hall,hall]
  cases au b.active 0 1 <;> cases au b.turn 0 1000 <;> cases au b.phase 0 10 <;> cases au b.holder (-1) 1 <;> cases oW b <;> cases bb b.s0 <;> cases bb b.s1 <;> cases (b.stack.any fun x=>!cQ x false) <;> cases (b.queue.any fun x=>!cQ x true) <;> rfl
 rw[e1,e2]
 simp only[Bool.and_eq_true]
 have:=key _ _ hf
 simp only[Bool.and_eq_true] at this
 rw[this]
def gQ (s:St):Bool:=!decide ((s.lib.length:Int) > 40) && (!decide ((s.hand.length:Int) > 40) && (!decide ((s.field.length:Int) > 40) && !decide ((s.grave.length:Int) > 40)))
def nh (l:List It):Bool:=!decide ((l.length:Int) > 20) && l.all fun x=>!decide ((x.tgs.length:Int) > 6)
def ge (b:Bd):Bool:=gQ b.s0 && (gQ b.s1 && (nh b.stack && (nh b.queue && ((decide ((b.objs.length:Int)≤30) && decide ((b.att.length:Int)≤30)) && decide ((b.blocks.length:Int)≤30)))))
theorem U4 {H:Heap} {O:Own} {v:cn} {b:Bd} (h:BdR H O v b):RetO PP mQ [.agg (al v b).toArray] H O (.bool (ge b)):=by
 refine sK (vs:=al v b) (by kernel_rfl) (am h) ?_
 simp only[ml]
 have len1:∀ {H':Heap} {O':Own} {w:Value} {l:List Int},RSl H' O' 1 w (aE l)→ak .len [w]=some (iV l.length):=fun h=>by have:=h.len;rwa [aE,List.length_map] at this
 have lo:=h.objs.len
 have lb:=h.blocks.len
 rw[List.length_map] at lo lb
 have la:=len1 h.att
 refine af fun r0=>?_
 obtain⟨s01,s02,s03,s04⟩:=fq h.s0
 refine aa (aj (jt b.s0 s01 s02 s03 s04 _ _) rfl ⟨s01,s02,s03,s04,trivial⟩ fun Hs0 ls0=>?_)
 replace h:=h.le ls0
 refine ab _ (len1 h.s0.lib) (ab _ (bK _ _) (ai (fun ks0lib=>ah ⟨?_,rfl⟩) (fun ks0lib=>?_)))
 ·simp only[ge,gQ,ks0lib,Bool.not_true,Bool.not_false,Bool.true_and,Bool.false_and,Bool.and_false]
 refine ab _ (len1 h.s0.hand) (ab _ (bK _ _) (ai (fun ks0hand=>ah ⟨?_,rfl⟩) (fun ks0hand=>?_)))
 ·simp only[ge,gQ,ks0lib,ks0hand,Bool.not_true,Bool.not_false,Bool.true_and,Bool.false_and,Bool.and_false]
 refine ab _ (len1 h.s0.field) (ab _ (bK _ _) (ai (fun ks0field=>ah ⟨?_,rfl⟩) (fun ks0field=>?_)))
 ·simp only[ge,gQ,ks0lib,ks0hand,ks0field,Bool.not_true,Bool.not_false,Bool.true_and,Bool.false_and,Bool.and_false]
 refine ab _ (len1 h.s0.grave) (ab _ (bK _ _) (ai (fun ks0grave=>ah ⟨?_,rfl⟩) (fun ks0grave=>?_)))
 ·simp only[ge,gQ,ks0lib,ks0hand,ks0field,ks0grave,Bool.not_true,Bool.not_false,Bool.true_and,Bool.false_and,Bool.and_false]
 obtain⟨s11,s12,s13,s14⟩:=fq h.s1
 refine aa (aj (jt b.s1 s11 s12 s13 s14 _ _) rfl ⟨s11,s12,s13,s14,trivial⟩ fun Hs1 ls1=>?_)
 replace h:=h.le ls1
 refine ab _ (len1 h.s1.lib) (ab _ (bK _ _) (ai (fun ks1lib=>ah ⟨?_,rfl⟩) (fun ks1lib=>?_)))
 ·simp only[ge,gQ,ks0lib,ks0hand,ks0field,ks0grave,ks1lib,Bool.not_true,Bool.not_false,Bool.true_and,Bool.false_and,Bool.and_false]
 refine ab _ (len1 h.s1.hand) (ab _ (bK _ _) (ai (fun ks1hand=>ah ⟨?_,rfl⟩) (fun ks1hand=>?_)))
 ·simp only[ge,gQ,ks0lib,ks0hand,ks0field,ks0grave,ks1lib,ks1hand,Bool.not_true,Bool.not_false,Bool.true_and,Bool.false_and,Bool.and_false]
 refine ab _ (len1 h.s1.field) (ab _ (bK _ _) (ai (fun ks1field=>ah ⟨?_,rfl⟩) (fun ks1field=>?_)))
 ·simp only[ge,gQ,ks0lib,ks0hand,ks0field,ks0grave,ks1lib,ks1hand,ks1field,Bool.not_true,Bool.not_false,Bool.true_and,Bool.false_and,Bool.and_false]
 refine ab _ (len1 h.s1.grave) (ab _ (bK _ _) (ai (fun ks1grave=>ah ⟨?_,rfl⟩) (fun ks1grave=>?_)))
 ·simp only[ge,gQ,ks0lib,ks0hand,ks0field,ks0grave,ks1lib,ks1hand,ks1field,ks1grave,Bool.not_true,Bool.not_false,Bool.true_and,Bool.false_and,Bool.and_false]
 refine aa (aa (af fun _=>aa ?_))
 have lstack:=ItsR.len h.stack
 refine ab _ lstack (ab _ (bK _ _) (ai (fun kstack=>ah ⟨?_,rfl⟩) (fun kstack=>?_)))
 ·simp only[ge,gQ,nh,ks0lib,ks0hand,ks0field,ks0grave,ks1lib,ks1hand,ks1field,ks1grave,kstack,Bool.not_true,Bool.not_false,Bool.true_and,Bool.false_and,Bool.and_false]
 have stkstack:=h.stack
 obtain⟨rowsstack,hrsstack,hrlstack,hitstack⟩:=stkstack
 have hBstack:=hrsstack.lenB
 refine aQ b.stack.length (fun i H' OO=>OO=O∧Heap.le Hs1 H'∧(b.stack.all fun x=>!decide ((x.tgs.length:Int) > 6))=((b.stack.drop i).all fun x=>!decide ((x.tgs.length:Int) > 6))) ⟨rfl,Heap.le_refl _,rfl⟩ ?_
 rintro istack Hstack Ostack histack - ⟨rfl,hlestack,horstack⟩
 replace h:=h.le hlestack
 refine ab _ lstack (ab _ (aB _ _) (ai (fun hb=>?_) (fun hb=>?_)))
 ·have hlt:istack < b.stack.length:=by simpa using hb
  obtain⟨a,h1,_,h3,_⟩:=(hrsstack.le hlestack).idx .i64 istack rowsstack[istack] (by simp[hrlstack,hlt])
  obtain⟨s,hrow,hs⟩:=(hitstack istack rowsstack[istack] b.stack[istack] (by simp[hrlstack,hlt]) (by simp[hlt])).le hlestack
  have hr:=h3 4 1 (by omega)
  rw[hrow] at hr
  have hst:((b.stack.drop istack).all fun x=>!decide ((x.tgs.length:Int) > 6))=(!decide ((b.stack[istack].tgs.length:Int) > 6) && ((b.stack.drop (istack + 1)).all fun x=>!decide ((x.tgs.length:Int) > 6))):=by rw[List.drop_eq_getElem_cons hlt,List.all_cons]
  have lt:=hs.len
  rw[List.length_map] at lt
  refine ab _ h1 (aw rfl (ap hr rfl ⟨hs.one,trivial⟩ (ab _ lt (ab _ (bK _ _) (ai (fun hc=>ah ⟨?_,rfl⟩) (fun hc=>?_))))))
  ·simp only[ge,gQ,nh,ks0lib,ks0hand,ks0field,ks0grave,ks1lib,ks1hand,ks1field,ks1grave,kstack,horstack,hst,hc,Bool.not_true,Bool.not_false,Bool.true_and,Bool.false_and,Bool.and_false]
  ·refine ab _ (az (by omega)) (aI (by simp[Eqs]) hlt ⟨rfl,hlestack,?_⟩)
   rw[horstack,hst,hc];rfl
 have hgestack:b.stack.length≤istack:=by simpa using hb
 rw[List.drop_of_length_le hgestack] at horstack
 have kallstack:(b.stack.all fun x=>!decide ((x.tgs.length:Int) > 6))=true:=by rw[horstack];rfl
 clear hb
 refine aa ?_
 have lqueue:=ItsR.len h.queue
 refine ab _ lqueue (ab _ (bK _ _) (ai (fun kqueue=>ah ⟨?_,rfl⟩) (fun kqueue=>?_)))
 ·simp only[ge,gQ,nh,ks0lib,ks0hand,ks0field,ks0grave,ks1lib,ks1hand,ks1field,ks1grave,kstack,kallstack,kqueue,Bool.not_true,Bool.not_false,Bool.true_and,Bool.false_and,Bool.and_false]
 have stkqueue:=h.queue
 obtain⟨rowsqueue,hrsqueue,hrlqueue,hitqueue⟩:=stkqueue
 have hBqueue:=hrsqueue.lenB
 refine aQ b.queue.length (fun i H' OO=>OO=Ostack∧Heap.le Hstack H'∧(b.queue.all fun x=>!decide ((x.tgs.length:Int) > 6))=((b.queue.drop i).all fun x=>!decide ((x.tgs.length:Int) > 6))) ⟨rfl,Heap.le_refl _,rfl⟩ ?_
 rintro iqueue Hqueue Oqueue hiqueue - ⟨rfl,hlequeue,horqueue⟩
 replace h:=h.le hlequeue
 refine ab _ lqueue (ab _ (aB _ _) (ai (fun hb=>?_) (fun hb=>?_)))
 ·have hlt:iqueue < b.queue.length:=by simpa using hb
  obtain⟨a,h1,_,h3,_⟩:=(hrsqueue.le hlequeue).idx .i64 iqueue rowsqueue[iqueue] (by simp[hrlqueue,hlt])
  obtain⟨s,hrow,hs⟩:=(hitqueue iqueue rowsqueue[iqueue] b.queue[iqueue] (by simp[hrlqueue,hlt]) (by simp[hlt])).le hlequeue
  have hr:=h3 4 1 (by omega)
  rw[hrow] at hr
  have hst:((b.queue.drop iqueue).all fun x=>!decide ((x.tgs.length:Int) > 6))=(!decide ((b.queue[iqueue].tgs.length:Int) > 6) && ((b.queue.drop (iqueue + 1)).all fun x=>!decide ((x.tgs.length:Int) > 6))):=by rw[List.drop_eq_getElem_cons hlt,List.all_cons]
  have lt:=hs.len
  rw[List.length_map] at lt
  refine ab _ h1 (aw rfl (ap hr rfl ⟨hs.one,trivial⟩ (ab _ lt (ab _ (bK _ _) (ai (fun hc=>ah ⟨?_,rfl⟩) (fun hc=>?_))))))
  ·simp only[ge,gQ,nh,ks0lib,ks0hand,ks0field,ks0grave,ks1lib,ks1hand,ks1field,ks1grave,kstack,kallstack,kqueue,horqueue,hst,hc,Bool.not_true,Bool.not_false,Bool.true_and,Bool.false_and,Bool.and_false]
  ·refine ab _ (az (by omega)) (aI (by simp[Eqs]) hlt ⟨rfl,hlequeue,?_⟩)
   rw[horqueue,hst,hc];rfl
 have hgequeue:b.queue.length≤iqueue:=by simpa using hb
 rw[List.drop_of_length_le hgequeue] at horqueue
 have kallqueue:(b.queue.all fun x=>!decide ((x.tgs.length:Int) > 6))=true:=by rw[horqueue];rfl
 clear hb
 repeat (first | refine aa ?_ | refine ae ?_ | refine ab _ lo ?_ | refine ab _ la ?_ | refine ab _ lb ?_ | refine ab _ (eR _ _) ?_ | refine ab _ (aT _ _) ?_)
 refine ah ⟨?_,rfl⟩
 simp only[ge,gQ,nh,ks0lib,ks0hand,ks0field,ks0grave,ks1lib,ks1hand,ks1field,ks1grave,kstack,kallstack,kqueue,kallqueue,Bool.not_true,Bool.not_false,Bool.true_and,Bool.false_and,Bool.and_false]
def tys:Tys:=⟨aK,aH,bj,bc,aA⟩
theorem yp {H:Heap} {v:Value} {l:List (List Value)} (h:Sl H 12 v l) (hb:l.length≤2 ^ 40):Triple PP ek [v] H [] fun v' H' O'=>OSl aH 12 v' l O':=by
 refine ig (vs:=[v]) (by kernel_rfl) ⟨h.one,trivial⟩ ?_
 simp only[ee]
 obtain⟨a,cap,rfl,h1,h2,h3⟩:=h
 have hev:ak (.bin .eql .slice) [.slice a l.length cap,.slice none 0 0]=some (.bool a.isNone):=by cases a <;> rfl
 refine ab _ hev (ai (fun hn=>ah ?_) (fun hn=>fun r0=>?_))
 ·have hl:l=[]:=by
   by_cases hl:l=[]
   ·exact hl
   ·obtain⟨ad,rfl,_⟩:=h3 hl;cases hn
  subst hl
  exact OSl.nil aH 12
 ·refine aC (rows:=[]) (news:=l) (O1:=[]) (O2:=[]) (e:=aH) (size:=12) (bytes:=80) (by kernel_rfl) (List.Perm.refl _) (.inl ⟨⟨_,rfl⟩,rfl,rfl⟩) (fun Hf hl _=>Sl.le hl ⟨a,cap,rfl,h1,h2,h3⟩) (by simp;omega) (by simp;omega) ?_
  intro v' O1' H' _ ho
  refine ah ?_
  rw[List.append_nil]
  exact ho
theorem zL {H:Heap} {v:Value} {l:List (List Value)} (h:Sl H 2 v l) (hb:l.length≤2 ^ 40):Triple PP eN [v] H [] fun v' H' O'=>OSl bj 2 v' l O':=by
 refine iG (vs:=[v]) (by kernel_rfl) ⟨h.one,trivial⟩ ?_
 simp only[eM]
 obtain⟨a,cap,rfl,h1,h2,h3⟩:=h
 have hev:ak (.bin .eql .slice) [.slice a l.length cap,.slice none 0 0]=some (.bool a.isNone):=by cases a <;> rfl
 refine ab _ hev (ai (fun hn=>ah ?_) (fun hn=>fun r0=>?_))
 ·have hl:l=[]:=by
   by_cases hl:l=[]
   ·exact hl
   ·obtain⟨ad,rfl,_⟩:=h3 hl;cases hn
  subst hl
  exact OSl.nil bj 2
 ·refine aC (rows:=[]) (news:=l) (O1:=[]) (O2:=[]) (e:=bj) (size:=2) (bytes:=16) (by kernel_rfl) (List.Perm.refl _) (.inl ⟨⟨_,rfl⟩,rfl,rfl⟩) (fun Hf hl _=>Sl.le hl ⟨a,cap,rfl,h1,h2,h3⟩) (by simp;omega) (by simp;omega) ?_
  intro v' O1' H' _ ho
  refine ah ?_
  rw[List.append_nil]
  exact ho
theorem Bv {H:Heap} {v:Value} {l:List (List Value)} (h:Sl H 5 v l) (hb:l.length≤2 ^ 40):Triple PP fj [v] H [] fun v' H' O'=>OSl bc 5 v' l O':=by
 refine jr (vs:=[v]) (by kernel_rfl) ⟨h.one,trivial⟩ ?_
 simp only[fi]
 obtain⟨a,cap,rfl,h1,h2,h3⟩:=h
 have hev:ak (.bin .eql .slice) [.slice a l.length cap,.slice none 0 0]=some (.bool a.isNone):=by cases a <;> rfl
 refine ab _ hev (ai (fun hn=>ah ?_) (fun hn=>fun r0=>?_))
 ·have hl:l=[]:=by
   by_cases hl:l=[]
   ·exact hl
   ·obtain⟨ad,rfl,_⟩:=h3 hl;cases hn
  subst hl
  exact OSl.nil bc 5
 ·refine aC (rows:=[]) (news:=l) (O1:=[]) (O2:=[]) (e:=bc) (size:=5) (bytes:=56) (by kernel_rfl) (List.Perm.refl _) (.inl ⟨⟨_,rfl⟩,rfl,rfl⟩) (fun Hf hl _=>Sl.le hl ⟨a,cap,rfl,h1,h2,h3⟩) (by simp;omega) (by simp;omega) ?_
  intro v' O1' H' _ ho
  refine ah ?_
  rw[List.append_nil]
  exact ho
theorem yo {H:Heap} {v:Value} {l:List (List Value)} (h:Sl H 2 v l) (hb:l.length≤2 ^ 40):Triple PP ej [v] H [] fun v' H' O'=>OSl aA 2 v' l O':=by
 refine ie (vs:=[v]) (by kernel_rfl) ⟨h.one,trivial⟩ ?_
 simp only[d6]
 obtain⟨a,cap,rfl,h1,h2,h3⟩:=h
 have hev:ak (.bin .eql .slice) [.slice a l.length cap,.slice none 0 0]=some (.bool a.isNone):=by cases a <;> rfl
 refine ab _ hev (ai (fun hn=>ah ?_) (fun hn=>fun r0=>?_))
 ·have hl:l=[]:=by
   by_cases hl:l=[]
   ·exact hl
   ·obtain⟨ad,rfl,_⟩:=h3 hl;cases hn
  subst hl
  exact OSl.nil aA 2
 ·refine aC (rows:=[]) (news:=l) (O1:=[]) (O2:=[]) (e:=aA) (size:=2) (bytes:=16) (by kernel_rfl) (List.Perm.refl _) (.inl ⟨⟨_,rfl⟩,rfl,rfl⟩) (fun Hf hl _=>Sl.le hl ⟨a,cap,rfl,h1,h2,h3⟩) (by simp;omega) (by simp;omega) ?_
  intro v' O1' H' _ ho
  refine ah ?_
  rw[List.append_nil]
  exact ho
theorem QB {H:Heap} {v:Value} {l:List It} (h:ItsS H v l) (hB:Wu l):Triple PP yT [v] H [] fun v' H' O'=>OItsS aA bc v' l O':=by
 obtain⟨rows,hs,hrl,hit⟩:=h
 refine Cj (vs:=[v]) (by kernel_rfl) ⟨hs.one,trivial⟩ ?_
 simp only[yG]
 refine ar (Bv hs (by have:=hB.1;omega)) fun v' H1 O1 ho l1=>⟨[v'],rfl,⟨ho.one,trivial⟩,?_⟩
 have hlen:=ho.len
 rw[hrl] at hlen
 refine ab _ hlen ?_
 refine aQ l.length (fun i H' O'=>Heap.le H1 H'∧∃ rows' A Ts,O'.Perm (A++List.flatten Ts)∧OSl bc 5 v' rows' A∧rows'.length=l.length∧Ts.length=i ∧
  (∀ (j:Nat) (r:List Value) (x:It) (T:Own),rows'[j]?=some r→l[j]?=some x→Ts[j]?=some T→∃ s,r=[iV x.player,iV x.id,iV x.card,iV x.trig,s]∧OSl aA 2 s (x.tgs.map Tg.row) T)∧∀ j,i≤j→rows'[j]?=rows[j]?)
  ⟨Heap.le_refl _,rows,O1,[],by simp,ho,hrl,rfl,fun j r x T _ _ h=>by simp at h,fun _ _=>rfl⟩ ?_
 rintro i H' O' hi - ⟨hle,rows',A,Ts,hp,hA,hrl',htl,hspec,hrest⟩
 refine ab _ (aB _ _) (ai (fun hb=>?_) (fun hb=>?_))
 ·have hlt:i < l.length:=by simpa using hb
  have hri:rows'[i]?=some rows[i]:=by rw[hrest i (Nat.le_refl _)];exact List.getElem?_eq_getElem (by omega)
  obtain⟨s,hrow,hst⟩:=hit i rows[i] l[i] (List.getElem?_eq_getElem (by omega)) (List.getElem?_eq_getElem hlt)
  obtain⟨a,k1,_,_,k3⟩:=hA.idx (fun p hp'=>hp.mem_iff.2 (List.mem_append_left _ hp')) H' (k:=.i64) hri
  have hr:=k3 4 1 (by omega)
  rw[hrow] at hr
  refine ab _ k1 (aw rfl (ap hr rfl ⟨hst.one,trivial⟩ ?_))
  refine ar (yo (hst.le (Heap.le_trans l1 hle)) (by have:=hB.2 _ (List.getElem_mem hlt);simp;omega)) fun s' H2 T hT l2=>⟨[s'],rfl,⟨hT.one,trivial⟩,?_⟩
  have hp2:(T++O').Perm (A++(T++List.flatten Ts)):=(hp.append_left T).trans (List.perm_append_comm_assoc _ _ _)
  obtain⟨a2,j1,j2⟩:=hA.store hp2 (k:=.i64) hri
  obtain⟨A',hst2,hA'⟩:=j2 4 [s'] (by simp) ⟨hT.one,trivial⟩
  refine ab _ j1 (aw rfl (aw rfl ⟨_,hst2,?_⟩))
  have hsp:cj rows[i] 4 [s']=[iV l[i].player,iV l[i].id,iV l[i].card,iV l[i].trig,s']:=by rw[hrow];rfl
  rw[hsp] at hA'
  refine ab _ (az (by have:=hB.1;omega)) (aI (by simp[Eqs]) hlt ⟨Heap.le_trans hle l2,_,A',Ts++[T],?_,hA',by simp[hrl'],by simp[htl],?_,?_⟩)
  ·refine List.Perm.append_left A' ?_
   rw[List.flatten_append]
   simpa using List.perm_append_comm
  ·intro j r x T' h1 h2 h3
   by_cases hj:j=i
   ·subst hj
    rw[List.getElem?_set_self (by omega)] at h1
    rw[List.getElem?_eq_getElem hlt] at h2
    rw[List.getElem?_append_right (by omega),htl,Nat.sub_self] at h3
    simp only[Option.some.injEq,List.getElem?_cons_zero] at h1 h2 h3
    subst h1;subst h2;subst h3
    exact⟨s',rfl,hT⟩
   ·rw[List.getElem?_set_ne (by omega)] at h1
    have hjlt:j < Ts.length:=by
     have:=(List.getElem?_eq_some_iff.1 h3).1
     simp at this;omega
    rw[List.getElem?_append_left hjlt] at h3
    exact hspec j r x T' h1 h2 h3
  ·intro j hj
   rw[List.getElem?_set_ne (by omega)]
   exact hrest j (by omega)
 ·have hie:i=l.length:=by
   have:¬ ((i:Int) < (l.length:Int)):=by simpa using hb
   omega
  subst hie
  exact ah ⟨rows',A,Ts,hp,hA,hrl',htl,hspec⟩
theorem OIts.one {te ti:TypeId} {v:Value} {l:List It} {O:Own} (h:OIts te ti v l O):v.oneCell'=true:=by
 obtain⟨rows,A,Ts,_,h1,_⟩:=h;exact h1.one
theorem QK {H:Heap} {v:cn} {b:Bd} (h:BdS H v b) (hB:bdB b):Triple PP uU [.agg (al v b).toArray] H [] fun r H' O'=>∃ w,r=.agg (al w b).toArray∧OwnBS tys w b O':=by
 refine EJ (vs:=al v b) (by kernel_rfl) (am (h.r [])) ?_
 simp only[AM]
 obtain⟨b1,⟨b2,b3,b4,b5⟩,⟨b6,b7,b8,b9⟩,b10,b11,b12,b13⟩:=hB
 have cl:∀ {l:List Int},l.length≤1000000→(aE l).length≤2 ^ 40:=fun h=>by rw[aE,List.length_map];omega
 refine af fun r0=>af fun r1=>?_
 refine aa (aa (aa ?_))
 refine ar (yp h.objs (by rw[List.length_map];omega)) fun xo H1 Oo po l1=>⟨_,rfl,⟨po.one,trivial⟩,?_⟩
 replace h:=h.le l1
 refine ar (fO h.att (cl b12)) fun xa H1 Oa pa l1=>⟨_,rfl,⟨pa.one,trivial⟩,?_⟩
 replace h:=h.le l1
 refine ar (zL h.blocks (by rw[List.length_map];omega)) fun xb H1 Obk pb l1=>⟨_,rfl,⟨pb.one,trivial⟩,?_⟩
 replace h:=h.le l1
 repeat (first | refine aa ?_ | refine ae ?_)
 refine ar (QB h.stack b10) fun xs H1 Os ps l1=>⟨_,rfl,⟨OItsS.one ps,trivial⟩,?_⟩
 replace h:=h.le l1
 refine ar (QB h.queue b11) fun xq H1 Oq pq l1=>⟨_,rfl,⟨OItsS.one pq,trivial⟩,?_⟩
 replace h:=h.le l1
 refine aa (aa ?_)
 refine aj (pT r0 1 _ _) rfl ⟨rfl,rfl,rfl,rfl,trivial⟩ fun H1 l1=>?_
 replace h:=h.le l1
 repeat (first | refine aa ?_ | refine ae ?_)
 refine ar (fO h.s0.lib (cl b2)) fun x1 H1 A0 p1 l1=>⟨_,rfl,⟨p1.one,trivial⟩,?_⟩
 replace h:=h.le l1
 refine aa (aa ?_)
 refine ar (fO h.s0.hand (cl b3)) fun x2 H1 B0 p2 l1=>⟨_,rfl,⟨p2.one,trivial⟩,?_⟩
 replace h:=h.le l1
 refine aa (aa ?_)
 refine ar (fO h.s0.field (cl b4)) fun x3 H1 C0 p3 l1=>⟨_,rfl,⟨p3.one,trivial⟩,?_⟩
 replace h:=h.le l1
 refine aa (aa ?_)
 refine ar (fO h.s0.grave (cl b5)) fun x4 H1 D0 p4 l1=>⟨_,rfl,⟨p4.one,trivial⟩,?_⟩
 replace h:=h.le l1
 refine aa ?_
 refine aj (pT r0 15 _ _) rfl ⟨rfl,rfl,rfl,rfl,trivial⟩ fun H1 l1=>?_
 replace h:=h.le l1
 repeat (first | refine aa ?_ | refine ae ?_)
 refine ar (fO h.s1.lib (cl b6)) fun x5 H1 A1 p5 l1=>⟨_,rfl,⟨p5.one,trivial⟩,?_⟩
 replace h:=h.le l1
 refine aa (aa ?_)
 refine ar (fO h.s1.hand (cl b7)) fun x6 H1 B1 p6 l1=>⟨_,rfl,⟨p6.one,trivial⟩,?_⟩
 replace h:=h.le l1
 refine aa (aa ?_)
 refine ar (fO h.s1.field (cl b8)) fun x7 H1 C1 p7 l1=>⟨_,rfl,⟨p7.one,trivial⟩,?_⟩
 replace h:=h.le l1
 refine aa (aa ?_)
 refine ar (fO h.s1.grave (cl b9)) fun x8 H1 D1 p8 l1=>⟨_,rfl,⟨p8.one,trivial⟩,?_⟩
 refine aa (aa (aa (aa ?_)))
 refine ah ⟨⟨xo,x1,x2,x3,x4,x5,x6,x7,x8,xs,xq,xa,xb⟩,rfl,Os,Oo++(A0++(B0++(C0++(D0++(A1++(B1++(C1++(D1++(Oq++(Oa++Obk)))))))))),?_,ps,fun v' l' A' h'=>⟨Oo,A0,B0,C0,D0,A1,B1,C1,D1,A',Oq,Oa,Obk,?_,⟨po,p1,p2,p3,p4,p5,p6,p7,p8,h',pq.weak,pa,pb⟩⟩⟩
 ·refine aX fun a _ _=>?_
  simp only[List.count_append,List.count_nil]
  omega
 ·refine aX fun a _ _=>?_
  simp only[List.count_append]
  omega
theorem Je {H:Heap} {v:cn} {b:Bd} (h:BdS H v b) (hB:bdB b):Triple PP uU [.agg (al v b).toArray] H [] fun r H' O'=>∃ w,r=.agg (al w b).toArray∧OwnB tys w b O' :=
 Triple.mono (QK h hB) fun _ _ _ _ ⟨w,e,h⟩=>⟨w,e,OwnBS.weak h⟩
end Go.Proofs.YtdhobpmnkfmcfaaGreatDoor
