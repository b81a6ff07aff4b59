/- Which boards are valid: what the program says. -/
import Derived.Test.YtdhobpmnkfmcfaaGreatDoorC1
namespace Go.Proofs.YtdhobpmnkfmcfaaGreatDoor
open Go Go.Sx
set_option maxRecDepth 100000
set_option maxHeartbeats 1000000
theorem I8 {α:Type} [DecidableEq α]:∀ {l r:List α},l.Nodup→(∀ x ∈ l,x ∈ r)→l.length≤r.length
 | [],_,_,_=>Nat.zero_le _
 | a::l,r,hn,hs=>by
  rw [List.nodup_cons] at hn
  have har:a ∈ r:=hs a (by simp)
  have h1:=I8 (r:=r.erase a) hn.2 fun x hx=>by
   have:x ≠ a:=fun e=>hn.1 (e ▸ hx)
   exact (List.mem_erase_of_ne this).2 (hs x (by simp [hx]))
  rw [List.length_erase_of_mem har] at h1
  have:=List.length_pos_of_mem har
  simp only [List.length_cons];omega
theorem Eo {α:Type} [DecidableEq α] {l r:List α} (hn:l.Nodup) (hs:∀ x ∈ l,x ∈ r) (hl:r.length≤l.length):∀ x ∈ r,x ∈ l:=by
 intro x hx
 rcases Classical.em (x ∈ l) with h | h
 ·exact h
 ·have:=I8 (l:=x::l) (r:=r) (List.nodup_cons.2 ⟨h,hn⟩) (fun y hy=>by
   rcases List.mem_cons.1 hy with rfl | hy
   ·exact hx
   ·exact hs y hy)
  simp only [List.length_cons] at this;omega
theorem Gt {val:Ob→Bool} {ps cs:List (Int × Int)}:∀ {l:List Ob} {prev:Option Int},qi val ps cs prev l=true →
  (∀ o ∈ l,val o=true∧(dM ps o.id).isSome=true∧∀ p,prev=some p→p < o.id)∧(l.map (·.id)).Nodup
 | [],_,_=>⟨by simp,by simp⟩
 | o::r,prev,h=>by
  simp only [qi,Em,Bool.and_eq_true,Bool.not_eq_true',Bool.or_eq_false_iff,Bool.not_eq_false'] at h
  obtain ⟨⟨⟨⟨⟨h1,h2⟩,h3⟩,_⟩,_⟩,h6⟩:=h
  obtain ⟨k1,k2⟩:=Gt h6
  have hp:∀ p,prev=some p→p < o.id:=by
   rintro p rfl
   simp only [jX,decide_eq_false_iff_not] at h2
   omega
  refine ⟨?_,?_⟩
  ·intro x hx
   rcases List.mem_cons.1 hx with rfl | hx
   ·refine ⟨h1,?_,hp⟩
    cases hl:dM ps x.id with
    | none=>rw [hl] at h3;cases h3
    | some v=>rfl
   ·obtain ⟨a1,a2,a3⟩:=k1 x hx
    exact ⟨a1,a2,fun p e=>by have:=a3 _ rfl;have:=hp p e;omega⟩
  ·rw [List.map_cons,List.nodup_cons]
   refine ⟨?_,k2⟩
   intro hm
   obtain ⟨x,hx,e⟩:=List.mem_map.1 hm
   have:=(k1 x hx).2.2 _ rfl
   omega
theorem y9 {val:Ob→Bool} {b:Bd} (h:cw val b=true):∀ x ∈ (aY b).map (·.1),∃ o ∈ b.objs,o.id=x∧val o=true:=by
 simp only [cw,Bool.and_eq_true,decide_eq_true_eq] at h
 obtain ⟨_,h2,h3⟩:=h
 obtain ⟨k1,k2⟩:=Gt h2
 intro x hx
 have:=Eo (l:=b.objs.map (·.id)) (r:=(aY b).map (·.1)) k2 (fun y hy=>by
  obtain ⟨o,ho,rfl⟩:=List.mem_map.1 hy
  have:=(k1 o ho).2.1
  rcases Classical.em (o.id ∈ (aY b).map (·.1)) with h | h
  ·exact h
  ·rw [io.2 h] at this;cases this) (by simp [h3]) x hx
 obtain ⟨o,ho,rfl⟩:=List.mem_map.1 this
 exact ⟨o,ho,rfl,(k1 o ho).1⟩
theorem xk {o:Ob} (h:ba o=true):1≤o.id∧o.id≤500:=by
 simp only [ba,Bool.and_eq_true,decide_eq_true_eq] at h
 exact ⟨h.1.2.1.1.1.2,h.1.2.1.1.2⟩
theorem JQ {b:Bd} (h:cw ba b=true):∀ x,x ∈ b.s0.field∨x ∈ b.s1.field→0 < x∧x≤500:=by
 intro x hx
 obtain ⟨o,_,rfl,ho⟩:=y9 h x (by
  simp only [aY,fg,List.map_append,List.map_map,List.mem_append,List.mem_map,Function.comp]
  rcases hx with hx | hx
  ·left;right;right;left;exact ⟨x,hx,rfl⟩
  ·right;left;right;right;left;exact ⟨x,hx,rfl⟩)
 have:=xk ho
 omega
def gu (b:Bd):Bool:=if b.active=0 then nQ b.s0.field b.s1.field b.att b.blocks else nQ b.s1.field b.s0.field b.att b.blocks
theorem NY {H:Heap} {O:Own} {v:cX} {b:Bd} (h:BdR H O v b) (ha:b.active=0∨b.active=1) (hp:∀ x,x ∈ b.s0.field∨x ∈ b.s1.field→0 < x∧x≤500) :
  RetO PP wl [.agg (ap v b).toArray] H O (.bool (gu b)):=by
 refine AN (vs:=ap v b) (by kernel_rfl) (ao h) ?_
 simp only [pF]
 refine af fun r0=>aa ?_
 have e34:g (ap v b) 34=iV b.active:=rfl
 rw [e34]
 have hs:∀ n:Int,n=0∨n=1→al (.bin .sub .int) [iV 1,iV n]=some (iV (1 - n)):=by
  rintro n (rfl | rfl) <;> rfl
 rcases ha with ha | ha
 ·rw [ha]
  refine ⟨.i64,0,rfl,fun _=>aa (aa (ab _ (hs 0 (.inl rfl)) ⟨.i64,1,rfl,fun e=>absurd e (by omega),fun _=>⟨.i64,1,rfl,fun _=>?_,fun e=>absurd rfl e⟩⟩)),fun e=>absurd rfl e⟩
  refine aa ?_
  refine EF h.s0.field h.s1.field h.att h.blocks (fun x hx=>(hp x (.inl hx)).1) (fun x hx=>hp x (.inr hx)) ?_ ?_ ?_
  ·intros;simp [Eqs]
  ·intros;simp [Eqs]
  ·exact fun H' _=>⟨by simp [gu,ha],rfl⟩
 ·rw [ha]
  refine ⟨.i64,1,rfl,fun e=>absurd e (by omega),fun _=>⟨.i64,1,rfl,fun _=>aa (aa (ab _ (hs 1 (.inr rfl)) ⟨.i64,0,rfl,fun _=>?_,fun e=>absurd rfl e⟩)),fun e=>absurd rfl e⟩⟩
  refine aa ?_
  refine EF h.s1.field h.s0.field h.att h.blocks (fun x hx=>(hp x (.inr hx)).1) (fun x hx=>hp x (.inl hx)) ?_ ?_ ?_
  ·intros;simp [Eqs]
  ·intros;simp [Eqs]
  ·exact fun H' _=>⟨by simp [gu,ha],rfl⟩
theorem vp {b:Bool} (h:(!b)=true):b=false:=by simpa using h
theorem qW {b:Bool} (h:(!b)=false):b=true:=by simpa using h
def bW (s:St):Bool:=ar s.life 0 9999 && (([s.p0,s.p1,s.p2,s.p3].all fun n=>ar n 0 99) && (ar s.mull 0 7 && ar s.acts 0 255))
def xT (b:Bd):Bool:=((!ar b.passes 0 2 || decide ((b.objs.length:Int) > 500)) || decide ((b.stack.length:Int) > 200)) || decide ((b.queue.length:Int) > 200)
def ax (b:Bd):Bool:=ar b.active 0 1 && (ar b.turn 0 1000 && (ar b.phase 0 10 && (ar b.holder (-1) 1 && (!xT b && (bW b.s0 && (bW b.s1 &&
 (!(b.stack.any fun x=>!dk x false) && (!(b.queue.any fun x=>!dk x true) && (cw ba b && gu b)))))))))
theorem dN {H:Heap} {O:Own} {v:cX} {b:Bd} (h:BdR H O v b):RetO PP yN [.agg (ap v b).toArray] H O (.bool (ax b)):=by
 refine B9 (vs:=ap v b) (by kernel_rfl) (ao h) ?_
 simp only [sj]
 refine af fun r0=>?_
 refine aa (ai (dj b.active 0 1 H O) rfl ⟨rfl,trivial⟩ fun H1 l1=>ab _ (aM _) (aj (fun hb=>ah ⟨?_,rfl⟩) (fun hb=>?_)))
 ·have kf:ar b.active 0 1=false:=vp hb
  simp only [ax,kf,Bool.true_and,Bool.false_and,Bool.and_false]
 have k1:ar b.active 0 1=true:=qW hb
 replace h:=h.le l1
 clear hb
 refine aa (ai (dj b.turn 0 1000 H1 O) rfl ⟨rfl,trivial⟩ fun H2 l2=>ab _ (aM _) (aj (fun hb=>ah ⟨?_,rfl⟩) (fun hb=>?_)))
 ·have kf:ar b.turn 0 1000=false:=vp hb
  simp only [ax,k1,kf,Bool.true_and,Bool.false_and,Bool.and_false]
 have k2:ar b.turn 0 1000=true:=qW hb
 replace h:=h.le l2
 clear hb
 refine aa (ai (dj b.phase 0 10 H2 O) rfl ⟨rfl,trivial⟩ fun H3 l3=>ab _ (aM _) (aj (fun hb=>ah ⟨?_,rfl⟩) (fun hb=>?_)))
 ·have kf:ar b.phase 0 10=false:=vp hb
  simp only [ax,k1,k2,kf,Bool.true_and,Bool.false_and,Bool.and_false]
 have k3:ar b.phase 0 10=true:=qW hb
 replace h:=h.le l3
 clear hb
 refine aa (ai (dj b.holder (-1) 1 H3 O) rfl ⟨rfl,trivial⟩ fun H4 l4=>ab _ (aM _) (aj (fun hb=>ah ⟨?_,rfl⟩) (fun hb=>?_)))
 ·have kf:ar b.holder (-1) 1=false:=vp hb
  simp only [ax,k1,k2,k3,kf,Bool.true_and,Bool.false_and,Bool.and_false]
 have k4:ar b.holder (-1) 1=true:=qW hb
 replace h:=h.le l4
 clear hb
 refine aa (ai (dj b.passes 0 2 H4 O) rfl ⟨rfl,trivial⟩ fun H5 l5=>ab _ (aM _) ?_)
 replace h:=h.le l5
 have lo:=h.objs.len
 rw [List.length_map] at lo
 refine aa (ae (ae ?_))
 refine ab _ (lo) (ae (ab _ (bH _ _) (ae (ab _ (aR _ _) ?_))))
 refine aa (ae (ae ?_))
 refine ab _ (ItsR.len h.stack) (ae (ab _ (bH _ _) (ae (ab _ (aR _ _) ?_))))
 refine aa (ae (ae ?_))
 refine ab _ (ItsR.len h.queue) (ae (ab _ (bH _ _) (ae (ab _ (aR _ _) ?_))))
 refine aj (fun hb=>ah ⟨?_,rfl⟩) (fun hb=>?_)
 ·have kf:xT b=true:=hb
  simp only [ax,k1,k2,k3,k4,kf,Bool.true_and,Bool.not_true,Bool.false_and]
 have kmid:xT b=false:=hb
 clear hb
 refine aa (af fun r1=>aa ?_)
 refine aa (ai (dj b.s0.life 0 9999 H5 O) rfl ⟨rfl,trivial⟩ fun H6 l6=>ab _ (aM _) (aj (fun hb=>ah ⟨?_,rfl⟩) (fun hb=>?_)))
 ·have kf:ar b.s0.life 0 9999=false:=vp hb
  simp only [ax,bW,k1,k2,k3,k4,kmid,kf,Bool.true_and,Bool.false_and,Bool.and_false,Bool.not_false]
 have k6:ar b.s0.life 0 9999=true:=qW hb
 replace h:=h.le l6
 clear hb
 refine aa (ai (Ap b.s0.p0 b.s0.p1 b.s0.p2 b.s0.p3 H6 O) rfl ⟨rfl,trivial⟩ fun H7 l7=>ab _ (aM _) (aj (fun hb=>ah ⟨?_,rfl⟩) (fun hb=>?_)))
 ·have kf:([b.s0.p0,b.s0.p1,b.s0.p2,b.s0.p3].all fun n=>ar n 0 99)=false:=vp hb
  simp only [ax,bW,k1,k2,k3,k4,kmid,k6,kf,Bool.true_and,Bool.false_and,Bool.and_false,Bool.not_false]
 have k7:([b.s0.p0,b.s0.p1,b.s0.p2,b.s0.p3].all fun n=>ar n 0 99)=true:=qW hb
 replace h:=h.le l7
 clear hb
 refine aa (ai (dj b.s0.mull 0 7 H7 O) rfl ⟨rfl,trivial⟩ fun H8 l8=>ab _ (aM _) (aj (fun hb=>ah ⟨?_,rfl⟩) (fun hb=>?_)))
 ·have kf:ar b.s0.mull 0 7=false:=vp hb
  simp only [ax,bW,k1,k2,k3,k4,kmid,k6,k7,kf,Bool.true_and,Bool.false_and,Bool.and_false,Bool.not_false]
 have k8:ar b.s0.mull 0 7=true:=qW hb
 replace h:=h.le l8
 clear hb
 refine aa (ai (dj b.s0.acts 0 255 H8 O) rfl ⟨rfl,trivial⟩ fun H9 l9=>ab _ (aM _) (aj (fun hb=>ah ⟨?_,rfl⟩) (fun hb=>?_)))
 ·have kf:ar b.s0.acts 0 255=false:=vp hb
  simp only [ax,bW,k1,k2,k3,k4,kmid,k6,k7,k8,kf,Bool.true_and,Bool.false_and,Bool.and_false,Bool.not_false]
 have k9:ar b.s0.acts 0 255=true:=qW hb
 replace h:=h.le l9
 clear hb
 refine af fun r2=>aa ?_
 refine aa (ai (dj b.s1.life 0 9999 H9 O) rfl ⟨rfl,trivial⟩ fun H10 l10=>ab _ (aM _) (aj (fun hb=>ah ⟨?_,rfl⟩) (fun hb=>?_)))
 ·have kf:ar b.s1.life 0 9999=false:=vp hb
  simp only [ax,bW,k1,k2,k3,k4,kmid,k6,k7,k8,k9,kf,Bool.true_and,Bool.false_and,Bool.and_false,Bool.not_false]
 have k10:ar b.s1.life 0 9999=true:=qW hb
 replace h:=h.le l10
 clear hb
 refine aa (ai (Ap b.s1.p0 b.s1.p1 b.s1.p2 b.s1.p3 H10 O) rfl ⟨rfl,trivial⟩ fun H11 l11=>ab _ (aM _) (aj (fun hb=>ah ⟨?_,rfl⟩) (fun hb=>?_)))
 ·have kf:([b.s1.p0,b.s1.p1,b.s1.p2,b.s1.p3].all fun n=>ar n 0 99)=false:=vp hb
  simp only [ax,bW,k1,k2,k3,k4,kmid,k6,k7,k8,k9,k10,kf,Bool.true_and,Bool.false_and,Bool.and_false,Bool.not_false]
 have k11:([b.s1.p0,b.s1.p1,b.s1.p2,b.s1.p3].all fun n=>ar n 0 99)=true:=qW hb
 replace h:=h.le l11
 clear hb
 refine aa (ai (dj b.s1.mull 0 7 H11 O) rfl ⟨rfl,trivial⟩ fun H12 l12=>ab _ (aM _) (aj (fun hb=>ah ⟨?_,rfl⟩) (fun hb=>?_)))
 ·have kf:ar b.s1.mull 0 7=false:=vp hb
  simp only [ax,bW,k1,k2,k3,k4,kmid,k6,k7,k8,k9,k10,k11,kf,Bool.true_and,Bool.false_and,Bool.and_false,Bool.not_false]
 have k12:ar b.s1.mull 0 7=true:=qW hb
 replace h:=h.le l12
 clear hb
 refine aa (ai (dj b.s1.acts 0 255 H12 O) rfl ⟨rfl,trivial⟩ fun H13 l13=>ab _ (aM _) (aj (fun hb=>ah ⟨?_,rfl⟩) (fun hb=>?_)))
 ·have kf:ar b.s1.acts 0 255=false:=vp hb
  simp only [ax,bW,k1,k2,k3,k4,kmid,k6,k7,k8,k9,k10,k11,k12,kf,Bool.true_and,Bool.false_and,Bool.and_false,Bool.not_false]
 have k13:ar b.s1.acts 0 255=true:=qW hb
 replace h:=h.le l13
 clear hb
 refine aa (ai (nU (p:=fun x=>!dk x false) h.stack rfl (jn aA (by decide)) fun H' _ row x hx=>Mw hx) rfl ⟨rfl,trivial⟩ fun H20 l20=>aj (fun hb=>ah ⟨?_,rfl⟩) (fun hb=>?_))
 ·simp only [ax,bW,k1,k2,k3,k4,kmid,k6,k7,k8,k9,k10,k11,k12,k13,hb,Bool.true_and,Bool.not_true,Bool.not_false,Bool.false_and]
 replace h:=h.le l20
 refine aa (ai (nU (p:=fun x=>!dk x true) h.queue rfl (jn aA (by decide)) fun H' _ row x hx=>Mv hx) rfl ⟨rfl,trivial⟩ fun H21 l21=>ab _ (aM _) (aj (fun hq=>?_) (fun hq=>ah ⟨?_,rfl⟩)))
 ·replace h:=h.le l21
  simp only [Bool.not_eq_true'] at hq
  have hfin:ax b=(cw ba b && gu b):=by simp only [ax,bW,k1,k2,k3,k4,kmid,k6,k7,k8,k9,k10,k11,k12,k13,hb,hq,Bool.true_and,Bool.not_false]
  refine aa (ai (NU h) rfl ⟨rfl,trivial⟩ fun H22 l22=>aj (fun hp=>?_) (fun hp=>ah ⟨?_,rfl⟩))
  ·replace h:=h.le l22
   have ha:b.active=0∨b.active=1:=by have:=k1;simp only [ar,decide_eq_true_eq] at this;omega
   refine aa (ai (NY h ha (JQ hp)) rfl ⟨rfl,trivial⟩ fun H23 l23=>ah ⟨?_,rfl⟩)
   rw [hfin,hp,Bool.true_and];rfl
  ·rw [hfin,hp];rfl
 ·simp only [Bool.not_eq_false'] at hq
  simp only [ax,bW,k1,k2,k3,k4,kmid,k6,k7,k8,k9,k10,k11,k12,k13,hb,hq,Bool.true_and,Bool.not_false,Bool.not_true,Bool.false_and]
end Go.Proofs.YtdhobpmnkfmcfaaGreatDoor
namespace Go.Proofs.YtdhobpmnkfmcfaaGreatDoor
open Go Go.Sx
set_option maxRecDepth 100000
set_option maxHeartbeats 1000000
theorem Hl {a b:Bool} (h:a=true ↔ b=true):(Value.bool a:Value)=.bool b:=by rw [Bool.eq_iff_iff.2 h]
theorem y6 (n:Int) (H:Heap) (O:Own):RetO PP mN [iV n] H O (.bool (ar n 0 99)):=by
 refine sV (vs:=[iV n]) (by kernel_rfl) ⟨rfl,trivial⟩ ?_
 simp only [iO]
 refine ab _ (fh _ _) (ae (ab _ (fh _ _) (ae (ab _ (aX _ _) ?_))))
 refine ah ⟨Hl ?_,rfl⟩
 simp [ar]
theorem pR (o:Ob):ba o=true ↔ ((0≤o.power∧o.power≤99)∧(0≤o.tough∧o.tough≤99)∧(0≤o.dmg∧o.dmg≤99)∧(0≤o.cnt∧o.cnt≤99)∧(0≤o.pp∧o.pp≤99)∧(0≤o.pt∧o.pt≤99)) ∧
  (o.card=-1∨(o.power=0∧o.tough=0))∧1≤o.id∧o.id≤500∧-1≤o.card∧o.card < 400∧(o.owner=0∨o.owner=1):=by
 simp only [ba,ar,List.all_cons,List.all_nil,Bool.and_true,Bool.and_eq_true,Bool.or_eq_true,decide_eq_true_eq,beq_iff_eq,ge_iff_le]
 omega
theorem DR (o:Ob) (H:Heap) (O:Own):RetO PP mM [.agg o.row.toArray] H O (.bool (ba o)):=by
 refine sU (vs:=o.row) (by kernel_rfl) (by simp [Ob.row,Ones,Value.oneCell']) ?_
 simp only [iN]
 repeat (first | refine aa ?_ | refine ae ?_ | refine af fun _=>?_ | refine ab _ (aI _ _) ?_ | refine ab _ (bH _ _) ?_ | refine ab _ (fh _ _) ?_ | refine ab _ (cZ _ _) ?_ | refine ab _ (az _ _) ?_ | refine ab _ (bd _ _) ?_ | refine ab _ (aX _ _) ?_ | refine ab _ (aR _ _) ?_ | refine ab _ (aM _) ?_ | refine ab _ (wT _ _) ?_ | refine ab _ (ru _ _) ?_)
 refine aj (fun h1=>ah ⟨Hl ?_,rfl⟩) (fun h1=>?_)
 ·rw [pR];simp at h1 ⊢;omega
 refine aa (ab _ (fh _ _) (aa (ae (ae (ab _ (bd _ _) (ae (aa (ae (ae (ae (ae (ab _ (bd _ _) (ae (ae (ae (ab _ (aR _ _) (ae (ab _ (aX _ _) ?_))))))))))))))))))
 refine aj (fun h2=>ah ⟨Hl ?_,rfl⟩) (fun h2=>?_)
 ·rw [pR];simp at h1 h2 ⊢;omega
 have key:∀ (x:Bool),(x=true ↔ ((0≤o.power∧o.power≤99)∧(0≤o.tough∧o.tough≤99)∧(0≤o.dmg∧o.dmg≤99)∧(0≤o.cnt∧o.cnt≤99)∧(0≤o.pp∧o.pp≤99)∧(0≤o.pt∧o.pt≤99)))→(Value.bool x:Value)=.bool (ba o):=by
  intro x hx
  refine Hl ?_
  rw [hx,pR]
  simp at h1 h2 ⊢;omega
 refine aa (ai (y6 o.power H O) rfl ⟨rfl,trivial⟩ fun H1 _=>aj (fun k1=>?_) (fun k1=>ah ⟨key _ ?_,rfl⟩))
 rotate_left
 ·simp [ar] at k1 ⊢;omega
 refine aa (ai (y6 o.tough H1 O) rfl ⟨rfl,trivial⟩ fun H2 _=>aj (fun k2=>?_) (fun k2=>ah ⟨key _ ?_,rfl⟩))
 rotate_left
 ·simp [ar] at k2 ⊢;omega
 refine aa (ai (y6 o.dmg H2 O) rfl ⟨rfl,trivial⟩ fun H3 _=>aj (fun k3=>?_) (fun k3=>ah ⟨key _ ?_,rfl⟩))
 rotate_left
 ·simp [ar] at k3 ⊢;omega
 refine aa (ai (y6 o.cnt H3 O) rfl ⟨rfl,trivial⟩ fun H4 _=>aj (fun k4=>?_) (fun k4=>ah ⟨key _ ?_,rfl⟩))
 rotate_left
 ·simp [ar] at k4 ⊢;omega
 refine aa (ai (y6 o.pp H4 O) rfl ⟨rfl,trivial⟩ fun H5 _=>aj (fun k5=>?_) (fun k5=>ah ⟨key _ ?_,rfl⟩))
 rotate_left
 ·simp [ar] at k5 ⊢;omega
 refine aa (ai (y6 o.pt H5 O) rfl ⟨rfl,trivial⟩ fun H6 _=>ah ⟨key _ ?_,rfl⟩)
 simp [ar] at k1 k2 k3 k4 k5 ⊢;omega
theorem Ol {vl vh vf vg:Value} (s:St) (hl:vl.oneCell'=true) (hh:vh.oneCell'=true) (hf:vf.oneCell'=true) (hg:vg.oneCell'=true) (H:Heap) (O:Own) :
  RetO PP om [.agg (Nf vl vh vf vg s).toArray] H O (.bool (bW s)):=by
 refine tP (vs:=Nf vl vh vf vg s) (by kernel_rfl) ⟨rfl,rfl,rfl,rfl,rfl,hl,hh,hf,hg,rfl,rfl,rfl,rfl,rfl,trivial⟩ ?_
 simp only [ju]
 have key:∀ (x:Bool),(x=true ↔ ((0≤s.life∧s.life≤9999)∧(0≤s.p0∧s.p0≤99)∧(0≤s.p1∧s.p1≤99)∧(0≤s.p2∧s.p2≤99)∧(0≤s.p3∧s.p3≤99)∧(0≤s.mull∧s.mull≤7)∧(0≤s.acts∧s.acts≤255)))→(Value.bool x:Value)=.bool (bW s):=by
  intro x hx
  refine Hl ?_
  rw [hx]
  simp only [bW,ar,List.all_cons,List.all_nil,Bool.and_true,Bool.and_eq_true,decide_eq_true_eq]
  omega
 refine af fun _=>aa (ab _ (aI _ _) (ae (ab _ (aI _ _) (ae (ab _ (aR _ _) ?_)))))
 refine aj (fun h1=>ah ⟨key _ ?_,rfl⟩) (fun h1=>?_)
 ·simp at h1 ⊢;omega
 refine ab _ (aI _ _) (ae (ab _ (aI _ _) (ae (ab _ (aR _ _) ?_))))
 refine aj (fun h2=>ah ⟨key _ ?_,rfl⟩) (fun h2=>?_)
 ·simp at h2 ⊢;omega
 refine ab _ (aI _ _) (ae (ab _ (aI _ _) (ae (ab _ (aR _ _) ?_))))
 refine aj (fun h3=>ah ⟨key _ ?_,rfl⟩) (fun h3=>?_)
 ·simp at h3 ⊢;omega
 refine ab _ (aI _ _) (ae (ab _ (aI _ _) (ae (ab _ (aR _ _) ?_))))
 refine aj (fun h4=>ah ⟨key _ ?_,rfl⟩) (fun h4=>?_)
 ·simp at h4 ⊢;omega
 repeat (first | refine aa ?_ | refine ae ?_ | refine af fun _=>?_ | refine ab _ (aI _ _) ?_ | refine ab _ (bH _ _) ?_ | refine ab _ (fh _ _) ?_ | refine ab _ (cZ _ _) ?_ | refine ab _ (az _ _) ?_ | refine ab _ (bd _ _) ?_ | refine ab _ (aX _ _) ?_ | refine ab _ (aR _ _) ?_ | refine ab _ (aM _) ?_ | refine ab _ (wT _ _) ?_ | refine ab _ (ru _ _) ?_)
 refine ah ⟨key _ ?_,rfl⟩
 simp at h1 h2 h3 h4 ⊢;omega
end Go.Proofs.YtdhobpmnkfmcfaaGreatDoor
namespace Go.Proofs.YtdhobpmnkfmcfaaGreatDoor
open Go Go.Sx
set_option maxRecDepth 100000
set_option maxHeartbeats 1000000
abbrev IY (n:Nat) (R:Nat→Value→Heap→Own→Prop):List Value→Heap→Own→Prop:=fun vs H O=>∃ (i:Nat) (x:Value),vs=[x,iV i]∧i≤n∧R i x H O
abbrev MY (n:Nat):List Value→Heap→Own→Nat:=fun vs _ _=>match g vs 1 with | .int _ k=>n - k.toNat | _=>0
theorem dr {P:Program} {lab key:Nat} {x0:Value} {body:(List Value→Heap→Own→Prop)→List Value→Tree} {H:Heap} {O:Own} {Q:Value→Heap→Own→Prop} (n:Nat) (R:Nat→Value→Heap→Own→Prop)
  (h0:R 0 x0 H O) (step:∀ i x H' O',i≤n→Heap.le H H'→R i x H' O'→(body (KA (IY n R) (MY n) (n - i)) [x,iV i]).den P Q H' O') :
  (Tree.loop lab key [x0,.int .i64 0] body).den P Q H O:=by
 refine ji (IY n R) (MY n) ⟨0,x0,rfl,Nat.zero_le _,h0⟩ ?_
 rintro vs H' O' _ _ hle ⟨i,x,rfl,hi,hr⟩
 exact step i x H' O' hi hle hr
theorem aU {P:Program} {lab n i:Nat} {R:Nat→Value→Heap→Own→Prop} {x:Value} {eqs:List (List Value × List Value)} {H:Heap} {O:Own} {Q:Value→Heap→Own→Prop} (he:Eqs eqs) (hi:i < n) (hr:R (i + 1) x H O) :
  (Tree.cont lab (KA (IY n R) (MY n) (n - i)) [x,iV ((i + 1:Nat):Int)] eqs).den P Q H O:=by
 refine eF he ⟨i + 1,x,rfl,hi,hr⟩ ?_
 show n - ((i + 1:Nat):Int).toNat < n - i
 simp;omega
theorem D9 {α:Type} [BEq α] [LawfulBEq α] {l:List α} {i:Nat} (h:i < l.length) (n:α):(l.take (i + 1)).count n=(l.take i).count n + (if l[i] == n then 1 else 0):=by
 rw [List.take_add_one,List.getElem?_eq_getElem h,Option.toList_some,List.count_append,List.count_singleton]
theorem fW {H:Heap} {O:Own} {v:Value} {l:List Int} (h:RSl H O 1 v (aH l)) (n:Int):RetO PP mL [v,iV n] H O (iV ((l.count n:Nat):Int)):=by
 refine sT (vs:=[v,iV n]) (by kernel_rfl) ⟨h.one,rfl,trivial⟩ ?_
 simp only [iM]
 have hlen:=h.len
 rw [aH,List.length_map] at hlen
 have hB:=h.lenB
 simp only [aH,List.length_map] at hB
 refine dr l.length (fun i x H' O'=>O'=O∧Heap.le H H'∧x=iV (((l.take i).count n:Nat):Int)) ⟨rfl,Heap.le_refl H,by simp⟩ ?_
 rintro i x H' O' hi - ⟨rfl,hle,rfl⟩
 have hci:(l.take i).count n≤i:=Nat.le_trans List.count_le_length (by simp;omega)
 refine ab _ hlen (ab _ (aI _ _) (aj (fun hb=>?_) (fun hb=>?_)))
 ·have hlt:i < l.length:=by simpa using hb
  obtain ⟨a,h1,h2,_,h3,h4⟩:=(h.le hle).idx .i64 i [iV l[i]] (by simp [aH,hlt])
  refine ab _ h1 (aq h2 h3 h4 (ab _ (az _ _) (aj (fun hb=>?_) (fun hb=>?_))))
  ·refine ab _ (aD (by omega)) (ab _ (aD (by omega)) (aU (by simp [Eqs]) hlt ⟨rfl,hle,?_⟩))
   rw [D9 hlt,hb];rfl
  ·refine ab _ (aD (by omega)) (aU (by simp [Eqs]) hlt ⟨rfl,hle,?_⟩)
   rw [D9 hlt,hb];rfl
 ·have:l.length≤i:=by simpa using hb
  refine ah ⟨?_,rfl⟩
  rw [List.take_of_length_le this];rfl
def eH (b:Bd) (id:Int):Int:=fY (fun o=>o.id == id) b.objs 0
theorem wv {H:Heap} {O:Own} {v:cX} {b:Bd} (h:BdR H O v b) (id:Int):RetO PP mK [.agg (ap v b).toArray,iV id] H O (iV (eH b id)):=by
 refine sS (vs:=ap v b++[iV id]) (by kernel_rfl) (ay (ao h) ⟨rfl,trivial⟩) ?_
 simp only [iL]
 have lo:=h.objs.len
 have hB:=h.objs.lenB
 rw [List.length_map] at lo hB
 refine af fun r0=>aS b.objs.length (fun i H' O'=>O'=O∧Heap.le H H'∧eH b id=fY (fun o=>o.id == id) (b.objs.drop i) i) ⟨rfl,Heap.le_refl H,by simp [eH]⟩ ?_
 rintro i H' O' hi - ⟨rfl,hle,hor⟩
 refine aa (ab _ lo (ab _ (aI _ _) (aj (fun hb=>?_) (fun hb=>?_))))
 ·have hlt:i < b.objs.length:=by simpa using hb
  obtain ⟨a,h1,h2,h5,h3,h4⟩:=(h.objs.le hle).idx .i64 i (Ob.row b.objs[i]) (by simp [hlt])
  have hr:Reads H' O' (.pointer (some a)) 1 [iV b.objs[i].id]:=by
   have:=h5 0 1 (by omega)
   have e:aT (.pointer (some a)) 0=.pointer (some a):=by simp [aT,Addr.add]
   rwa [e] at this
  refine aa (ab _ h1 (aB rfl (aq hr rfl ⟨rfl,trivial⟩ (ab _ (az _ _) (aj (fun hb=>?_) (fun hb=>?_))))))
  ·refine ah ⟨?_,rfl⟩
   rw [hor,List.drop_eq_getElem_cons hlt,fY,if_pos hb];rfl
  ·refine ab _ (aD (by omega)) (aO (by simp [Eqs]) hlt ⟨rfl,hle,?_⟩)
   rw [hor,List.drop_eq_getElem_cons hlt,fY,if_neg (by rw [hb];simp)];rfl
 ·have hge:b.objs.length≤i:=by simpa using hb
  refine ah ⟨?_,rfl⟩
  rw [hor,List.drop_of_length_le hge];rfl
theorem Ot {H:Heap} {O:Own} {row:List Value} {x:It} (h:ItR H O row x) (q:Bool):RetO PP oq [.agg row.toArray,.bool q] H O (.bool (dk x q)):=by
 obtain ⟨s,rfl,hs⟩:=h
 refine tU (vs:=[iV x.player,iV x.id,iV x.card,iV x.trig,s,.bool q]) (by kernel_rfl) ⟨rfl,rfl,rfl,rfl,hs.one,rfl,trivial⟩ ?_
 simp only [jx]
 have lt:=hs.len
 have hB:=hs.lenB
 rw [List.length_map] at lt hB
 have e4:∀ {k:Value→Tree} {Q:Value→Heap→Own→Prop} {H':Heap} {O':Own},(k (iV x.tgs.length)).den PP Q H' O'→(Tree.pure [] .len [g [iV x.player,iV x.id,iV x.card,iV x.trig,s,Value.bool q] 4] k).den PP Q H' O':=fun hk=>ab _ lt hk
 repeat (first | refine aa ?_ | refine ae ?_ | refine af fun _=>?_ | refine ab _ (aI _ _) ?_ | refine ab _ (bH _ _) ?_ | refine ab _ (fh _ _) ?_ | refine ab _ (cZ _ _) ?_ | refine ab _ (az _ _) ?_ | refine ab _ (bd _ _) ?_ | refine ab _ (aX _ _) ?_ | refine ab _ (aR _ _) ?_ | refine ab _ (aM _) ?_ | refine ab _ (wT _ _) ?_ | refine ab _ (ru _ _) ?_)
 refine e4 ?_
 refine ae (ab _ (aI _ _) (ae (ab _ (aR _ _) ?_)))
 have fiff:dk x q=true ↔ (0≤x.player∧x.player≤1)∧(1≤x.id∧x.id≤500)∧(0≤x.card∧x.card≤399)∧(-1≤x.trig∧x.trig≤1)∧(x.tgs.length≤4∧¬ (0≤x.trig∧0 < x.tgs.length)∧¬ (q=true∧x.trig < 0))∧(x.tgs.any fun t=>!km t)=false:=by
  simp only [dk,ar,Bool.and_eq_true,Bool.not_eq_true',Bool.or_eq_false_iff,Bool.and_eq_false_iff,decide_eq_true_eq,decide_eq_false_iff_not]
  generalize (x.tgs.any fun t=>!km t)=c
  cases q <;> simp only [Bool.false_eq_true,false_and,true_and,not_false_eq_true,and_true,reduceCtorEq,or_false,false_or,true_or] <;> constructor <;> intro e <;> (try obtain ⟨e1,e2,e3,e4,e5,e6⟩:=e) <;> (try refine ⟨?_,?_,?_,?_,?_,?_⟩) <;> first | omega | assumption
 refine aj (fun h1=>ah ⟨Hl ?_,rfl⟩) (fun h1=>?_)
 ·rw [fiff]
  simp only [Bool.or_eq_true,decide_eq_true_eq] at h1
  refine ⟨fun e=>(by cases e),fun ⟨e1,e2,e3,e4,e5,e6⟩=>?_⟩
  omega
 simp only [Bool.or_eq_false_iff,decide_eq_false_iff_not] at h1
 refine aa (ab _ (fh _ _) (aa (ae (ae ?_))))
 refine e4 ?_
 refine ae (ab _ (aI _ _) (ae (ab _ (aX _ _) (ae (aa (ae (ae (ae (ae (ab _ (aI _ _) (ae (ae (ae (ab _ (aX _ _) (ae (ab _ (aR _ _) ?_))))))))))))))))
 refine aj (fun h2=>ah ⟨Hl ?_,rfl⟩) (fun h2=>?_)
 ·rw [fiff]
  simp only [Bool.or_eq_true,Bool.and_eq_true,decide_eq_true_eq] at h2
  refine ⟨fun e=>(by cases e),fun ⟨e1,e2,e3,e4,⟨e5,e6,e7⟩,e8⟩=>?_⟩
  rcases h2 with h2 | h2
  ·omega
  ·exact absurd h2 e7
 simp only [Bool.or_eq_false_iff,Bool.and_eq_false_iff,decide_eq_false_iff_not] at h2
 have hfin:(Value.bool (!(x.tgs.any fun t=>!km t)):Value)=.bool (dk x q):=by
  refine Hl ?_
  rw [fiff,Bool.not_eq_true']
  refine ⟨fun e=>⟨by omega,by omega,by omega,by omega,⟨by omega,by omega,fun e'=>?_⟩,e⟩,fun e=>e.2.2.2.2.2⟩
  rcases h2.2 with h3 | h3
  ·rw [h3] at e';cases e'.1
  ·exact h3 e'.2
 refine aS x.tgs.length (fun i H' O'=>O'=O∧Heap.le H H'∧(x.tgs.any fun t=>!km t)=((x.tgs.drop i).any fun t=>!km t)) ⟨rfl,Heap.le_refl H,rfl⟩ ?_
 rintro i H' O' hi - ⟨rfl,hle,hor⟩
 refine aa (e4 (ab _ (aI _ _) (aj (fun hb=>?_) (fun hb=>?_))))
 ·have hlt:i < x.tgs.length:=by simpa using hb
  obtain ⟨a,k1,k2,_,k3,k4⟩:=(hs.le hle).idx .i64 i (Tg.row x.tgs[i]) (by simp [hlt])
  refine aa (ab _ k1 (aq k2 k3 k4 ?_))
  repeat (first | refine aa ?_ | refine ae ?_ | refine af fun _=>?_ | refine ab _ (aI _ _) ?_ | refine ab _ (bH _ _) ?_ | refine ab _ (fh _ _) ?_ | refine ab _ (cZ _ _) ?_ | refine ab _ (az _ _) ?_ | refine ab _ (bd _ _) ?_ | refine ab _ (aX _ _) ?_ | refine ab _ (aR _ _) ?_ | refine ab _ (aM _) ?_ | refine ab _ (wT _ _) ?_ | refine ab _ (ru _ _) ?_)
  have hst:((x.tgs.drop i).any fun t=>!km t)=(!km x.tgs[i] || ((x.tgs.drop (i + 1)).any fun t=>!km t)):=by rw [List.drop_eq_getElem_cons hlt,List.any_cons]
  refine aj (fun hb=>ah ⟨?_,rfl⟩) (fun hb=>?_)
  ·have:km x.tgs[i]=false:=by simp [km,ar] at hb ⊢;omega
   rw [← hfin,hor,hst,this];rfl
  ·have:km x.tgs[i]=true:=by simp [km,ar] at hb ⊢;omega
   refine ab _ (aD (by omega)) (aO (by simp [Eqs]) hlt ⟨rfl,hle,?_⟩)
   rw [hor,hst,this];rfl
 ·have hge:x.tgs.length≤i:=by simpa using hb
  refine ah ⟨?_,rfl⟩
  rw [← hfin,hor,List.drop_of_length_le hge];rfl
end Go.Proofs.YtdhobpmnkfmcfaaGreatDoor
namespace Go.Proofs.YtdhobpmnkfmcfaaGreatDoor
open Go Go.Sx
set_option maxRecDepth 100000
set_option maxHeartbeats 1000000
def QK (s:St):Prop:=s.lib.length≤100000∧s.hand.length≤100000∧s.field.length≤100000∧s.grave.length≤100000
def FG (b:Bd):Prop:=QK b.s0∧QK b.s1∧b.stack.length≤100000
def ka (p id:Int) (x:It):Bool:=(x.trig == -1 && x.id == id) && x.player == p
def tH (s:St) (id:Int):Nat:=((s.lib.count id + s.hand.count id) + s.field.count id) + s.grave.count id
def uj (b:Bd) (p id:Int):Nat:=(if p=0 then tH b.s0 id else tH b.s1 id) + b.stack.countP (ka p id)
theorem lk {α:Type} {l:List α} {i:Nat} (h:i < l.length) (p:α→Bool):(l.take (i + 1)).countP p=(l.take i).countP p + (if p l[i] then 1 else 0):=by
 rw [List.take_add_one,List.getElem?_eq_getElem h,Option.toList_some,List.countP_append,List.countP_singleton]
theorem FI {n:Nat} (h:n < 2 ^ 63):al (.bin .add .int) [iV 0,iV (n:Int)]=some (iV (n:Int)):=by
 have:=gX (i:=0) (n:=n) (by omega)
 simpa using this
theorem No {H:Heap} {O:Own} {v:cX} {b:Bd} (h:BdR H O v b) (hfit:FG b) {p:Int} (hp:p=0∨p=1) (id:Int) :
  RetO PP lX [.agg (ap v b).toArray,iV p,iV id] H O (iV ((uj b p id:Nat):Int)):=by
 refine qO (vs:=ap v b++[iV p,iV id]) (by kernel_rfl) (ay (ao h) ⟨rfl,rfl,trivial⟩) ?_
 simp only [gZ]
 obtain ⟨⟨f1,f2,f3,f4⟩,⟨f5,f6,f7,f8⟩,f9⟩:=hfit
 refine af fun r0=>?_
 have e38:g (ap v b++[iV p,iV id]) 38=iV p:=rfl
 rw [e38]
 rcases hp with rfl | rfl
 ·refine ⟨.i64,0,rfl,fun _=>?_,fun e=>absurd rfl e⟩
  obtain ⟨z1,z2,z3,z4⟩:=eV h.s0
  have c1:b.s0.lib.count id≤b.s0.lib.length:=List.count_le_length
  have c2:b.s0.hand.count id≤b.s0.hand.length:=List.count_le_length
  have c3:b.s0.field.count id≤b.s0.field.length:=List.count_le_length
  have c4:b.s0.grave.count id≤b.s0.grave.length:=List.count_le_length
  refine aa (ai (jV b.s0 z1 z2 z3 z4 H O) rfl ⟨z1,z2,z3,z4,trivial⟩ fun H1 l1=>?_)
  replace h:=h.le l1
  refine ai (fW h.s0.lib id) rfl ⟨rfl,trivial⟩ fun H2 l2=>ab _ (FI (by omega)) ?_
  replace h:=h.le l2
  refine ai (fW h.s0.hand id) rfl ⟨rfl,trivial⟩ fun H3 l3=>ab _ (gX (by omega)) ?_
  replace h:=h.le l3
  refine ai (fW h.s0.field id) rfl ⟨rfl,trivial⟩ fun H4 l4=>ab _ (gX (by omega)) ?_
  replace h:=h.le l4
  refine ai (fW h.s0.grave id) rfl ⟨rfl,trivial⟩ fun H5 l5=>ab _ (gX (by omega)) ?_
  replace h:=h.le l5
  have hz:((b.s0.lib.count id + b.s0.hand.count id) + b.s0.field.count id) + b.s0.grave.count id=tH b.s0 id:=rfl
  have hzb:tH b.s0 id≤400000:=by unfold tH;omega
  rw [hz]
  obtain ⟨rows,hrs,hrl,hit⟩:=h.stack
  have hsl:al .len [v.s]=some (iV b.stack.length):=ItsR.len h.stack
  refine dr b.stack.length (fun i x H' O'=>O'=O∧Heap.le H5 H'∧x=iV ((tH b.s0 id + (b.stack.take i).countP (ka 0 id):Nat):Int)) ⟨rfl,Heap.le_refl _,by simp⟩ ?_
  rintro i x H' O' hi - ⟨rfl,hle,rfl⟩
  have hci:(b.stack.take i).countP (ka 0 id)≤i:=Nat.le_trans List.countP_le_length (by simp;omega)
  refine aa (ab _ hsl (ab _ (aI _ _) (aj (fun hb=>?_) (fun hb=>?_))))
  ·have hlt:i < b.stack.length:=by simpa using hb
   obtain ⟨a,h1,h2,_,h3,h4⟩:=(hrs.le hle).idx .i64 i rows[i] (by simp [hrl,hlt])
   obtain ⟨s,hrow,_⟩:=hit i rows[i] b.stack[i] (by simp [hrl,hlt]) (by simp [hlt])
   rw [hrow] at h2 h3 h4
   refine aa (ab _ h1 (aq h2 h3 h4 ?_))
   refine af fun _=>aa (aa (ab _ (az _ _) (aa (ae (ae (ae (ab _ (az _ _) (ae (ab _ (aX _ _) (aa (ae (ae (ae (ab _ (az _ _) (ae (ab _ (aX _ _) ?_))))))))))))))))
   refine aj (fun hb=>?_) (fun hb=>?_)
   ·refine ab _ (aD (by omega)) (ab _ (aD (by omega)) (aU (by simp [Eqs]) hlt ⟨rfl,hle,?_⟩))
    have:ka 0 id b.stack[i]=true:=hb
    rw [lk hlt,this];rfl
   ·refine ab _ (aD (by omega)) (aU (by simp [Eqs]) hlt ⟨rfl,hle,?_⟩)
    have:ka 0 id b.stack[i]=false:=hb
    rw [lk hlt,this];rfl
  ·have:b.stack.length≤i:=by simpa using hb
   refine ah ⟨?_,rfl⟩
   rw [List.take_of_length_le this];rfl
 ·refine ⟨.i64,1,rfl,fun e=>absurd e (by omega),fun _=>⟨.i64,1,rfl,fun _=>?_,fun e=>absurd rfl e⟩⟩
  obtain ⟨z1,z2,z3,z4⟩:=eV h.s1
  have c1:b.s1.lib.count id≤b.s1.lib.length:=List.count_le_length
  have c2:b.s1.hand.count id≤b.s1.hand.length:=List.count_le_length
  have c3:b.s1.field.count id≤b.s1.field.length:=List.count_le_length
  have c4:b.s1.grave.count id≤b.s1.grave.length:=List.count_le_length
  refine aa (ai (jV b.s1 z1 z2 z3 z4 H O) rfl ⟨z1,z2,z3,z4,trivial⟩ fun H1 l1=>?_)
  replace h:=h.le l1
  refine ai (fW h.s1.lib id) rfl ⟨rfl,trivial⟩ fun H2 l2=>ab _ (FI (by omega)) ?_
  replace h:=h.le l2
  refine ai (fW h.s1.hand id) rfl ⟨rfl,trivial⟩ fun H3 l3=>ab _ (gX (by omega)) ?_
  replace h:=h.le l3
  refine ai (fW h.s1.field id) rfl ⟨rfl,trivial⟩ fun H4 l4=>ab _ (gX (by omega)) ?_
  replace h:=h.le l4
  refine ai (fW h.s1.grave id) rfl ⟨rfl,trivial⟩ fun H5 l5=>ab _ (gX (by omega)) ?_
  replace h:=h.le l5
  have hz:((b.s1.lib.count id + b.s1.hand.count id) + b.s1.field.count id) + b.s1.grave.count id=tH b.s1 id:=rfl
  have hzb:tH b.s1 id≤400000:=by unfold tH;omega
  rw [hz]
  obtain ⟨rows,hrs,hrl,hit⟩:=h.stack
  have hsl:al .len [v.s]=some (iV b.stack.length):=ItsR.len h.stack
  refine dr b.stack.length (fun i x H' O'=>O'=O∧Heap.le H5 H'∧x=iV ((tH b.s1 id + (b.stack.take i).countP (ka 1 id):Nat):Int)) ⟨rfl,Heap.le_refl _,by simp⟩ ?_
  rintro i x H' O' hi - ⟨rfl,hle,rfl⟩
  have hci:(b.stack.take i).countP (ka 1 id)≤i:=Nat.le_trans List.countP_le_length (by simp;omega)
  refine aa (ab _ hsl (ab _ (aI _ _) (aj (fun hb=>?_) (fun hb=>?_))))
  ·have hlt:i < b.stack.length:=by simpa using hb
   obtain ⟨a,h1,h2,_,h3,h4⟩:=(hrs.le hle).idx .i64 i rows[i] (by simp [hrl,hlt])
   obtain ⟨s,hrow,_⟩:=hit i rows[i] b.stack[i] (by simp [hrl,hlt]) (by simp [hlt])
   rw [hrow] at h2 h3 h4
   refine aa (ab _ h1 (aq h2 h3 h4 ?_))
   refine af fun _=>aa (aa (ab _ (az _ _) (aa (ae (ae (ae (ab _ (az _ _) (ae (ab _ (aX _ _) (aa (ae (ae (ae (ab _ (az _ _) (ae (ab _ (aX _ _) ?_))))))))))))))))
   refine aj (fun hb=>?_) (fun hb=>?_)
   ·refine ab _ (aD (by omega)) (ab _ (aD (by omega)) (aU (by simp [Eqs]) hlt ⟨rfl,hle,?_⟩))
    have:ka 1 id b.stack[i]=true:=hb
    rw [lk hlt,this];rfl
   ·refine ab _ (aD (by omega)) (aU (by simp [Eqs]) hlt ⟨rfl,hle,?_⟩)
    have:ka 1 id b.stack[i]=false:=hb
    rw [lk hlt,this];rfl
  ·have:b.stack.length≤i:=by simpa using hb
   refine ah ⟨?_,rfl⟩
   rw [List.take_of_length_le this];rfl
end Go.Proofs.YtdhobpmnkfmcfaaGreatDoor
namespace Go.Proofs.YtdhobpmnkfmcfaaGreatDoor
open Go Go.Sx
set_option maxRecDepth 100000
set_option maxHeartbeats 1000000
theorem lM {α:Type} (p:α→Bool):∀ (l:List α) (i:Int),0≤i→(fY p l i=-1∧∀ x ∈ l,p x=false)∨∃ (k:Nat) (x:α),l[k]?=some x∧p x=true∧fY p l i=i + k
 | [],i,_=>.inl ⟨rfl,by simp⟩
 | a::l,i,h=>by
  simp only [fY]
  by_cases hp:p a=true
  ·right;exact ⟨0,a,rfl,hp,by rw [if_pos hp];simp⟩
  ·rw [if_neg hp]
   rcases lM p l (i + 1) (by omega) with ⟨h1,h2⟩ | ⟨k,x,h1,h2,h3⟩
   ·left
    refine ⟨h1,fun x hx=>?_⟩
    rcases List.mem_cons.1 hx with rfl | hx
    ·simpa using hp
    ·exact h2 x hx
   ·right;exact ⟨k + 1,x,by simpa using h1,h2,by rw [h3];omega⟩
def uy (b:Bd) (i:Int):Int:=(b.objs[i.toNat]?.map (·.card)).getD 0
def oG (b:Bd) (x:It):Bool:=decide (x.trig ≥ 0) || !(decide (eH b x.id < 0) || (uy b (eH b x.id) != x.card))
def sA (x:It):Bool:=!decide (x.trig ≥ 0)
def Fk (b:Bd):Nat:=b.s0.lib.length + b.s0.hand.length + b.s0.field.length + b.s0.grave.length + b.s1.lib.length + b.s1.hand.length + b.s1.field.length + b.s1.grave.length
def oW (b:Bd):Option Int→List Ob→Bool
 | _,[]=>true
 | prev,o::r=>(!(!ba o || jX prev o.id) && (((uj b o.owner o.id:Nat):Int) == 1)) && oW b (some o.id) r
def vU (b:Bd):Bool:=b.stack.all (oG b) && (oW b none b.objs && (((Fk b + b.stack.countP sA:Nat):Int) == (b.objs.length:Int)))
theorem oE {o:Ob} (h:ba o=true):o.owner=0∨o.owner=1:=((pR o).1 h).2.2.2.2.2.2
theorem Pj {H:Heap} {O:Own} {v:cX} {b:Bd} (h:BdR H O v b) (hfit:FG b):RetO PP mF [.agg (ap v b).toArray] H O (.bool (vU b)):=by
 refine sN (vs:=ap v b) (by kernel_rfl) (ao h) ?_
 simp only [iG]
 have hfit':=hfit
 obtain ⟨⟨f1,f2,f3,f4⟩,⟨f5,f6,f7,f8⟩,f9⟩:=hfit
 have len1:∀ {H':Heap} {O':Own} {w:Value} {l:List Int},RSl H' O' 1 w (aH l)→al .len [w]=some (iV l.length):=fun h=>by have:=h.len;rwa [aH,List.length_map] at this
 obtain ⟨z1,z2,z3,z4⟩:=eV h.s0
 obtain ⟨z5,z6,z7,z8⟩:=eV h.s1
 refine af fun r0=>aa (ai (jV b.s0 z1 z2 z3 z4 H O) rfl ⟨z1,z2,z3,z4,trivial⟩ fun H1 l1=>?_)
 replace h:=h.le l1
 refine ab _ (len1 h.s0.lib) (ab _ (FI (by omega)) (ab _ (len1 h.s0.hand) (ab _ (gX (by omega)) (ab _ (len1 h.s0.field) (ab _ (gX (by omega)) (ab _ (len1 h.s0.grave) (ab _ (gX (by omega)) ?_)))))))
 refine aa (ai (jV b.s1 z5 z6 z7 z8 H1 O) rfl ⟨z5,z6,z7,z8,trivial⟩ fun H2 l2=>?_)
 replace h:=h.le l2
 refine ab _ (len1 h.s1.lib) (ab _ (gX (by omega)) (ab _ (len1 h.s1.hand) (ab _ (gX (by omega)) (ab _ (len1 h.s1.field) (ab _ (gX (by omega)) (ab _ (len1 h.s1.grave) (ab _ (gX (by omega)) ?_)))))))
 have hz:b.s0.lib.length + b.s0.hand.length + b.s0.field.length + b.s0.grave.length + b.s1.lib.length + b.s1.hand.length + b.s1.field.length + b.s1.grave.length=Fk b:=rfl
 have hzb:Fk b≤800000:=by unfold Fk;omega
 rw [hz]
 have hsl:al .len [v.s]=some (iV b.stack.length):=ItsR.len h.stack
 have stk:=h.stack
 obtain ⟨rows,hrs,hrl,hit⟩:=stk
 have lo:=h.objs.len
 have lob:=h.objs.lenB
 rw [List.length_map] at lo lob
 refine dr b.stack.length (fun i x H' O'=>O'=O∧Heap.le H2 H'∧x=iV ((Fk b + (b.stack.take i).countP sA:Nat):Int)∧b.stack.all (oG b)=(b.stack.drop i).all (oG b)) ⟨rfl,Heap.le_refl _,by simp,rfl⟩ ?_
 rintro i x H' O' hi - ⟨rfl,hle,rfl,hor⟩
 have hci:(b.stack.take i).countP sA≤i:=Nat.le_trans List.countP_le_length (by simp;omega)
 refine aa (ab _ hsl (ab _ (aI _ _) (aj (fun hb=>?_) (fun hb=>?_))))
 ·have hlt:i < b.stack.length:=by simpa using hb
  obtain ⟨a,h1,h2,_,h3,h4⟩:=(hrs.le hle).idx .i64 i rows[i] (by simp [hrl,hlt])
  obtain ⟨s,hrow,_⟩:=hit i rows[i] b.stack[i] (by simp [hrl,hlt]) (by simp [hlt])
  rw [hrow] at h2 h3 h4
  have hst:(b.stack.drop i).all (oG b)=(oG b b.stack[i] && (b.stack.drop (i + 1)).all (oG b)):=by rw [List.drop_eq_getElem_cons hlt,List.all_cons]
  refine aa (ab _ h1 (aq h2 h3 h4 ?_))
  refine af fun _=>aa (aa (ab _ (fh _ _) ?_))
  refine aj (fun hb=>?_) (fun hb=>?_)
  ·refine ab _ (aD (by omega)) (aU (by simp [Eqs]) hlt ⟨rfl,hle,?_,?_⟩)
   ·have:sA b.stack[i]=false:=by simp only [sA,hb,Bool.not_true]
    rw [lk hlt,this];rfl
   ·rw [hor,hst]
    have:oG b b.stack[i]=true:=by simp only [oG,hb,Bool.true_or]
    rw [this,Bool.true_and]
  ·refine ab _ (aD (by omega)) (aa (aa (ai (wv (h.le hle) b.stack[i].id) rfl ⟨rfl,trivial⟩ fun H3 l3=>ab _ (aI _ _) ?_)))
   refine aa (ae (ae (ae ?_)))
   have hpv:∃ pv:Value,pv.oneCell'=true∧(¬ (eH b b.stack[i].id < 0)→al (.idx 12) [v.o,iV (eH b b.stack[i].id)]=some pv∧Fn pv=true∧Reads H3 O' (aT pv 1) 1 [iV (uy b (eH b b.stack[i].id))]):=by
    rcases lM (fun o=>o.id == b.stack[i].id) b.objs 0 (by omega) with ⟨e,_⟩ | ⟨k,o,e1,_,e3⟩
    ·refine ⟨iV 0,rfl,fun hn=>?_⟩
     exfalso;apply hn
     show eH b b.stack[i].id < 0
     unfold eH;omega
    ·have e3:eH b b.stack[i].id=(k:Int):=by unfold eH;omega
     obtain ⟨a,k1,k2,k3,_⟩:=((h.objs.le (Heap.le_trans hle l3))).idx .i64 k (Ob.row o) (by rw [List.getElem?_map,e1];rfl)
     refine ⟨.pointer (some a),rfl,fun _=>⟨by rw [e3];exact k1,rfl,?_⟩⟩
     have:=k3 1 1 (by omega)
     rw [e3]
     have ec:uy b (k:Int)=o.card:=by simp [uy,e1]
     rw [ec];exact this
   obtain ⟨pv,hpone,hpv⟩:=hpv
   have hon:On [((.bool (decide (eH b b.stack[i].id < 0)):Value),false)]→¬ (eH b b.stack[i].id < 0):=fun h=>by
    have:=h.1
    simp at this
    omega
   refine ⟨pv,fun ho=>(hpv (hon ho)).1,.inr hpone,?_⟩
   refine ⟨fun ho=>(hpv (hon ho)).2.1,?_⟩
   refine ae (ae ?_)
   refine ⟨[iV (uy b (eH b b.stack[i].id))],rfl,⟨rfl,trivial⟩,fun ho=>(hpv (hon ho)).2.2,?_⟩
   refine aa (ae (ae (ae (ab _ (bd _ _) (ae (ab _ (aR _ _) ?_))))))
   have hsi:oG b b.stack[i]=!(decide (eH b b.stack[i].id < 0) || (uy b (eH b b.stack[i].id) != b.stack[i].card)):=by simp only [oG,hb,Bool.false_or]
   refine aj (fun hc=>ah ⟨?_,rfl⟩) (fun hc=>?_)
   ·have:b.stack.all (oG b)=false:=by rw [hor,hst,hsi,show (decide (eH b b.stack[i].id < 0) || (uy b (eH b b.stack[i].id) != b.stack[i].card))=true from hc];rfl
    rw [vU,this];rfl
   ·refine ab _ (aD (by omega)) (aU (by simp [Eqs]) hlt ⟨rfl,Heap.le_trans hle l3,?_,?_⟩)
    ·have:sA b.stack[i]=true:=by simp only [sA,hb,Bool.not_false]
     rw [lk hlt,this];rfl
    ·rw [hor,hst,hsi,show (decide (eH b b.stack[i].id < 0) || (uy b (eH b b.stack[i].id) != b.stack[i].card))=false from hc];rfl
 ·have hge:b.stack.length≤i:=by simpa using hb
  rw [List.take_of_length_le hge] at hci ⊢
  rw [List.drop_of_length_le hge] at hor
  have hfr:vU b=(oW b none b.objs && (((Fk b + b.stack.countP sA:Nat):Int) == (b.objs.length:Int))):=by rw [vU,hor];rfl
  replace h:=h.le hle
  refine aS b.objs.length (fun i H'' O''=>O''=O'∧Heap.le H' H''∧oW b none b.objs=oW b (nH b.objs i) (b.objs.drop i)) ⟨rfl,Heap.le_refl _,by simp [nH]⟩ ?_
  rintro j H'' O'' hj - ⟨rfl,hle2,hor2⟩
  refine aa (ab _ lo (ab _ (aI _ _) (aj (fun hb=>?_) (fun hb=>?_))))
  ·have hlt:j < b.objs.length:=by simpa using hb
   obtain ⟨a,h1,h2,_,h3,h4⟩:=(h.objs.le hle2).idx .i64 j (Ob.row b.objs[j]) (by simp [hlt])
   refine aa (ab _ h1 (aq h2 h3 h4 (af fun r2=>aa (aa (ai (DR b.objs[j] H'' O'') rfl ⟨rfl,trivial⟩ fun H4 l4=>?_)))))
   have l4':=Heap.le_trans hle2 l4
   have hp:∃ (pv:Value) (x:Int),pv.oneCell'=true∧(0 < j→al (.idx 12) [v.o,iV ((j:Int) - 1)]=some pv∧Fn pv=true∧Reads H4 O'' pv 1 [iV x])∧jX (nH b.objs j) b.objs[j].id=(decide ((j:Int) > 0) && decide (x ≥ b.objs[j].id)):=by
    rcases Nat.eq_zero_or_pos j with rfl | hpos
    ·exact ⟨iV 0,0,rfl,fun h=>absurd h (Nat.lt_irrefl 0),by simp [nH,jX]⟩
    ·obtain ⟨j',rfl⟩:∃ j',j=j' + 1:=⟨j - 1,by omega⟩
     have hj':j' < b.objs.length:=by omega
     obtain ⟨a,k1,k2,k3,_⟩:=(h.objs.le l4').idx .i64 j' (Ob.row b.objs[j']) (by simp [hj'])
     refine ⟨.pointer (some a),b.objs[j'].id,rfl,fun _=>⟨?_,rfl,?_⟩,?_⟩
     ·have e:((j' + 1:Nat):Int) - 1=(j':Int):=by omega
      rw [e];exact k1
     ·have:=k3 0 1 (by omega)
      have e:aT (.pointer (some a)) 0=.pointer (some a):=by simp [aT,Addr.add]
      rwa [e] at this
     ·rw [xO hj']
      have:((j' + 1:Nat):Int) > 0:=by omega
      simp only [jX,this,decide_true,Bool.true_and]
   obtain ⟨pv,x,hpone,hpv,hprev⟩:=hp
   have hsub1:al (.bin .sub .int) [iV j,iV 1]=some (iV ((j:Int) - 1)):=by
    simp only [al,fu,eL,if_true]
    rw [gJ (by omega) (by omega)]
   have hon:∀ {u:Bool},On [((.bool (decide ((j:Int) > 0)):Value),true),(.bool u,false)]→0 < j:=fun h=>by
    have:=h.1
    simp at this
    omega
   refine ab _ (aM _) (ae (ab _ (bH _ _) ?_))
   repeat (first | refine aa ?_ | refine ae ?_ | refine ab _ hsub1 ?_)
   refine ⟨pv,fun ho=>(hpv (hon ho)).1,.inr hpone,?_⟩
   refine ⟨fun ho=>(hpv (hon ho)).2.1,?_⟩
   refine ae (ae (ae (ae ?_)))
   refine ⟨[iV x],rfl,⟨rfl,trivial⟩,fun ho=>(hpv (hon ho)).2.2,?_⟩
   refine aa (ae (ae (ae (ae (ae (ae (ab _ (fh _ _) (ae (ae (ae (ab _ (aX _ _) (ae (ab _ (aR _ _) ?_)))))))))))))
   have hstep:oW b (nH b.objs j) (b.objs.drop j)=((!(!ba b.objs[j] || jX (nH b.objs j) b.objs[j].id) && (((uj b b.objs[j].owner b.objs[j].id:Nat):Int) == 1)) && oW b (some b.objs[j].id) (b.objs.drop (j + 1))):=by
    rw [List.drop_eq_getElem_cons hlt,oW]
   refine aj (fun hc=>ah ⟨?_,rfl⟩) (fun hc=>?_)
   ·rw [hfr,hor2,hstep,hprev,show (!ba b.objs[j] || (decide ((j:Int) > 0) && decide (x ≥ b.objs[j].id)))=true from hc];rfl
   have hc':(!ba b.objs[j] || (decide ((j:Int) > 0) && decide (x ≥ b.objs[j].id)))=false:=hc
   have hval:ba b.objs[j]=true:=by
    have:=(Bool.or_eq_false_iff.1 hc').1
    simpa using this
   refine aa (aa (aa (ai (No (h.le l4') hfit' (oE hval) b.objs[j].id) rfl ⟨rfl,trivial⟩ fun H5 l5=>ab _ (bd _ _) (aj (fun hd=>ah ⟨?_,rfl⟩) (fun hd=>?_)))))
   ·have:(((uj b b.objs[j].owner b.objs[j].id:Nat):Int) == 1)=false:=by simpa using hd
    rw [hfr,hor2,hstep,this];simp
   ·have:(((uj b b.objs[j].owner b.objs[j].id:Nat):Int) == 1)=true:=by simpa using hd
    refine ab _ (aD (by omega)) (aO (by simp [Eqs]) hlt ⟨rfl,Heap.le_trans l4' l5,?_⟩)
    rw [hor2,hstep,hprev,hc',this,xO hlt];rfl
  ·have hge:b.objs.length≤j:=by simpa using hb
   rw [List.drop_of_length_le hge] at hor2
   refine aa (ab _ lo (ab _ (az _ _) (ah ⟨?_,rfl⟩)))
   rw [hfr,hor2];rfl
end Go.Proofs.YtdhobpmnkfmcfaaGreatDoor
namespace Go.Proofs.YtdhobpmnkfmcfaaGreatDoor
open Go Go.Sx
set_option maxRecDepth 100000
set_option maxHeartbeats 1000000
def DX (own att:List Int) (x:Int):Bool:=((((att.count x:Nat):Int) == 1) && (((own.count x:Nat):Int) == 1))
def kS (x y:Bl):Bool:=(y.attacker == x.attacker) || (y.blocker == x.blocker)
def sC (att other:List Int) (done:List Bl) (x:Bl):Bool:=(((att.count x.attacker:Nat):Int) == 1) && ((((other.count x.blocker:Nat):Int) == 1) && done.all fun y=>!kS x y)
def FS (att other:List Int):List Bl→List Bl→Bool
 | _,[]=>true
 | done,x::r=>sC att other done x && FS att other (done++[x]) r
def vq (own other att:List Int) (bl:List Bl):Bool:=att.all (DX own att) && FS att other [] bl
def iq (b:Bd):Bool:=if b.active=0 then vq b.s0.field b.s1.field b.att b.blocks else vq b.s1.field b.s0.field b.att b.blocks
theorem jQ {l:List Int} {x:Int} {c:Bool} (h:(((l.count x:Nat):Int) != 1)=c):(((l.count x:Nat):Int) == 1)=!c:=by rw [← h,bne,Bool.not_not]
theorem Np {H:Heap} {O:Own} {v:cX} {b:Bd} (h:BdR H O v b) (ha:b.active=0∨b.active=1):RetO PP lY [.agg (ap v b).toArray] H O (.bool (iq b)):=by
 refine qP (vs:=ap v b) (by kernel_rfl) (ao h) ?_
 simp only [hJ]
 have e34:g (ap v b) 34=iV b.active:=rfl
 rw [e34]
 have hs:∀ n:Int,n=0∨n=1→al (.bin .sub .int) [iV 1,iV n]=some (iV (1 - n)):=by
  rintro n (rfl | rfl) <;> rfl
 have la:=h.att.len
 have laB:=h.att.lenB
 have lb:=h.blocks.len
 have lbB:=h.blocks.lenB
 simp only [aH,List.length_map] at la laB lb lbB
 rcases ha with ha | ha
 ·rw [ha]
  have hF:iq b=(b.att.all (DX b.s0.field b.att) && FS b.att b.s1.field [] b.blocks):=by simp [iq,vq,ha]
  refine af fun r0=>aS b.att.length (fun i H' O'=>O'=O∧Heap.le H H'∧b.att.all (DX b.s0.field b.att)=(b.att.drop i).all (DX b.s0.field b.att)) ⟨rfl,Heap.le_refl H,rfl⟩ ?_
  rintro i H' O' hi - ⟨rfl,hle,hor⟩
  refine aa (ab _ la (ab _ (aI _ _) (aj (fun hb=>?_) (fun hb=>?_))))
  ·have hlt:i < b.att.length:=by simpa using hb
   have hst:(b.att.drop i).all (DX b.s0.field b.att)=(DX b.s0.field b.att b.att[i] && (b.att.drop (i + 1)).all (DX b.s0.field b.att)):=by rw [List.drop_eq_getElem_cons hlt,List.all_cons]
   obtain ⟨a,h1,h2,_,h3,h4⟩:=(h.att.le hle).idx .i64 i [iV b.att[i]] (by simp [aH,hlt])
   refine aa (aa (ab _ h1 (aq h2 h3 h4 (ai (fW (h.att.le hle) b.att[i]) rfl ⟨rfl,trivial⟩ fun H1 l1=>ab _ (bd _ _) (aj (fun hc=>ah ⟨?_,rfl⟩) (fun hc=>aa ?_))))))
   ·rw [hF,hor,hst,DX,jQ hc];rfl
   refine ⟨.i64,0,rfl,fun _=>?_,fun e=>absurd rfl e⟩
   have l1':=Heap.le_trans hle l1
   obtain ⟨a,h1,h2,_,h3,h4⟩:=(h.att.le l1').idx .i64 i [iV b.att[i]] (by simp [aH,hlt])
   refine aa (aa (ab _ h1 (aq h2 h3 h4 (ai (fW (h.s0.field.le l1') b.att[i]) rfl ⟨rfl,trivial⟩ fun H2 l2=>ab _ (bd _ _) (aj (fun hd=>ah ⟨?_,rfl⟩) (fun hd=>?_))))))
   ·rw [hF,hor,hst,DX,jQ hc,jQ hd];rfl
   ·refine ab _ (aD (by omega)) (aO (by simp [Eqs]) hlt ⟨rfl,Heap.le_trans l1' l2,?_⟩)
    rw [hor,hst,DX,jQ hc,jQ hd];rfl
  ·have hge:b.att.length≤i:=by simpa using hb
   rw [List.drop_of_length_le hge] at hor
   have hF2:iq b=FS b.att b.s1.field [] b.blocks:=by rw [hF,hor];rfl
   refine aS b.blocks.length (fun j H'' O''=>O''=O'∧Heap.le H' H''∧FS b.att b.s1.field [] b.blocks=FS b.att b.s1.field (b.blocks.take j) (b.blocks.drop j)) ⟨rfl,Heap.le_refl _,rfl⟩ ?_
   rintro j H'' O'' hj - ⟨rfl,hle2,hor2⟩
   have hle2:=Heap.le_trans hle hle2
   refine aa (ab _ lb (ab _ (aI _ _) (aj (fun hb=>?_) (fun hb=>?_))))
   ·have hlt:j < b.blocks.length:=by simpa using hb
    obtain ⟨a,h1,h2,_,h3,h4⟩:=(h.blocks.le hle2).idx .i64 j (Bl.row b.blocks[j]) (by simp [hlt])
    have hst:FS b.att b.s1.field (b.blocks.take j) (b.blocks.drop j)=(sC b.att b.s1.field (b.blocks.take j) b.blocks[j] && FS b.att b.s1.field (b.blocks.take (j + 1)) (b.blocks.drop (j + 1))):=by
     rw [List.drop_eq_getElem_cons hlt,FS,List.take_add_one,List.getElem?_eq_getElem hlt];rfl
    refine aa (ab _ h1 (aq h2 h3 h4 (af fun r1=>aa (aa (aa (ai (fW (h.att.le hle2) b.blocks[j].attacker) rfl ⟨rfl,trivial⟩ fun H1 l1=>ab _ (bd _ _) (aj (fun hc=>ah ⟨?_,rfl⟩) (fun hc=>aa (ab _ (hs _ (.inl rfl)) ?_)))))))))
    ·rw [hF2,hor2,hst,sC,jQ hc];rfl
    refine ⟨.i64,1,rfl,fun e=>absurd e (by omega),fun _=>⟨.i64,1,rfl,fun _=>?_,fun e=>absurd rfl e⟩⟩
    have l1':=Heap.le_trans hle2 l1
    refine aa (aa (ai (fW (h.s1.field.le l1') b.blocks[j].blocker) rfl ⟨rfl,trivial⟩ fun H2 l2=>ab _ (bd _ _) (aj (fun hd=>ah ⟨?_,rfl⟩) (fun hd=>?_))))
    ·rw [hF2,hor2,hst,sC,jQ hc,jQ hd];rfl
    have l2':=Heap.le_trans l1' l2
    have hone:sC b.att b.s1.field (b.blocks.take j) b.blocks[j]=(b.blocks.take j).all fun y=>!kS b.blocks[j] y:=by rw [sC,jQ hc,jQ hd];rfl
    refine aS j (fun k H3 O3=>O3=O''∧Heap.le H2 H3∧((b.blocks.take j).all fun y=>!kS b.blocks[j] y)=(((b.blocks.take j).drop k).all fun y=>!kS b.blocks[j] y)) ⟨rfl,Heap.le_refl _,rfl⟩ ?_
    rintro k H3 O3 hk - ⟨rfl,hle3,hor3⟩
    have hle3:=Heap.le_trans l2' hle3
    refine ab _ (aI _ _) (aj (fun hb=>?_) (fun hb=>?_))
    ·have hltk:k < j:=by simpa using hb
     have hltb:k < b.blocks.length:=by omega
     have hst3:(((b.blocks.take j).drop k).all fun y=>!kS b.blocks[j] y)=(!kS b.blocks[j] b.blocks[k] && (((b.blocks.take j).drop (k + 1)).all fun y=>!kS b.blocks[j] y)):=by
      rw [List.drop_eq_getElem_cons (by simp;omega),List.all_cons,List.getElem_take]
     obtain ⟨a,k1,_,k3,_⟩:=(h.blocks.le hle3).idx .i64 k (Bl.row b.blocks[k]) (by simp [hltb])
     have hr1:Reads H3 O3 (aT (.pointer (some a)) 1) 1 [iV b.blocks[k].attacker]:=k3 1 1 (by omega)
     have hr0:Reads H3 O3 (.pointer (some a)) 1 [iV b.blocks[k].blocker]:=by
      have:=k3 0 1 (by omega)
      have e:aT (.pointer (some a)) 0=.pointer (some a):=by simp [aT,Addr.add]
      rwa [e] at this
     refine aa (ab _ k1 (aB rfl (aq hr1 rfl ⟨rfl,trivial⟩ (aa (ab _ (az _ _) ?_)))))
     refine aa (ae (ae (ae ?_)))
     refine xN k1 rfl (aB rfl ?_)
     refine ae (ae ?_)
     refine ⟨[iV b.blocks[k].blocker],rfl,⟨rfl,trivial⟩,fun _=>hr0,?_⟩
     refine aa (ae (ae (ae (ab _ (az _ _) (ae (ab _ (aR _ _) ?_))))))
     refine aj (fun hx=>ah ⟨?_,rfl⟩) (fun hx=>?_)
     ·rw [hF2,hor2,hst,hone,hor3,hst3,show kS b.blocks[j] b.blocks[k]=true from hx];rfl
     ·refine ab _ (aD (by omega)) (aO (by simp [Eqs]) hltk ⟨rfl,Heap.le_trans (Heap.le_refl _) ?_,?_⟩)
      ·assumption
      ·rw [hor3,hst3,show kS b.blocks[j] b.blocks[k]=false from hx];rfl
    ·have hke:(b.blocks.take j).length≤k:=by
      have:j≤k:=by simpa using hb
      simp;omega
     rw [List.drop_of_length_le hke] at hor3
     refine ab _ (aD (by omega)) (aO (by simp [Eqs]) hlt ⟨rfl,?_,?_⟩)
     ·exact Heap.le_trans (by assumption) (Heap.le_trans l1 (Heap.le_trans l2 (by assumption)))
     ·rw [hor2,hst,hone,hor3];rfl
   ·have hge2:b.blocks.length≤j:=by simpa using hb
    refine ah ⟨?_,rfl⟩
    rw [hF2,hor2,List.drop_of_length_le hge2];rfl
 ·rw [ha]
  have hF:iq b=(b.att.all (DX b.s1.field b.att) && FS b.att b.s0.field [] b.blocks):=by simp [iq,vq,ha]
  refine af fun r0=>aS b.att.length (fun i H' O'=>O'=O∧Heap.le H H'∧b.att.all (DX b.s1.field b.att)=(b.att.drop i).all (DX b.s1.field b.att)) ⟨rfl,Heap.le_refl H,rfl⟩ ?_
  rintro i H' O' hi - ⟨rfl,hle,hor⟩
  refine aa (ab _ la (ab _ (aI _ _) (aj (fun hb=>?_) (fun hb=>?_))))
  ·have hlt:i < b.att.length:=by simpa using hb
   have hst:(b.att.drop i).all (DX b.s1.field b.att)=(DX b.s1.field b.att b.att[i] && (b.att.drop (i + 1)).all (DX b.s1.field b.att)):=by rw [List.drop_eq_getElem_cons hlt,List.all_cons]
   obtain ⟨a,h1,h2,_,h3,h4⟩:=(h.att.le hle).idx .i64 i [iV b.att[i]] (by simp [aH,hlt])
   refine aa (aa (ab _ h1 (aq h2 h3 h4 (ai (fW (h.att.le hle) b.att[i]) rfl ⟨rfl,trivial⟩ fun H1 l1=>ab _ (bd _ _) (aj (fun hc=>ah ⟨?_,rfl⟩) (fun hc=>aa ?_))))))
   ·rw [hF,hor,hst,DX,jQ hc];rfl
   refine ⟨.i64,1,rfl,fun e=>absurd e (by omega),fun _=>⟨.i64,1,rfl,fun _=>?_,fun e=>absurd rfl e⟩⟩
   have l1':=Heap.le_trans hle l1
   obtain ⟨a,h1,h2,_,h3,h4⟩:=(h.att.le l1').idx .i64 i [iV b.att[i]] (by simp [aH,hlt])
   refine aa (aa (ab _ h1 (aq h2 h3 h4 (ai (fW (h.s1.field.le l1') b.att[i]) rfl ⟨rfl,trivial⟩ fun H2 l2=>ab _ (bd _ _) (aj (fun hd=>ah ⟨?_,rfl⟩) (fun hd=>?_))))))
   ·rw [hF,hor,hst,DX,jQ hc,jQ hd];rfl
   ·refine ab _ (aD (by omega)) (aO (by simp [Eqs]) hlt ⟨rfl,Heap.le_trans l1' l2,?_⟩)
    rw [hor,hst,DX,jQ hc,jQ hd];rfl
  ·have hge:b.att.length≤i:=by simpa using hb
   rw [List.drop_of_length_le hge] at hor
   have hF2:iq b=FS b.att b.s0.field [] b.blocks:=by rw [hF,hor];rfl
   refine aS b.blocks.length (fun j H'' O''=>O''=O'∧Heap.le H' H''∧FS b.att b.s0.field [] b.blocks=FS b.att b.s0.field (b.blocks.take j) (b.blocks.drop j)) ⟨rfl,Heap.le_refl _,rfl⟩ ?_
   rintro j H'' O'' hj - ⟨rfl,hle2,hor2⟩
   have hle2:=Heap.le_trans hle hle2
   refine aa (ab _ lb (ab _ (aI _ _) (aj (fun hb=>?_) (fun hb=>?_))))
   ·have hlt:j < b.blocks.length:=by simpa using hb
    obtain ⟨a,h1,h2,_,h3,h4⟩:=(h.blocks.le hle2).idx .i64 j (Bl.row b.blocks[j]) (by simp [hlt])
    have hst:FS b.att b.s0.field (b.blocks.take j) (b.blocks.drop j)=(sC b.att b.s0.field (b.blocks.take j) b.blocks[j] && FS b.att b.s0.field (b.blocks.take (j + 1)) (b.blocks.drop (j + 1))):=by
     rw [List.drop_eq_getElem_cons hlt,FS,List.take_add_one,List.getElem?_eq_getElem hlt];rfl
    refine aa (ab _ h1 (aq h2 h3 h4 (af fun r1=>aa (aa (aa (ai (fW (h.att.le hle2) b.blocks[j].attacker) rfl ⟨rfl,trivial⟩ fun H1 l1=>ab _ (bd _ _) (aj (fun hc=>ah ⟨?_,rfl⟩) (fun hc=>aa (ab _ (hs _ (.inr rfl)) ?_)))))))))
    ·rw [hF2,hor2,hst,sC,jQ hc];rfl
    refine ⟨.i64,0,rfl,fun _=>?_,fun e=>absurd rfl e⟩
    have l1':=Heap.le_trans hle2 l1
    refine aa (aa (ai (fW (h.s0.field.le l1') b.blocks[j].blocker) rfl ⟨rfl,trivial⟩ fun H2 l2=>ab _ (bd _ _) (aj (fun hd=>ah ⟨?_,rfl⟩) (fun hd=>?_))))
    ·rw [hF2,hor2,hst,sC,jQ hc,jQ hd];rfl
    have l2':=Heap.le_trans l1' l2
    have hone:sC b.att b.s0.field (b.blocks.take j) b.blocks[j]=(b.blocks.take j).all fun y=>!kS b.blocks[j] y:=by rw [sC,jQ hc,jQ hd];rfl
    refine aS j (fun k H3 O3=>O3=O''∧Heap.le H2 H3∧((b.blocks.take j).all fun y=>!kS b.blocks[j] y)=(((b.blocks.take j).drop k).all fun y=>!kS b.blocks[j] y)) ⟨rfl,Heap.le_refl _,rfl⟩ ?_
    rintro k H3 O3 hk - ⟨rfl,hle3,hor3⟩
    have hle3:=Heap.le_trans l2' hle3
    refine ab _ (aI _ _) (aj (fun hb=>?_) (fun hb=>?_))
    ·have hltk:k < j:=by simpa using hb
     have hltb:k < b.blocks.length:=by omega
     have hst3:(((b.blocks.take j).drop k).all fun y=>!kS b.blocks[j] y)=(!kS b.blocks[j] b.blocks[k] && (((b.blocks.take j).drop (k + 1)).all fun y=>!kS b.blocks[j] y)):=by
      rw [List.drop_eq_getElem_cons (by simp;omega),List.all_cons,List.getElem_take]
     obtain ⟨a,k1,_,k3,_⟩:=(h.blocks.le hle3).idx .i64 k (Bl.row b.blocks[k]) (by simp [hltb])
     have hr1:Reads H3 O3 (aT (.pointer (some a)) 1) 1 [iV b.blocks[k].attacker]:=k3 1 1 (by omega)
     have hr0:Reads H3 O3 (.pointer (some a)) 1 [iV b.blocks[k].blocker]:=by
      have:=k3 0 1 (by omega)
      have e:aT (.pointer (some a)) 0=.pointer (some a):=by simp [aT,Addr.add]
      rwa [e] at this
     refine aa (ab _ k1 (aB rfl (aq hr1 rfl ⟨rfl,trivial⟩ (aa (ab _ (az _ _) ?_)))))
     refine aa (ae (ae (ae ?_)))
     refine xN k1 rfl (aB rfl ?_)
     refine ae (ae ?_)
     refine ⟨[iV b.blocks[k].blocker],rfl,⟨rfl,trivial⟩,fun _=>hr0,?_⟩
     refine aa (ae (ae (ae (ab _ (az _ _) (ae (ab _ (aR _ _) ?_))))))
     refine aj (fun hx=>ah ⟨?_,rfl⟩) (fun hx=>?_)
     ·rw [hF2,hor2,hst,hone,hor3,hst3,show kS b.blocks[j] b.blocks[k]=true from hx];rfl
     ·refine ab _ (aD (by omega)) (aO (by simp [Eqs]) hltk ⟨rfl,Heap.le_trans (Heap.le_refl _) ?_,?_⟩)
      ·assumption
      ·rw [hor3,hst3,show kS b.blocks[j] b.blocks[k]=false from hx];rfl
    ·have hke:(b.blocks.take j).length≤k:=by
      have:j≤k:=by simpa using hb
      simp;omega
     rw [List.drop_of_length_le hke] at hor3
     refine ab _ (aD (by omega)) (aO (by simp [Eqs]) hlt ⟨rfl,?_,?_⟩)
     ·exact Heap.le_trans (by assumption) (Heap.le_trans l1 (Heap.le_trans l2 (by assumption)))
     ·rw [hor2,hst,hone,hor3];rfl
   ·have hge2:b.blocks.length≤j:=by simpa using hb
    refine ah ⟨?_,rfl⟩
    rw [hF2,hor2,List.drop_of_length_le hge2];rfl
end Go.Proofs.YtdhobpmnkfmcfaaGreatDoor
namespace Go.Proofs.YtdhobpmnkfmcfaaGreatDoor
open Go Go.Sx
set_option maxRecDepth 100000
set_option maxHeartbeats 1000000
def DS (b:Bd):Bool:=decide ((0≤b.active∧b.active≤1)∧(0≤b.turn∧b.turn≤1000)∧(0≤b.phase∧b.phase≤10)∧(-1≤b.holder∧b.holder≤1)∧(0≤b.passes∧b.passes≤2)∧b.objs.length≤500∧b.stack.length≤200∧b.queue.length≤200)
def qI (b:Bd):Bool:=DS b && (b.stack.all (fun x=>dk x false) && (b.queue.all (fun x=>dk x true) && (bW b.s0 && (bW b.s1 && (vU b && iq b)))))
theorem Lk {H:Heap} {O:Own} {v:cX} {b:Bd} (h:BdR H O v b) (hfit:FG b):RetO PP mI [.agg (ap v b).toArray] H O (.bool (qI b)):=by
 refine sQ (vs:=ap v b) (by kernel_rfl) (ao h) ?_
 simp only [iJ]
 have lo:=h.objs.len
 rw [List.length_map] at lo
 have ls:=ItsR.len h.stack
 have lq:=ItsR.len h.queue
 refine af fun r0=>?_
 repeat (first | refine aa ?_ | refine ae ?_ | refine af fun _=>?_ | refine ab _ (aI _ _) ?_ | refine ab _ (bH _ _) ?_ | refine ab _ (fh _ _) ?_ | refine ab _ (cZ _ _) ?_ | refine ab _ (az _ _) ?_ | refine ab _ (bd _ _) ?_ | refine ab _ (aX _ _) ?_ | refine ab _ (aR _ _) ?_ | refine ab _ (aM _) ?_ | refine ab _ (wT _ _) ?_ | refine ab _ (ru _ _) ?_)
 refine ab _ lo ?_
 refine ae (ab _ (aI _ _) (ae (ab _ (aR _ _) (aa (ae (ae ?_))))))
 refine ab _ ls ?_
 refine ae (ab _ (aI _ _) (ae (ab _ (aR _ _) (aa (ae (ae ?_))))))
 refine ab _ lq ?_
 refine ae (ab _ (aI _ _) (ae (ab _ (aR _ _) ?_)))
 refine aj (fun hn=>ah ⟨?_,rfl⟩) (fun hn=>?_)
 ·have:DS b=false:=by
   simp only [Bool.or_eq_true,decide_eq_true_eq] at hn
   simp only [DS,decide_eq_false_iff_not]
   omega
  rw [qI,this];rfl
 have hnum:DS b=true:=by
  simp only [Bool.or_eq_false_iff,decide_eq_false_iff_not] at hn
  simp only [DS,decide_eq_true_eq]
  omega
 have stk:=h.stack
 obtain ⟨rows,hrs,hrl,hit⟩:=stk
 have hsB:=hrs.lenB
 refine aS b.stack.length (fun i H' O'=>O'=O∧Heap.le H H'∧b.stack.all (fun x=>dk x false)=(b.stack.drop i).all (fun x=>dk x false)) ⟨rfl,Heap.le_refl H,rfl⟩ ?_
 rintro i H' O' hi - ⟨rfl,hle,hor⟩
 refine aa (ab _ ls (ab _ (aI _ _) (aj (fun hb=>?_) (fun hb=>?_))))
 ·have hlt:i < b.stack.length:=by simpa using hb
  obtain ⟨a,h1,h2,_,h3,h4⟩:=(hrs.le hle).idx .i64 i rows[i] (by simp [hrl,hlt])
  have hI:=(hit i rows[i] b.stack[i] (by simp [hrl,hlt]) (by simp [hlt])).le hle
  obtain ⟨s,hrow,hs⟩:=hI
  rw [hrow] at h2 h3 h4
  have hst:(b.stack.drop i).all (fun x=>dk x false)=(dk b.stack[i] false && (b.stack.drop (i + 1)).all (fun x=>dk x false)):=by rw [List.drop_eq_getElem_cons hlt,List.all_cons]
  refine aa (ab _ h1 (aq h2 h3 h4 (ai (Ot ⟨s,rfl,hs⟩ false) rfl ⟨rfl,trivial⟩ fun H1 l1=>ab _ (aM _) (aj (fun hc=>ah ⟨?_,rfl⟩) (fun hc=>?_)))))
  ·rw [qI,hor,hst,vp hc];simp
  ·refine ab _ (aD (by omega)) (aO (by simp [Eqs]) hlt ⟨rfl,Heap.le_trans hle l1,?_⟩)
   rw [hor,hst,qW hc];rfl
 ·have hge:b.stack.length≤i:=by simpa using hb
  rw [List.drop_of_length_le hge] at hor
  have hall:b.stack.all (fun x=>dk x false)=true:=by rw [hor];rfl
  have que:=h.queue
  obtain ⟨rows2,hrs2,hrl2,hit2⟩:=que
  have hqB:=hrs2.lenB
  refine aS b.queue.length (fun j H'' O''=>O''=O'∧Heap.le H' H''∧b.queue.all (fun x=>dk x true)=(b.queue.drop j).all (fun x=>dk x true)) ⟨rfl,Heap.le_refl _,rfl⟩ ?_
  rintro j H'' O'' hj - ⟨rfl,hle2,hor2⟩
  have hle2:=Heap.le_trans hle hle2
  refine aa (ab _ lq (ab _ (aI _ _) (aj (fun hb=>?_) (fun hb=>?_))))
  ·have hlt:j < b.queue.length:=by simpa using hb
   obtain ⟨a,h1,h2,_,h3,h4⟩:=(hrs2.le hle2).idx .i64 j rows2[j] (by simp [hrl2,hlt])
   have hI:=(hit2 j rows2[j] b.queue[j] (by simp [hrl2,hlt]) (by simp [hlt])).le hle2
   obtain ⟨s,hrow,hs⟩:=hI
   rw [hrow] at h2 h3 h4
   have hst:(b.queue.drop j).all (fun x=>dk x true)=(dk b.queue[j] true && (b.queue.drop (j + 1)).all (fun x=>dk x true)):=by rw [List.drop_eq_getElem_cons hlt,List.all_cons]
   refine aa (ab _ h1 (aq h2 h3 h4 (ai (Ot ⟨s,rfl,hs⟩ true) rfl ⟨rfl,trivial⟩ fun H1 l1=>ab _ (aM _) (aj (fun hc=>ah ⟨?_,rfl⟩) (fun hc=>?_)))))
   ·rw [qI,hor2,hst,vp hc];simp
   ·refine ab _ (aD (by omega)) (aO (by simp [Eqs]) hlt ⟨rfl,?_,?_⟩)
    ·exact Heap.le_trans (by assumption) l1
    ·rw [hor2,hst,qW hc];rfl
  ·have hge2:b.queue.length≤j:=by simpa using hb
   rw [List.drop_of_length_le hge2] at hor2
   have hall2:b.queue.all (fun x=>dk x true)=true:=by rw [hor2];rfl
   have hF:qI b=(bW b.s0 && (bW b.s1 && (vU b && iq b))):=by rw [qI,hnum,hall,hall2];rfl
   replace h:=h.le hle2
   obtain ⟨z1,z2,z3,z4⟩:=eV h.s0
   obtain ⟨z5,z6,z7,z8⟩:=eV h.s1
   refine aa (ai (Ol b.s0 z1 z2 z3 z4 H'' O'') rfl ⟨rfl,trivial⟩ fun H1 l1=>aj (fun k1=>?_) (fun k1=>ah ⟨?_,rfl⟩))
   rotate_left
   ·rw [hF,k1];rfl
   replace h:=h.le l1
   refine aa (ai (Ol b.s1 z5 z6 z7 z8 H1 O'') rfl ⟨rfl,trivial⟩ fun H2 l2=>aj (fun k2=>?_) (fun k2=>ah ⟨?_,rfl⟩))
   rotate_left
   ·rw [hF,k1,k2];rfl
   replace h:=h.le l2
   refine aa (ai (Pj h hfit) rfl ⟨rfl,trivial⟩ fun H3 l3=>aj (fun k3=>?_) (fun k3=>ah ⟨?_,rfl⟩))
   rotate_left
   ·rw [hF,k1,k2,k3];rfl
   replace h:=h.le l3
   have ha:b.active=0∨b.active=1:=by
    simp only [DS,decide_eq_true_eq] at hnum
    omega
   refine aa (ai (Np h ha) rfl ⟨rfl,trivial⟩ fun H4 l4=>ah ⟨?_,rfl⟩)
   rw [hF,k1,k2,k3];rfl
end Go.Proofs.YtdhobpmnkfmcfaaGreatDoor
namespace Go.Proofs.YtdhobpmnkfmcfaaGreatDoor
open Go Go.Sx
set_option maxRecDepth 100000
set_option maxHeartbeats 1000000
theorem En {α:Type} [DecidableEq α]:∀ {l r:List α},l.Nodup→(∀ x ∈ l,x ∈ r)→r.length≤l.length→r.Perm l
 | [],r,_,_,h=>by
  have:r=[]:=List.eq_nil_of_length_eq_zero (by simpa using h)
  subst this;exact List.Perm.refl _
 | a::l,r,hn,hs,h=>by
  rw [List.nodup_cons] at hn
  have har:a ∈ r:=hs a (by simp)
  have h1:=En (l:=l) (r:=r.erase a) hn.2 (fun x hx=>(List.mem_erase_of_ne (fun e=>hn.1 (by subst e;exact hx))).2 (hs x (by simp [hx]))) (by
   rw [List.length_erase_of_mem har];simp only [List.length_cons] at h;omega)
  exact (List.perm_cons_erase har).trans (h1.cons a)
theorem um {α β:Type} (f:α→β):∀ {l:List α},(l.map f).Nodup→l.Nodup
 | [],_=>List.nodup_nil
 | a::l,h=>by
  rw [List.map_cons,List.nodup_cons] at h
  exact List.nodup_cons.2 ⟨fun hm=>h.1 (List.mem_map.2 ⟨a,hm,rfl⟩),um f h.2⟩
def FQ:Option Int→List Ob→Bool
 | _,[]=>true
 | prev,o::r=>!jX prev o.id && FQ (some o.id) r
def ok1 (ps cs:List (Int × Int)) (o:Ob):Bool:=ba o && ((dM ps o.id).isSome && (((dM ps o.id).getD 0 == o.owner) && !((dM cs o.id).isSome && ((dM cs o.id).getD 0 != o.card))))
def ok2 (b:Bd) (o:Ob):Bool:=ba o && (((uj b o.owner o.id:Nat):Int) == 1)
theorem ul {ps cs:List (Int × Int)}:∀ (l:List Ob) (prev:Option Int),qi ba ps cs prev l=(FQ prev l && l.all (ok1 ps cs))
 | [],_=>rfl
 | o::r,prev=>by
  simp only [qi,Em,FQ,List.all_cons,ok1,ul r (some o.id),bne]
  cases ba o <;> cases jX prev o.id <;> cases dM ps o.id <;> cases dM cs o.id <;> simp [Bool.and_assoc,Bool.and_comm,Bool.and_left_comm]
theorem El {b:Bd}:∀ (l:List Ob) (prev:Option Int),oW b prev l=(FQ prev l && l.all (ok2 b))
 | [],_=>rfl
 | o::r,prev=>by
  simp only [oW,FQ,List.all_cons,ok2,El r (some o.id)]
  cases ba o <;> cases jX prev o.id <;> simp [Bool.and_assoc,Bool.and_comm,Bool.and_left_comm]
theorem nI:∀ {l:List Ob} {prev:Option Int},FQ prev l=true→(∀ o ∈ l,∀ p,prev=some p→p < o.id)∧(l.map (·.id)).Nodup
 | [],_,_=>⟨by simp,by simp⟩
 | o::r,prev,h=>by
  simp only [FQ,Bool.and_eq_true,Bool.not_eq_true'] at h
  obtain ⟨k1,k2⟩:=nI h.2
  have hp:∀ p,prev=some p→p < o.id:=by
   rintro p rfl
   have:=h.1
   simp only [jX,decide_eq_false_iff_not] at this
   omega
  refine ⟨fun x hx p e=>?_,?_⟩
  ·rcases List.mem_cons.1 hx with rfl | hx
   ·exact hp p e
   ·have:=k1 x hx _ rfl;have:=hp p e;omega
  ·rw [List.map_cons,List.nodup_cons]
   refine ⟨fun hm=>?_,k2⟩
   obtain ⟨x,hx,e⟩:=List.mem_map.1 hm
   have:=k1 x hx _ rfl
   omega
theorem PV {l:List Ob} (h:(l.map (·.id)).Nodup):∀ {x y:Ob},x ∈ l→y ∈ l→x.id=y.id→x=y:=by
 induction l with
 | nil=>intro x y hx;cases hx
 | cons a l ih =>
  intro x y hx hy e
  rw [List.map_cons,List.nodup_cons] at h
  rcases List.mem_cons.1 hx with k1 | k1 <;> rcases List.mem_cons.1 hy with k2 | k2
  ·rw [k1,k2]
  ·exact absurd (List.mem_map.2 ⟨y,k2,by rw [← e,k1]⟩) h.1
  ·exact absurd (List.mem_map.2 ⟨x,k1,by rw [e,k2]⟩) h.1
  ·exact ih h.2 k1 k2 e
theorem Kh (l:List Int) (p q id:Int):(l.map fun i=>(i,p)).count (id,q)=if p=q then l.count id else 0:=by
 induction l with
 | nil=>simp
 | cons a l ih =>
  simp only [List.map_cons,List.count_cons,ih,beq_iff_eq,Prod.mk.injEq]
  by_cases hp:p=q
  ·simp [hp]
  ·simp [hp]
theorem Ih {l:List It} (ht:∀ x ∈ l,x.trig < 0→x.trig=-1) (p id:Int):(im l).count (id,p)=l.countP (ka p id):=by
 induction l with
 | nil=>rfl
 | cons x l ih =>
  have ih:=ih fun y hy=>ht y (by simp [hy])
  have hx:=ht x (by simp)
  rw [show x::l=[x]++l from rfl,oJ,List.count_append,List.countP_append,ih]
  congr 1
  by_cases h:x.trig < 0
  ·rw [Gq h,List.count_singleton,List.countP_singleton]
   have h1:=hx h
   have e:((x.id,x.player) == (id,p))=ka p id x:=by
    simp only [ka,h1,beq_self_eq_true,Bool.true_and]
    rw [Bool.eq_iff_iff]
    simp [Prod.ext_iff]
   rw [e]
  ·rw [Ej h,List.countP_singleton]
   have:ka p id x=false:=by
    have:x.trig ≠ -1:=by omega
    simp [ka,this]
   rw [this];rfl
theorem LJ (l:List It):(im l).length=l.countP sA:=by
 rw [im,List.length_map,eM,List.countP_eq_length_filter]
 congr 2
 funext x
 simp only [sA]
 by_cases h:x.trig < 0
 ·have:¬ x.trig ≥ 0:=by omega
  simp [h,this]
 ·have:x.trig ≥ 0:=by omega
  simp [h,this]
theorem LI (b:Bd):(aY b).length=Fk b + b.stack.countP sA:=by
 simp only [aY,fg,List.length_append,List.length_map,LJ,Fk]
 omega
theorem CZ {b:Bd} (ht:∀ x ∈ b.stack,x.trig < 0→x.trig=-1) {p:Int} (hp:p=0∨p=1) (id:Int):(aY b).count (id,p)=uj b p id:=by
 simp only [aY,fg,List.count_append,Kh,Ih ht,uj,tH]
 rcases hp with rfl | rfl
 ·simp;omega
 ·simp;omega
theorem GP {b:Bd} (ht:∀ x ∈ b.stack,x.trig < 0→x.trig=-1):vU b=cw ba b:=by
 simp only [vU,cw,ul,El]
 have hl:((((Fk b + b.stack.countP sA:Nat):Int) == (b.objs.length:Int))=decide ((aY b).length=b.objs.length)):=by
  rw [LI,Bool.eq_iff_iff]
  simp only [beq_iff_eq,decide_eq_true_eq]
  omega
 rw [hl,Bool.eq_iff_iff]
 simp only [Bool.and_eq_true,List.all_eq_true,decide_eq_true_eq]
 constructor
 ·rintro ⟨hst,⟨hord,hok⟩,hlen⟩
  obtain ⟨_,hnd⟩:=nI hord
  have hL:(b.objs.map fun o=>(o.id,o.owner)).Nodup:=by
   have e:(b.objs.map fun o=>(o.id,o.owner)).map (·.1)=b.objs.map (·.id):=by rw [List.map_map];rfl
   exact um (·.1) (by rw [e];exact hnd)
  have hsub:∀ x ∈ (b.objs.map fun o=>(o.id,o.owner)),x ∈ aY b:=by
   intro x hx
   obtain ⟨o,ho,rfl⟩:=List.mem_map.1 hx
   have h2:=hok o ho
   simp only [ok2,Bool.and_eq_true,beq_iff_eq] at h2
   have hc:=CZ ht (oE h2.1) o.id
   refine List.count_pos_iff.1 ?_
   rw [hc];omega
  have hperm:=En hL hsub (by simp [hlen])
  have hfst:((aY b).map (·.1)).Perm (b.objs.map (·.id)):=by
   have:=hperm.map (·.1)
   rwa [List.map_map] at this
  have hnp:((aY b).map (·.1)).Nodup:=hfst.nodup_iff.2 hnd
  refine ⟨hnp,⟨hord,fun o ho=>?_⟩,hlen⟩
  have h2:=hok o ho
  simp only [ok2,Bool.and_eq_true,beq_iff_eq] at h2
  have hlk:dM (aY b) o.id=some o.owner:=(jN hnp).2 (hsub _ (List.mem_map.2 ⟨o,ho,rfl⟩))
  simp only [ok1,h2.1,hlk,Option.isSome_some,Option.getD_some,beq_self_eq_true,Bool.true_and,Bool.not_eq_true']
  cases hc:dM (bQ b.stack) o.id with
  | none=>rfl
  | some c =>
   simp only [Option.isSome_some,Option.getD_some,Bool.true_and,bne_eq_false_iff_eq]
   have hmem:(o.id,c) ∈ bQ b.stack:=by
    simp only [dM,Option.map_eq_some_iff] at hc
    obtain ⟨⟨k,c'⟩,hf,rfl⟩:=hc
    have h3:=List.find?_some hf
    have h4:=List.mem_of_find?_eq_some hf
    simp only [beq_iff_eq] at h3
    rw [h3];exact h4
   simp only [bQ,eM,List.mem_map,List.mem_filter,decide_eq_true_eq,Prod.mk.injEq] at hmem
   obtain ⟨x,⟨hx,hxt⟩,e1,e2⟩:=hmem
   have hsx:=hst x hx
   have hn:decide (x.trig ≥ 0)=false:=by simp;omega
   simp only [oG,hn,Bool.false_or,Bool.not_eq_true',Bool.or_eq_false_iff,decide_eq_false_iff_not,bne_eq_false_iff_eq] at hsx
   rcases lM (fun o=>o.id == x.id) b.objs 0 (by omega) with ⟨e,_⟩ | ⟨k,o',k1,k2,k3⟩
   ·exfalso;apply hsx.1;show eH b x.id < 0;unfold eH;omega
   ·have k3:eH b x.id=(k:Int):=by unfold eH;omega
    have hca:uy b (eH b x.id)=o'.card:=by rw [k3];simp [uy,k1]
    simp only [beq_iff_eq] at k2
    have:o'=o:=PV hnd (List.mem_of_getElem? k1) ho (by rw [k2,e1])
    rw [← e2,← hsx.2,hca,this]
 ·rintro ⟨hnp,⟨hord,hok⟩,hlen⟩
  obtain ⟨_,hnd⟩:=nI hord
  have hids:=Eo (l:=b.objs.map (·.id)) (r:=(aY b).map (·.1)) hnd (fun y hy=>by
   obtain ⟨o,ho,rfl⟩:=List.mem_map.1 hy
   have h2:=hok o ho
   simp only [ok1,Bool.and_eq_true] at h2
   rcases Classical.em (o.id ∈ (aY b).map (·.1)) with h | h
   ·exact h
   ·have h3:=h2.2.1;rw [io.2 h] at h3;cases h3) (by simp [hlen])
  refine ⟨fun x hx=>?_,⟨hord,fun o ho=>?_⟩,hlen⟩
  ·by_cases hxt:x.trig < 0
   ·have hn:decide (x.trig ≥ 0)=false:=by simp;omega
    have hxp:x.id ∈ (aY b).map (·.1):=by
     simp only [aY,List.map_append,List.mem_append]
     right;right
     simp only [im,eM,List.mem_map,List.mem_filter,decide_eq_true_eq]
     exact ⟨_,⟨x,⟨hx,hxt⟩,rfl⟩,rfl⟩
    obtain ⟨o,ho,hoid⟩:=List.mem_map.1 (hids _ hxp)
    simp only [oG,hn,Bool.false_or,Bool.not_eq_true',Bool.or_eq_false_iff,decide_eq_false_iff_not,bne_eq_false_iff_eq]
    rcases lM (fun o=>o.id == x.id) b.objs 0 (by omega) with ⟨_,e⟩ | ⟨k,o',k1,k2,k3⟩
    ·have:=e o ho;simp [hoid] at this
    ·have k3:eH b x.id=(k:Int):=by unfold eH;omega
     refine ⟨by omega,?_⟩
     rw [k3]
     simp only [beq_iff_eq] at k2
     have h2:=hok o' (List.mem_of_getElem? k1)
     simp only [ok1,Bool.and_eq_true,Bool.not_eq_true'] at h2
     have hcn:((bQ b.stack).map (·.1)).Nodup:=by
      have e:(bQ b.stack).map (·.1)=(im b.stack).map (·.1):=by simp only [bQ,im,List.map_map];rfl
      rw [e]
      simp only [aY,List.map_append] at hnp
      exact (List.nodup_append.1 (List.nodup_append.1 hnp).2.1).2.1
     have hlk:dM (bQ b.stack) x.id=some x.card:=(jN hcn).2 (by
      simp only [bQ,eM,List.mem_map,List.mem_filter,decide_eq_true_eq]
      exact ⟨x,⟨hx,hxt⟩,rfl⟩)
     have h3:=h2.2.2.2
     rw [k2,hlk] at h3
     simp only [Option.isSome_some,Option.getD_some,Bool.true_and,bne_eq_false_iff_eq] at h3
     simp only [uy,Int.toNat_natCast,k1,Option.map_some,Option.getD_some]
     exact h3.symm
   ·have hn:decide (x.trig ≥ 0)=true:=by simp;omega
    simp only [oG,hn,Bool.true_or]
  ·have h2:=hok o ho
   simp only [ok1,Bool.and_eq_true,beq_iff_eq] at h2
   obtain ⟨v1,v2,v3,_⟩:=h2
   have hlk:dM (aY b) o.id=some o.owner:=by
    cases e:dM (aY b) o.id with
    | none=>rw [e] at v2;cases v2
    | some c=>rw [e] at v3;rw [← v3];rfl
   have hmem:=(jN hnp).1 hlk
   have hnp':(aY b).Nodup:=um (·.1) hnp
   have hc:=CZ ht (oE v1) o.id
   have h1:(aY b).count (o.id,o.owner)=1:=by
    have a1:=List.count_pos_iff.2 hmem
    have a2:=List.nodup_iff_count.1 hnp' (o.id,o.owner)
    omega
   simp only [ok2,v1,Bool.true_and,beq_iff_eq]
   rw [hc] at h1;omega
end Go.Proofs.YtdhobpmnkfmcfaaGreatDoor
namespace Go.Proofs.YtdhobpmnkfmcfaaGreatDoor
open Go Go.Sx
set_option maxRecDepth 100000
set_option maxHeartbeats 1000000
theorem Da {l:List Int} (h:l.Nodup) (x:Int):(((l.count x:Nat):Int) == 1)=l.contains x:=by
 have h1:=List.nodup_iff_count.1 h x
 by_cases hm:x ∈ l
 ·have h2:=List.count_pos_iff.2 hm
  have:l.count x=1:=by omega
  simp [this,hm]
 ·have:l.count x=0:=List.count_eq_zero.2 hm
  simp [this,hm]
theorem Rh {own att:List Int} (ho:own.Nodup):att.all (DX own att)=(decide att.Nodup && att.all fun x=>own.contains x):=by
 rw [Bool.eq_iff_iff]
 simp only [Bool.and_eq_true,List.all_eq_true,decide_eq_true_eq,DX,Da ho,beq_iff_eq]
 constructor
 ·intro h
  refine ⟨List.nodup_iff_count.2 fun x=>?_,fun x hx=>(h x hx).2⟩
  by_cases hm:x ∈ att
  ·have:=(h x hm).1;omega
  ·have:=List.count_eq_zero.2 hm;omega
 ·rintro ⟨h1,h2⟩ x hx
  refine ⟨?_,h2 x hx⟩
  have:=List.nodup_iff_count.1 h1 x
  have:=List.count_pos_iff.2 hx
  omega
theorem OU {att other:List Int} (ha:att.Nodup) (ho:other.Nodup):∀ (l done:List Bl) (ua ub:List Int),(∀ a,a ∈ ua ↔ ∃ y ∈ done,y.attacker=a)→(∀ a,a ∈ ub ↔ ∃ y ∈ done,y.blocker=a)→Dk att other ua ub l=FS att other done l
 | [],_,_,_,_,_=>rfl
 | x::r,done,ua,ub,h1,h2=>by
  rw [Dk,FS,OU ha ho r (done++[x]) (x.attacker::ua) (x.blocker::ub)]
  ·congr 1
   rw [sC,Da ha,Da ho,Bool.eq_iff_iff]
   simp only [Bool.and_eq_true,Bool.not_eq_true',List.all_eq_true,kS,Bool.or_eq_false_iff,beq_eq_false_iff_ne,List.contains_iff_mem]
   have e1:ua.contains x.attacker=false ↔ ∀ y ∈ done,y.attacker ≠ x.attacker:=by
    rw [← Bool.not_eq_true,List.contains_iff_mem,h1]
    exact ⟨fun h y hy e=>h ⟨y,hy,e⟩,fun h ⟨y,hy,e⟩=>h y hy e⟩
   have e2:ub.contains x.blocker=false ↔ ∀ y ∈ done,y.blocker ≠ x.blocker:=by
    rw [← Bool.not_eq_true,List.contains_iff_mem,h2]
    exact ⟨fun h y hy e=>h ⟨y,hy,e⟩,fun h ⟨y,hy,e⟩=>h y hy e⟩
   rw [e1,e2]
   exact ⟨fun ⟨⟨a,b⟩,c,d⟩=>⟨b,d,fun y hy=>⟨a y hy,c y hy⟩⟩,fun ⟨b,d,e⟩=>⟨⟨fun y hy=>(e y hy).1,b⟩,fun y hy=>(e y hy).2,d⟩⟩
  ·intro a
   simp only [List.mem_cons,h1,List.mem_append,List.mem_singleton]
   constructor
   ·rintro (rfl | ⟨y,hy,e⟩)
    ·exact ⟨x,.inr (.inl rfl),rfl⟩
    ·exact ⟨y,.inl hy,e⟩
   ·rintro ⟨y,hy | hy,e⟩
    ·exact .inr ⟨y,hy,e⟩
    ·rcases hy with rfl | hy
     ·exact .inl e.symm
     ·cases hy
  ·intro a
   simp only [List.mem_cons,h2,List.mem_append,List.mem_singleton]
   constructor
   ·rintro (rfl | ⟨y,hy,e⟩)
    ·exact ⟨x,.inr (.inl rfl),rfl⟩
    ·exact ⟨y,.inl hy,e⟩
   ·rintro ⟨y,hy | hy,e⟩
    ·exact .inr ⟨y,hy,e⟩
    ·rcases hy with rfl | hy
     ·exact .inl e.symm
     ·cases hy
theorem GU {own other att:List Int} {bl:List Bl} (ho:own.Nodup) (ht:other.Nodup):vq own other att bl=nQ own other att bl:=by
 rw [vq,nQ,Rh ho]
 by_cases ha:att.Nodup
 ·rw [OU ha ht bl [] [] [] (by simp) (by simp),Bool.and_assoc]
 ·simp [ha]
theorem uk {b:Bd} (h:cw ba b=true):b.s0.field.Nodup∧b.s1.field.Nodup:=by
 simp only [cw,Bool.and_eq_true,decide_eq_true_eq] at h
 have h1:=h.1
 have e:∀ (l:List Int) (p:Int),(l.map fun i=>(i,p)).map (·.1)=l:=fun l p=>by rw [List.map_map];simp [Function.comp_def]
 simp only [aY,fg,List.map_append,e] at h1
 have h2:=List.nodup_append.1 h1
 have h3:=List.nodup_append.1 h2.2.1
 have f:∀ {a b c d:List Int},(a++(b++(c++d))).Nodup→c.Nodup:=fun h=>(List.nodup_append.1 (List.nodup_append.1 (List.nodup_append.1 h).2.1).2.1).1
 exact ⟨f h2.1,f h3.1⟩
theorem Kd {b:Bd} (h:cw ba b=true):iq b=gu b:=by
 obtain ⟨h0,h1⟩:=uk h
 rw [iq,gu,GU h0 h1,GU h1 h0]
theorem GS {x:It} {q:Bool} (h:dk x q=true):x.trig < 0→x.trig=-1:=by
 simp only [dk,ar,Bool.and_eq_true,decide_eq_true_eq] at h
 omega
theorem IB (b:Bd):qI b=ax b:=by
 rw [Bool.eq_iff_iff]
 have hall:∀ (l:List It) (q:Bool),l.all (fun x=>dk x q)=!(l.any fun x=>!dk x q):=fun l q=>by
  induction l with
  | nil=>rfl
  | cons a l ih=>simp [ih]
 have hnum:DS b=(ar b.active 0 1 && (ar b.turn 0 1000 && (ar b.phase 0 10 && (ar b.holder (-1) 1 && !xT b)))):=by
  rw [Bool.eq_iff_iff]
  simp only [DS,ar,xT,Bool.and_eq_true,Bool.not_eq_true',Bool.or_eq_false_iff,decide_eq_true_eq,decide_eq_false_iff_not,Bool.not_eq_false']
  omega
 have key:∀ (x y:Bool),(b.stack.all (fun x=>dk x false)=true→x=y)→((b.stack.all (fun x=>dk x false) && x)=true ↔ (b.stack.all (fun x=>dk x false) && y)=true):=by
  intro x y h
  cases hs:b.stack.all (fun x=>dk x false) with
  | false=>simp
  | true=>rw [h hs]
 have hf:b.stack.all (fun x=>dk x false)=true→(vU b && iq b)=(cw ba b && gu b):=by
  intro hs
  rw [List.all_eq_true] at hs
  rw [GP fun x hx=>GS (hs x hx)]
  cases hp:cw ba b with
  | false=>rfl
  | true=>rw [Kd hp]
 have e1:qI b=(DS b && (b.queue.all (fun x=>dk x true) && (bW b.s0 && (bW b.s1 && (b.stack.all (fun x=>dk x false) && (vU b && iq b)))))):=by
  rw [qI]
  cases b.stack.all (fun x=>dk x false) <;> simp
 have e2:ax b=(DS b && (b.queue.all (fun x=>dk x true) && (bW b.s0 && (bW b.s1 && (b.stack.all (fun x=>dk x false) && (cw ba b && gu b)))))):=by
  rw [ax,hnum,hall,hall]
  cases ar b.active 0 1 <;> cases ar b.turn 0 1000 <;> cases ar b.phase 0 10 <;> cases ar b.holder (-1) 1 <;> cases xT b <;> cases bW b.s0 <;> cases bW b.s1 <;> cases (b.stack.any fun x=>!dk x false) <;> cases (b.queue.any fun x=>!dk x true) <;> rfl
 rw [e1,e2]
 simp only [Bool.and_eq_true]
 have:=key _ _ hf
 simp only [Bool.and_eq_true] at this
 rw [this]
end Go.Proofs.YtdhobpmnkfmcfaaGreatDoor
namespace Go.Proofs.YtdhobpmnkfmcfaaGreatDoor
open Go Go.Sx
set_option maxRecDepth 100000
set_option maxHeartbeats 1000000
end Go.Proofs.YtdhobpmnkfmcfaaGreatDoor
namespace Go.Proofs.YtdhobpmnkfmcfaaGreatDoor
open Go Go.Sx
set_option maxRecDepth 100000
set_option maxHeartbeats 1000000
def gM (s:St):Bool:=!decide ((s.lib.length:Int) > 40) && (!decide ((s.hand.length:Int) > 40) && (!decide ((s.field.length:Int) > 40) && !decide ((s.grave.length:Int) > 40)))
def ng (l:List It):Bool:=!decide ((l.length:Int) > 20) && l.all fun x=>!decide ((x.tgs.length:Int) > 6)
def fi (b:Bd):Bool:=gM b.s0 && (gM b.s1 && (ng b.stack && (ng b.queue && ((decide ((b.objs.length:Int)≤30) && decide ((b.att.length:Int)≤30)) && decide ((b.blocks.length:Int)≤30)))))
theorem Qd {H:Heap} {O:Own} {v:cX} {b:Bd} (h:BdR H O v b):RetO PP mQ [.agg (ap v b).toArray] H O (.bool (fi b)):=by
 refine sY (vs:=ap v b) (by kernel_rfl) (ao h) ?_
 simp only [iR]
 have len1:∀ {H':Heap} {O':Own} {w:Value} {l:List Int},RSl H' O' 1 w (aH l)→al .len [w]=some (iV l.length):=fun h=>by have:=h.len;rwa [aH,List.length_map] at this
 have lo:=h.objs.len
 have lb:=h.blocks.len
 rw [List.length_map] at lo lb
 have la:=len1 h.att
 refine af fun r0=>?_
 obtain ⟨s01,s02,s03,s04⟩:=eV h.s0
 refine aa (ai (jV b.s0 s01 s02 s03 s04 _ _) rfl ⟨s01,s02,s03,s04,trivial⟩ fun Hs0 ls0=>?_)
 replace h:=h.le ls0
 refine ab _ (len1 h.s0.lib) (ab _ (bH _ _) (aj (fun ks0lib=>ah ⟨?_,rfl⟩) (fun ks0lib=>?_)))
 ·simp only [fi,gM,ks0lib,Bool.not_true,Bool.not_false,Bool.true_and,Bool.false_and,Bool.and_false]
 refine ab _ (len1 h.s0.hand) (ab _ (bH _ _) (aj (fun ks0hand=>ah ⟨?_,rfl⟩) (fun ks0hand=>?_)))
 ·simp only [fi,gM,ks0lib,ks0hand,Bool.not_true,Bool.not_false,Bool.true_and,Bool.false_and,Bool.and_false]
 refine ab _ (len1 h.s0.field) (ab _ (bH _ _) (aj (fun ks0field=>ah ⟨?_,rfl⟩) (fun ks0field=>?_)))
 ·simp only [fi,gM,ks0lib,ks0hand,ks0field,Bool.not_true,Bool.not_false,Bool.true_and,Bool.false_and,Bool.and_false]
 refine ab _ (len1 h.s0.grave) (ab _ (bH _ _) (aj (fun ks0grave=>ah ⟨?_,rfl⟩) (fun ks0grave=>?_)))
 ·simp only [fi,gM,ks0lib,ks0hand,ks0field,ks0grave,Bool.not_true,Bool.not_false,Bool.true_and,Bool.false_and,Bool.and_false]
 obtain ⟨s11,s12,s13,s14⟩:=eV h.s1
 refine aa (ai (jV b.s1 s11 s12 s13 s14 _ _) rfl ⟨s11,s12,s13,s14,trivial⟩ fun Hs1 ls1=>?_)
 replace h:=h.le ls1
 refine ab _ (len1 h.s1.lib) (ab _ (bH _ _) (aj (fun ks1lib=>ah ⟨?_,rfl⟩) (fun ks1lib=>?_)))
 ·simp only [fi,gM,ks0lib,ks0hand,ks0field,ks0grave,ks1lib,Bool.not_true,Bool.not_false,Bool.true_and,Bool.false_and,Bool.and_false]
 refine ab _ (len1 h.s1.hand) (ab _ (bH _ _) (aj (fun ks1hand=>ah ⟨?_,rfl⟩) (fun ks1hand=>?_)))
 ·simp only [fi,gM,ks0lib,ks0hand,ks0field,ks0grave,ks1lib,ks1hand,Bool.not_true,Bool.not_false,Bool.true_and,Bool.false_and,Bool.and_false]
 refine ab _ (len1 h.s1.field) (ab _ (bH _ _) (aj (fun ks1field=>ah ⟨?_,rfl⟩) (fun ks1field=>?_)))
 ·simp only [fi,gM,ks0lib,ks0hand,ks0field,ks0grave,ks1lib,ks1hand,ks1field,Bool.not_true,Bool.not_false,Bool.true_and,Bool.false_and,Bool.and_false]
 refine ab _ (len1 h.s1.grave) (ab _ (bH _ _) (aj (fun ks1grave=>ah ⟨?_,rfl⟩) (fun ks1grave=>?_)))
 ·simp only [fi,gM,ks0lib,ks0hand,ks0field,ks0grave,ks1lib,ks1hand,ks1field,ks1grave,Bool.not_true,Bool.not_false,Bool.true_and,Bool.false_and,Bool.and_false]
 refine aa (aa (af fun _=>aa ?_))
 have lstack:=ItsR.len h.stack
 refine ab _ lstack (ab _ (bH _ _) (aj (fun kstack=>ah ⟨?_,rfl⟩) (fun kstack=>?_)))
 ·simp only [fi,gM,ng,ks0lib,ks0hand,ks0field,ks0grave,ks1lib,ks1hand,ks1field,ks1grave,kstack,Bool.not_true,Bool.not_false,Bool.true_and,Bool.false_and,Bool.and_false]
 have stkstack:=h.stack
 obtain ⟨rowsstack,hrsstack,hrlstack,hitstack⟩:=stkstack
 have hBstack:=hrsstack.lenB
 refine aS b.stack.length (fun i H' OO=>OO=O∧Heap.le Hs1 H'∧(b.stack.all fun x=>!decide ((x.tgs.length:Int) > 6))=((b.stack.drop i).all fun x=>!decide ((x.tgs.length:Int) > 6))) ⟨rfl,Heap.le_refl _,rfl⟩ ?_
 rintro istack Hstack Ostack histack - ⟨rfl,hlestack,horstack⟩
 replace h:=h.le hlestack
 refine ab _ lstack (ab _ (aI _ _) (aj (fun hb=>?_) (fun hb=>?_)))
 ·have hlt:istack < b.stack.length:=by simpa using hb
  obtain ⟨a,h1,_,h3,_⟩:=(hrsstack.le hlestack).idx .i64 istack rowsstack[istack] (by simp [hrlstack,hlt])
  obtain ⟨s,hrow,hs⟩:=(hitstack istack rowsstack[istack] b.stack[istack] (by simp [hrlstack,hlt]) (by simp [hlt])).le hlestack
  have hr:=h3 4 1 (by omega)
  rw [hrow] at hr
  have hst:((b.stack.drop istack).all fun x=>!decide ((x.tgs.length:Int) > 6))=(!decide ((b.stack[istack].tgs.length:Int) > 6) && ((b.stack.drop (istack + 1)).all fun x=>!decide ((x.tgs.length:Int) > 6))):=by rw [List.drop_eq_getElem_cons hlt,List.all_cons]
  have lt:=hs.len
  rw [List.length_map] at lt
  refine ab _ h1 (aB rfl (aq hr rfl ⟨hs.one,trivial⟩ (ab _ lt (ab _ (bH _ _) (aj (fun hc=>ah ⟨?_,rfl⟩) (fun hc=>?_))))))
  ·simp only [fi,gM,ng,ks0lib,ks0hand,ks0field,ks0grave,ks1lib,ks1hand,ks1field,ks1grave,kstack,horstack,hst,hc,Bool.not_true,Bool.not_false,Bool.true_and,Bool.false_and,Bool.and_false]
  ·refine ab _ (aD (by omega)) (aO (by simp [Eqs]) hlt ⟨rfl,hlestack,?_⟩)
   rw [horstack,hst,hc];rfl
 have hgestack:b.stack.length≤istack:=by simpa using hb
 rw [List.drop_of_length_le hgestack] at horstack
 have kallstack:(b.stack.all fun x=>!decide ((x.tgs.length:Int) > 6))=true:=by rw [horstack];rfl
 clear hb
 refine aa ?_
 have lqueue:=ItsR.len h.queue
 refine ab _ lqueue (ab _ (bH _ _) (aj (fun kqueue=>ah ⟨?_,rfl⟩) (fun kqueue=>?_)))
 ·simp only [fi,gM,ng,ks0lib,ks0hand,ks0field,ks0grave,ks1lib,ks1hand,ks1field,ks1grave,kstack,kallstack,kqueue,Bool.not_true,Bool.not_false,Bool.true_and,Bool.false_and,Bool.and_false]
 have stkqueue:=h.queue
 obtain ⟨rowsqueue,hrsqueue,hrlqueue,hitqueue⟩:=stkqueue
 have hBqueue:=hrsqueue.lenB
 refine aS b.queue.length (fun i H' OO=>OO=Ostack∧Heap.le Hstack H'∧(b.queue.all fun x=>!decide ((x.tgs.length:Int) > 6))=((b.queue.drop i).all fun x=>!decide ((x.tgs.length:Int) > 6))) ⟨rfl,Heap.le_refl _,rfl⟩ ?_
 rintro iqueue Hqueue Oqueue hiqueue - ⟨rfl,hlequeue,horqueue⟩
 replace h:=h.le hlequeue
 refine ab _ lqueue (ab _ (aI _ _) (aj (fun hb=>?_) (fun hb=>?_)))
 ·have hlt:iqueue < b.queue.length:=by simpa using hb
  obtain ⟨a,h1,_,h3,_⟩:=(hrsqueue.le hlequeue).idx .i64 iqueue rowsqueue[iqueue] (by simp [hrlqueue,hlt])
  obtain ⟨s,hrow,hs⟩:=(hitqueue iqueue rowsqueue[iqueue] b.queue[iqueue] (by simp [hrlqueue,hlt]) (by simp [hlt])).le hlequeue
  have hr:=h3 4 1 (by omega)
  rw [hrow] at hr
  have hst:((b.queue.drop iqueue).all fun x=>!decide ((x.tgs.length:Int) > 6))=(!decide ((b.queue[iqueue].tgs.length:Int) > 6) && ((b.queue.drop (iqueue + 1)).all fun x=>!decide ((x.tgs.length:Int) > 6))):=by rw [List.drop_eq_getElem_cons hlt,List.all_cons]
  have lt:=hs.len
  rw [List.length_map] at lt
  refine ab _ h1 (aB rfl (aq hr rfl ⟨hs.one,trivial⟩ (ab _ lt (ab _ (bH _ _) (aj (fun hc=>ah ⟨?_,rfl⟩) (fun hc=>?_))))))
  ·simp only [fi,gM,ng,ks0lib,ks0hand,ks0field,ks0grave,ks1lib,ks1hand,ks1field,ks1grave,kstack,kallstack,kqueue,horqueue,hst,hc,Bool.not_true,Bool.not_false,Bool.true_and,Bool.false_and,Bool.and_false]
  ·refine ab _ (aD (by omega)) (aO (by simp [Eqs]) hlt ⟨rfl,hlequeue,?_⟩)
   rw [horqueue,hst,hc];rfl
 have hgequeue:b.queue.length≤iqueue:=by simpa using hb
 rw [List.drop_of_length_le hgequeue] at horqueue
 have kallqueue:(b.queue.all fun x=>!decide ((x.tgs.length:Int) > 6))=true:=by rw [horqueue];rfl
 clear hb
 repeat (first | refine aa ?_ | refine ae ?_ | refine ab _ lo ?_ | refine ab _ la ?_ | refine ab _ lb ?_ | refine ab _ (fh _ _) ?_ | refine ab _ (aX _ _) ?_)
 refine ah ⟨?_,rfl⟩
 simp only [fi,gM,ng,ks0lib,ks0hand,ks0field,ks0grave,ks1lib,ks1hand,ks1field,ks1grave,kstack,kallstack,kqueue,kallqueue,Bool.not_true,Bool.not_false,Bool.true_and,Bool.false_and,Bool.and_false]
end Go.Proofs.YtdhobpmnkfmcfaaGreatDoor
namespace Go.Proofs.YtdhobpmnkfmcfaaGreatDoor
open Go Go.Sx
set_option maxRecDepth 100000
set_option maxHeartbeats 1000000
def tys:Tys:=⟨aN,aK,bh,be,aC⟩
theorem yk {H:Heap} {v:Value} {l:List (List Value)} (h:Sl H 12 v l) (hb:l.length≤2 ^ 40):Triple PP dX [v] H [] fun v' H' O'=>OSl aK 12 v' l O':=by
 refine ik (vs:=[v]) (by kernel_rfl) ⟨h.one,trivial⟩ ?_
 simp only [cC]
 obtain ⟨a,cap,rfl,h1,h2,h3⟩:=h
 have hev:al (.bin .eql .slice) [.slice a l.length cap,.slice none 0 0]=some (.bool a.isNone):=by cases a <;> rfl
 refine ab _ hev (aj (fun hn=>ah ?_) (fun hn=>fun r0=>?_))
 ·have hl:l=[]:=by
   by_cases hl:l=[]
   ·exact hl
   ·obtain ⟨ad,rfl,_⟩:=h3 hl;cases hn
  subst hl
  exact OSl.nil aK 12
 ·refine aG (rows:=[]) (news:=l) (O1:=[]) (O2:=[]) (e:=aK) (size:=12) (bytes:=80) (by kernel_rfl) (List.Perm.refl _) (.inl ⟨⟨_,rfl⟩,rfl,rfl⟩) (fun Hf hl _=>Sl.le hl ⟨a,cap,rfl,h1,h2,h3⟩) (by simp;omega) (by simp;omega) ?_
  intro v' O1' H' _ ho
  refine ah ?_
  rw [List.append_nil]
  exact ho
theorem zq {H:Heap} {v:Value} {l:List (List Value)} (h:Sl H 2 v l) (hb:l.length≤2 ^ 40):Triple PP ep [v] H [] fun v' H' O'=>OSl bh 2 v' l O':=by
 refine jc (vs:=[v]) (by kernel_rfl) ⟨h.one,trivial⟩ ?_
 simp only [cH]
 obtain ⟨a,cap,rfl,h1,h2,h3⟩:=h
 have hev:al (.bin .eql .slice) [.slice a l.length cap,.slice none 0 0]=some (.bool a.isNone):=by cases a <;> rfl
 refine ab _ hev (aj (fun hn=>ah ?_) (fun hn=>fun r0=>?_))
 ·have hl:l=[]:=by
   by_cases hl:l=[]
   ·exact hl
   ·obtain ⟨ad,rfl,_⟩:=h3 hl;cases hn
  subst hl
  exact OSl.nil bh 2
 ·refine aG (rows:=[]) (news:=l) (O1:=[]) (O2:=[]) (e:=bh) (size:=2) (bytes:=16) (by kernel_rfl) (List.Perm.refl _) (.inl ⟨⟨_,rfl⟩,rfl,rfl⟩) (fun Hf hl _=>Sl.le hl ⟨a,cap,rfl,h1,h2,h3⟩) (by simp;omega) (by simp;omega) ?_
  intro v' O1' H' _ ho
  refine ah ?_
  rw [List.append_nil]
  exact ho
theorem AT {H:Heap} {v:Value} {l:List (List Value)} (h:Sl H 5 v l) (hb:l.length≤2 ^ 40):Triple PP eQ [v] H [] fun v' H' O'=>OSl be 5 v' l O':=by
 refine jT (vs:=[v]) (by kernel_rfl) ⟨h.one,trivial⟩ ?_
 simp only [cY]
 obtain ⟨a,cap,rfl,h1,h2,h3⟩:=h
 have hev:al (.bin .eql .slice) [.slice a l.length cap,.slice none 0 0]=some (.bool a.isNone):=by cases a <;> rfl
 refine ab _ hev (aj (fun hn=>ah ?_) (fun hn=>fun r0=>?_))
 ·have hl:l=[]:=by
   by_cases hl:l=[]
   ·exact hl
   ·obtain ⟨ad,rfl,_⟩:=h3 hl;cases hn
  subst hl
  exact OSl.nil be 5
 ·refine aG (rows:=[]) (news:=l) (O1:=[]) (O2:=[]) (e:=be) (size:=5) (bytes:=56) (by kernel_rfl) (List.Perm.refl _) (.inl ⟨⟨_,rfl⟩,rfl,rfl⟩) (fun Hf hl _=>Sl.le hl ⟨a,cap,rfl,h1,h2,h3⟩) (by simp;omega) (by simp;omega) ?_
  intro v' O1' H' _ ho
  refine ah ?_
  rw [List.append_nil]
  exact ho
theorem yj {H:Heap} {v:Value} {l:List (List Value)} (h:Sl H 2 v l) (hb:l.length≤2 ^ 40):Triple PP dW [v] H [] fun v' H' O'=>OSl aC 2 v' l O':=by
 refine ij (vs:=[v]) (by kernel_rfl) ⟨h.one,trivial⟩ ?_
 simp only [cB]
 obtain ⟨a,cap,rfl,h1,h2,h3⟩:=h
 have hev:al (.bin .eql .slice) [.slice a l.length cap,.slice none 0 0]=some (.bool a.isNone):=by cases a <;> rfl
 refine ab _ hev (aj (fun hn=>ah ?_) (fun hn=>fun r0=>?_))
 ·have hl:l=[]:=by
   by_cases hl:l=[]
   ·exact hl
   ·obtain ⟨ad,rfl,_⟩:=h3 hl;cases hn
  subst hl
  exact OSl.nil aC 2
 ·refine aG (rows:=[]) (news:=l) (O1:=[]) (O2:=[]) (e:=aC) (size:=2) (bytes:=16) (by kernel_rfl) (List.Perm.refl _) (.inl ⟨⟨_,rfl⟩,rfl,rfl⟩) (fun Hf hl _=>Sl.le hl ⟨a,cap,rfl,h1,h2,h3⟩) (by simp;omega) (by simp;omega) ?_
  intro v' O1' H' _ ho
  refine ah ?_
  rw [List.append_nil]
  exact ho
end Go.Proofs.YtdhobpmnkfmcfaaGreatDoor
namespace Go.Proofs.YtdhobpmnkfmcfaaGreatDoor
open Go Go.Sx
set_option maxRecDepth 100000
set_option maxHeartbeats 1000000
theorem Mr {H:Heap} {v:Value} {l:List It} (h:ItsS H v l) (hB:Rw l):Triple PP yJ [v] H [] fun v' H' O'=>OItsS aC be v' l O':=by
 obtain ⟨rows,hs,hrl,hit⟩:=h
 refine B5 (vs:=[v]) (by kernel_rfl) ⟨hs.one,trivial⟩ ?_
 simp only [se]
 refine aw (AT hs (by have:=hB.1;omega)) fun v' H1 O1 ho l1=>⟨[v'],rfl,⟨ho.one,trivial⟩,?_⟩
 have hlen:=ho.len
 rw [hrl] at hlen
 refine ab _ hlen ?_
 refine aS l.length (fun i H' O'=>Heap.le H1 H'∧∃ rows' A Ts,O'.Perm (A++List.flatten Ts)∧OSl be 5 v' rows' A∧rows'.length=l.length∧Ts.length=i ∧
  (∀ (j:Nat) (r:List Value) (x:It) (T:Own),rows'[j]?=some r→l[j]?=some x→Ts[j]?=some T→∃ s,r=[iV x.player,iV x.id,iV x.card,iV x.trig,s]∧OSl aC 2 s (x.tgs.map Tg.row) T)∧∀ j,i≤j→rows'[j]?=rows[j]?)
  ⟨Heap.le_refl _,rows,O1,[],by simp,ho,hrl,rfl,fun j r x T _ _ h=>by simp at h,fun _ _=>rfl⟩ ?_
 rintro i H' O' hi - ⟨hle,rows',A,Ts,hp,hA,hrl',htl,hspec,hrest⟩
 refine ab _ (aI _ _) (aj (fun hb=>?_) (fun hb=>?_))
 ·have hlt:i < l.length:=by simpa using hb
  have hri:rows'[i]?=some rows[i]:=by rw [hrest i (Nat.le_refl _)];exact List.getElem?_eq_getElem (by omega)
  obtain ⟨s,hrow,hst⟩:=hit i rows[i] l[i] (List.getElem?_eq_getElem (by omega)) (List.getElem?_eq_getElem hlt)
  obtain ⟨a,k1,_,_,k3⟩:=hA.idx (fun p hp'=>hp.mem_iff.2 (List.mem_append_left _ hp')) H' (k:=.i64) hri
  have hr:=k3 4 1 (by omega)
  rw [hrow] at hr
  refine ab _ k1 (aB rfl (aq hr rfl ⟨hst.one,trivial⟩ ?_))
  refine aw (yj (hst.le (Heap.le_trans l1 hle)) (by have:=hB.2 _ (List.getElem_mem hlt);simp;omega)) fun s' H2 T hT l2=>⟨[s'],rfl,⟨hT.one,trivial⟩,?_⟩
  have hp2:(T++O').Perm (A++(T++List.flatten Ts)):=(hp.append_left T).trans (List.perm_append_comm_assoc _ _ _)
  obtain ⟨a2,j1,j2⟩:=hA.store hp2 (k:=.i64) hri
  obtain ⟨A',hst2,hA'⟩:=j2 4 [s'] (by simp) ⟨hT.one,trivial⟩
  refine ab _ j1 (aB rfl (aB rfl ⟨_,hst2,?_⟩))
  have hsp:cq rows[i] 4 [s']=[iV l[i].player,iV l[i].id,iV l[i].card,iV l[i].trig,s']:=by rw [hrow];rfl
  rw [hsp] at hA'
  refine ab _ (aD (by have:=hB.1;omega)) (aO (by simp [Eqs]) hlt ⟨Heap.le_trans hle l2,_,A',Ts++[T],?_,hA',by simp [hrl'],by simp [htl],?_,?_⟩)
  ·refine List.Perm.append_left A' ?_
   rw [List.flatten_append]
   simpa using List.perm_append_comm
  ·intro j r x T' h1 h2 h3
   by_cases hj:j=i
   ·subst hj
    rw [List.getElem?_set_self (by omega)] at h1
    rw [List.getElem?_eq_getElem hlt] at h2
    rw [List.getElem?_append_right (by omega),htl,Nat.sub_self] at h3
    simp only [Option.some.injEq,List.getElem?_cons_zero] at h1 h2 h3
    subst h1;subst h2;subst h3
    exact ⟨s',rfl,hT⟩
   ·rw [List.getElem?_set_ne (by omega)] at h1
    have hjlt:j < Ts.length:=by
     have:=(List.getElem?_eq_some_iff.1 h3).1
     simp at this;omega
    rw [List.getElem?_append_left hjlt] at h3
    exact hspec j r x T' h1 h2 h3
  ·intro j hj
   rw [List.getElem?_set_ne (by omega)]
   exact hrest j (by omega)
 ·have hie:i=l.length:=by
   have:¬ ((i:Int) < (l.length:Int)):=by simpa using hb
   omega
  subst hie
  exact ah ⟨rows',A,Ts,hp,hA,hrl',htl,hspec⟩
theorem OIts.one {te ti:TypeId} {v:Value} {l:List It} {O:Own} (h:OIts te ti v l O):v.oneCell'=true:=by
 obtain ⟨rows,A,Ts,_,h1,_⟩:=h;exact h1.one
theorem Mz {H:Heap} {v:cX} {b:Bd} (h:BdS H v b) (hB:bdB b):Triple PP vm [.agg (ap v b).toArray] H [] fun r H' O'=>∃ w,r=.agg (ap w b).toArray∧OwnBS tys w b O':=by
 refine DQ (vs:=ap v b) (by kernel_rfl) (ao (h.r [])) ?_
 simp only [uW]
 obtain ⟨b1,⟨b2,b3,b4,b5⟩,⟨b6,b7,b8,b9⟩,b10,b11,b12,b13⟩:=hB
 have cl:∀ {l:List Int},l.length≤1000000→(aH l).length≤2 ^ 40:=fun h=>by rw [aH,List.length_map];omega
 refine af fun r0=>af fun r1=>?_
 refine aa (aa (aa ?_))
 refine aw (yk h.objs (by rw [List.length_map];omega)) fun xo H1 Oo po l1=>⟨_,rfl,⟨po.one,trivial⟩,?_⟩
 replace h:=h.le l1
 refine aw (fA h.att (cl b12)) fun xa H1 Oa pa l1=>⟨_,rfl,⟨pa.one,trivial⟩,?_⟩
 replace h:=h.le l1
 refine aw (zq h.blocks (by rw [List.length_map];omega)) fun xb H1 Obk pb l1=>⟨_,rfl,⟨pb.one,trivial⟩,?_⟩
 replace h:=h.le l1
 repeat (first | refine aa ?_ | refine ae ?_)
 refine aw (Mr h.stack b10) fun xs H1 Os ps l1=>⟨_,rfl,⟨OItsS.one ps,trivial⟩,?_⟩
 replace h:=h.le l1
 refine aw (Mr h.queue b11) fun xq H1 Oq pq l1=>⟨_,rfl,⟨OItsS.one pq,trivial⟩,?_⟩
 replace h:=h.le l1
 refine aa (aa ?_)
 refine ai (o5 r0 1 _ _) rfl ⟨rfl,rfl,rfl,rfl,trivial⟩ fun H1 l1=>?_
 replace h:=h.le l1
 repeat (first | refine aa ?_ | refine ae ?_)
 refine aw (fA h.s0.lib (cl b2)) fun x1 H1 A0 p1 l1=>⟨_,rfl,⟨p1.one,trivial⟩,?_⟩
 replace h:=h.le l1
 refine aa (aa ?_)
 refine aw (fA h.s0.hand (cl b3)) fun x2 H1 B0 p2 l1=>⟨_,rfl,⟨p2.one,trivial⟩,?_⟩
 replace h:=h.le l1
 refine aa (aa ?_)
 refine aw (fA h.s0.field (cl b4)) fun x3 H1 C0 p3 l1=>⟨_,rfl,⟨p3.one,trivial⟩,?_⟩
 replace h:=h.le l1
 refine aa (aa ?_)
 refine aw (fA h.s0.grave (cl b5)) fun x4 H1 D0 p4 l1=>⟨_,rfl,⟨p4.one,trivial⟩,?_⟩
 replace h:=h.le l1
 refine aa ?_
 refine ai (o5 r0 15 _ _) rfl ⟨rfl,rfl,rfl,rfl,trivial⟩ fun H1 l1=>?_
 replace h:=h.le l1
 repeat (first | refine aa ?_ | refine ae ?_)
 refine aw (fA h.s1.lib (cl b6)) fun x5 H1 A1 p5 l1=>⟨_,rfl,⟨p5.one,trivial⟩,?_⟩
 replace h:=h.le l1
 refine aa (aa ?_)
 refine aw (fA h.s1.hand (cl b7)) fun x6 H1 B1 p6 l1=>⟨_,rfl,⟨p6.one,trivial⟩,?_⟩
 replace h:=h.le l1
 refine aa (aa ?_)
 refine aw (fA h.s1.field (cl b8)) fun x7 H1 C1 p7 l1=>⟨_,rfl,⟨p7.one,trivial⟩,?_⟩
 replace h:=h.le l1
 refine aa (aa ?_)
 refine aw (fA h.s1.grave (cl b9)) fun x8 H1 D1 p8 l1=>⟨_,rfl,⟨p8.one,trivial⟩,?_⟩
 refine aa (aa (aa (aa ?_)))
 refine ah ⟨⟨xo,x1,x2,x3,x4,x5,x6,x7,x8,xs,xq,xa,xb⟩,rfl,Os,Oo++(A0++(B0++(C0++(D0++(A1++(B1++(C1++(D1++(Oq++(Oa++Obk)))))))))),?_,ps,fun v' l' A' h'=>⟨Oo,A0,B0,C0,D0,A1,B1,C1,D1,A',Oq,Oa,Obk,?_,⟨po,p1,p2,p3,p4,p5,p6,p7,p8,h',pq.weak,pa,pb⟩⟩⟩
 ·refine aZ fun a _ _=>?_
  simp only [List.count_append,List.count_nil]
  omega
 ·refine aZ fun a _ _=>?_
  simp only [List.count_append]
  omega
theorem Hj {H:Heap} {v:cX} {b:Bd} (h:BdS H v b) (hB:bdB b):Triple PP vm [.agg (ap v b).toArray] H [] fun r H' O'=>∃ w,r=.agg (ap w b).toArray∧OwnB tys w b O' :=
 Triple.mono (Mz h hB) fun _ _ _ _ ⟨w,e,h⟩=>⟨w,e,OwnBS.weak h⟩
end Go.Proofs.YtdhobpmnkfmcfaaGreatDoor
