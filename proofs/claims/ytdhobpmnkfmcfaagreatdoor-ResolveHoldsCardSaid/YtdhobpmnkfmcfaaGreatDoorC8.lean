/- Which boards are valid: what the program says. -/
import Derived.Test.YtdhobpmnkfmcfaaGreatDoorC1
namespace Go.Proofs.YtdhobpmnkfmcfaaGreatDoor
open Go Go.Sx
set_option maxRecDepth 100000
set_option maxHeartbeats 1000000
theorem Ld {α:Type} [DecidableEq α]:∀ {l r:List α},l.Nodup→(∀ x ∈ l,x ∈ r)→l.length≤r.length
 | [],_,_,_=>Nat.zero_le _
 | a::l,r,hn,hs=>by
  rw [List.nodup_cons] at hn
  have har:a ∈ r:=hs a (by simp)
  have h1:=Ld (r:=r.erase a) hn.2 fun x hx=>by
   have:x ≠ a:=fun e=>hn.1 (e ▸ hx)
   exact (List.mem_erase_of_ne this).2 (hs x (by simp [hx]))
  rw [List.length_erase_of_mem har] at h1
  have:=List.length_pos_of_mem har
  simp only [List.length_cons];omega
theorem Fg {α:Type} [DecidableEq α] {l r:List α} (hn:l.Nodup) (hs:∀ x ∈ l,x ∈ r) (hl:r.length≤l.length):∀ x ∈ r,x ∈ l:=by
 intro x hx
 rcases Classical.em (x ∈ l) with h | h
 ·exact h
 ·have:=Ld (l:=x::l) (r:=r) (List.nodup_cons.2 ⟨h,hn⟩) (fun y hy=>by
   rcases List.mem_cons.1 hy with rfl | hy
   ·exact hx
   ·exact hs y hy)
  simp only [List.length_cons] at this;omega
theorem If {val:Ob→Bool} {ps cs:List (Int × Int)}:∀ {l:List Ob} {prev:Option Int},pU val ps cs prev l=true →
  (∀ o ∈ l,val o=true∧(cz ps o.id).isSome=true∧∀ p,prev=some p→p < o.id)∧(l.map (·.id)).Nodup
 | [],_,_=>⟨by simp,by simp⟩
 | o::r,prev,h=>by
  simp only [pU,Fe,Bool.and_eq_true,Bool.not_eq_true',Bool.or_eq_false_iff,Bool.not_eq_false'] at h
  obtain ⟨⟨⟨⟨⟨h1,h2⟩,h3⟩,_⟩,_⟩,h6⟩:=h
  obtain ⟨k1,k2⟩:=If h6
  have hp:∀ p,prev=some p→p < o.id:=by
   rintro p rfl
   simp only [jQ,decide_eq_false_iff_not] at h2
   omega
  refine ⟨?_,?_⟩
  ·intro x hx
   rcases List.mem_cons.1 hx with rfl | hx
   ·refine ⟨h1,?_,hp⟩
    cases hl:cz ps x.id with
    | none=>rw [hl] at h3;cases h3
    | some v=>rfl
   ·obtain ⟨a1,a2,a3⟩:=k1 x hx
    exact ⟨a1,a2,fun p e=>by have:=a3 _ rfl;have:=hp p e;omega⟩
  ·rw [List.map_cons,List.nodup_cons]
   refine ⟨?_,k2⟩
   intro hm
   obtain ⟨x,hx,e⟩:=List.mem_map.1 hm
   have:=(k1 x hx).2.2 _ rfl
   omega
theorem E4 {val:Ob→Bool} {b:Bd} (h:bD val b=true):∀ x ∈ (aL b).map (·.1),∃ o ∈ b.objs,o.id=x∧val o=true:=by
 simp only [bD,Bool.and_eq_true,decide_eq_true_eq] at h
 obtain ⟨_,h2,h3⟩:=h
 obtain ⟨k1,k2⟩:=If h2
 intro x hx
 have:=Fg (l:=b.objs.map (·.id)) (r:=(aL b).map (·.1)) k2 (fun y hy=>by
  obtain ⟨o,ho,rfl⟩:=List.mem_map.1 hy
  have:=(k1 o ho).2.1
  rcases Classical.em (o.id ∈ (aL b).map (·.1)) with h | h
  ·exact h
  ·rw [eP.2 h] at this;cases this) (by simp [h3]) x hx
 obtain ⟨o,ho,rfl⟩:=List.mem_map.1 this
 exact ⟨o,ho,rfl,(k1 o ho).1⟩
theorem wW {o:Ob} (h:aY o=true):1≤o.id∧o.id≤500:=by
 simp only [aY,Bool.and_eq_true,decide_eq_true_eq] at h
 exact ⟨h.1.2.1.1.1.2,h.1.2.1.1.2⟩
theorem MC {b:Bd} (h:bD aY b=true):∀ x,x ∈ b.s0.field∨x ∈ b.s1.field→0 < x∧x≤500:=by
 intro x hx
 obtain ⟨o,_,rfl,ho⟩:=E4 h x (by
  simp only [aL,cB,List.map_append,List.map_map,List.mem_append,List.mem_map,Function.comp]
  rcases hx with hx | hx
  ·left;right;right;left;exact ⟨x,hx,rfl⟩
  ·right;left;right;right;left;exact ⟨x,hx,rfl⟩)
 have:=wW ho
 omega
def dl (b:Bd):Bool:=if b.active=0 then jY b.s0.field b.s1.field b.att b.blocks else jY b.s1.field b.s0.field b.att b.blocks
theorem RU {H:Heap} {O:Own} {v:dG} {b:Bd} (h:BdR H O v b) (ha:b.active=0∨b.active=1) (hp:∀ x,x ∈ b.s0.field∨x ∈ b.s1.field→0 < x∧x≤500) :
  RetO PP vU [.agg (ao v b).toArray] H O (.bool (dl b)):=by
 refine AN (vs:=ao v b) (by kernel_rfl) (ap h) ?_
 simp only [pg]
 refine af fun r0=>ab ?_
 have e34:g (ao v b) 34=iV b.active:=rfl
 rw [e34]
 have hs:∀ n:Int,n=0∨n=1→ak (.bin .sub .int) [iV 1,iV n]=some (iV (1 - n)):=by
  rintro n (rfl | rfl) <;> rfl
 rcases ha with ha | ha
 ·rw [ha]
  refine ⟨.i64,0,rfl,fun _=>ab (ab (aa _ (hs 0 (.inl rfl)) ⟨.i64,1,rfl,fun e=>absurd e (by omega),fun _=>⟨.i64,1,rfl,fun _=>?_,fun e=>absurd rfl e⟩⟩)),fun e=>absurd rfl e⟩
  refine ab ?_
  refine FN h.s0.field h.s1.field h.att h.blocks (fun x hx=>(hp x (.inl hx)).1) (fun x hx=>hp x (.inr hx)) ?_ ?_ ?_
  ·intros;simp [Eqs]
  ·intros;simp [Eqs]
  ·exact fun H' _=>⟨by simp [dl,ha],rfl⟩
 ·rw [ha]
  refine ⟨.i64,1,rfl,fun e=>absurd e (by omega),fun _=>⟨.i64,1,rfl,fun _=>ab (ab (aa _ (hs 1 (.inr rfl)) ⟨.i64,0,rfl,fun _=>?_,fun e=>absurd rfl e⟩)),fun e=>absurd rfl e⟩⟩
  refine ab ?_
  refine FN h.s1.field h.s0.field h.att h.blocks (fun x hx=>(hp x (.inr hx)).1) (fun x hx=>hp x (.inl hx)) ?_ ?_ ?_
  ·intros;simp [Eqs]
  ·intros;simp [Eqs]
  ·exact fun H' _=>⟨by simp [dl,ha],rfl⟩
theorem vz {b:Bool} (h:(!b)=true):b=false:=by simpa using h
theorem sN {b:Bool} (h:(!b)=false):b=true:=by simpa using h
def bc (s:St):Bool:=au s.life 0 9999 && (([s.p0,s.p1,s.p2,s.p3].all fun n=>au n 0 99) && (au s.mull 0 7 && au s.acts 0 255))
def og (b:Bd):Bool:=((!au b.passes 0 2 || decide ((b.objs.length:Int) > 500)) || decide ((b.stack.length:Int) > 200)) || decide ((b.queue.length:Int) > 200)
def ar (b:Bd):Bool:=au b.active 0 1 && (au b.turn 0 1000 && (au b.phase 0 10 && (au b.holder (-1) 1 && (!og b && (bc b.s0 && (bc b.s1 &&
 (!(b.stack.any fun x=>!cZ x false) && (!(b.queue.any fun x=>!cZ x true) && (bD aY b && dl b)))))))))
theorem dD {H:Heap} {O:Own} {v:dG} {b:Bd} (h:BdR H O v b):RetO PP yD [.agg (ao v b).toArray] H O (.bool (ar b)):=by
 refine CB (vs:=ao v b) (by kernel_rfl) (ap h) ?_
 simp only [rS]
 refine af fun r0=>?_
 refine ab (ai (dd b.active 0 1 H O) rfl ⟨rfl,trivial⟩ fun H1 l1=>aa _ (aJ _) (aj (fun hb=>ah ⟨?_,rfl⟩) (fun hb=>?_)))
 ·have kf:au b.active 0 1=false:=vz hb
  simp only [ar,kf,Bool.true_and,Bool.false_and,Bool.and_false]
 have k1:au b.active 0 1=true:=sN hb
 replace h:=h.le l1
 clear hb
 refine ab (ai (dd b.turn 0 1000 H1 O) rfl ⟨rfl,trivial⟩ fun H2 l2=>aa _ (aJ _) (aj (fun hb=>ah ⟨?_,rfl⟩) (fun hb=>?_)))
 ·have kf:au b.turn 0 1000=false:=vz hb
  simp only [ar,k1,kf,Bool.true_and,Bool.false_and,Bool.and_false]
 have k2:au b.turn 0 1000=true:=sN hb
 replace h:=h.le l2
 clear hb
 refine ab (ai (dd b.phase 0 10 H2 O) rfl ⟨rfl,trivial⟩ fun H3 l3=>aa _ (aJ _) (aj (fun hb=>ah ⟨?_,rfl⟩) (fun hb=>?_)))
 ·have kf:au b.phase 0 10=false:=vz hb
  simp only [ar,k1,k2,kf,Bool.true_and,Bool.false_and,Bool.and_false]
 have k3:au b.phase 0 10=true:=sN hb
 replace h:=h.le l3
 clear hb
 refine ab (ai (dd b.holder (-1) 1 H3 O) rfl ⟨rfl,trivial⟩ fun H4 l4=>aa _ (aJ _) (aj (fun hb=>ah ⟨?_,rfl⟩) (fun hb=>?_)))
 ·have kf:au b.holder (-1) 1=false:=vz hb
  simp only [ar,k1,k2,k3,kf,Bool.true_and,Bool.false_and,Bool.and_false]
 have k4:au b.holder (-1) 1=true:=sN hb
 replace h:=h.le l4
 clear hb
 refine ab (ai (dd b.passes 0 2 H4 O) rfl ⟨rfl,trivial⟩ fun H5 l5=>aa _ (aJ _) ?_)
 replace h:=h.le l5
 have lo:=h.objs.len
 rw [List.length_map] at lo
 refine ab (ae (ae ?_))
 refine aa _ (lo) (ae (aa _ (bN _ _) (ae (aa _ (aP _ _) ?_))))
 refine ab (ae (ae ?_))
 refine aa _ (ItsR.len h.stack) (ae (aa _ (bN _ _) (ae (aa _ (aP _ _) ?_))))
 refine ab (ae (ae ?_))
 refine aa _ (ItsR.len h.queue) (ae (aa _ (bN _ _) (ae (aa _ (aP _ _) ?_))))
 refine aj (fun hb=>ah ⟨?_,rfl⟩) (fun hb=>?_)
 ·have kf:og b=true:=hb
  simp only [ar,k1,k2,k3,k4,kf,Bool.true_and,Bool.not_true,Bool.false_and]
 have kmid:og b=false:=hb
 clear hb
 refine ab (af fun r1=>ab ?_)
 refine ab (ai (dd b.s0.life 0 9999 H5 O) rfl ⟨rfl,trivial⟩ fun H6 l6=>aa _ (aJ _) (aj (fun hb=>ah ⟨?_,rfl⟩) (fun hb=>?_)))
 ·have kf:au b.s0.life 0 9999=false:=vz hb
  simp only [ar,bc,k1,k2,k3,k4,kmid,kf,Bool.true_and,Bool.false_and,Bool.and_false,Bool.not_false]
 have k6:au b.s0.life 0 9999=true:=sN hb
 replace h:=h.le l6
 clear hb
 refine ab (ai (Ak b.s0.p0 b.s0.p1 b.s0.p2 b.s0.p3 H6 O) rfl ⟨rfl,trivial⟩ fun H7 l7=>aa _ (aJ _) (aj (fun hb=>ah ⟨?_,rfl⟩) (fun hb=>?_)))
 ·have kf:([b.s0.p0,b.s0.p1,b.s0.p2,b.s0.p3].all fun n=>au n 0 99)=false:=vz hb
  simp only [ar,bc,k1,k2,k3,k4,kmid,k6,kf,Bool.true_and,Bool.false_and,Bool.and_false,Bool.not_false]
 have k7:([b.s0.p0,b.s0.p1,b.s0.p2,b.s0.p3].all fun n=>au n 0 99)=true:=sN hb
 replace h:=h.le l7
 clear hb
 refine ab (ai (dd b.s0.mull 0 7 H7 O) rfl ⟨rfl,trivial⟩ fun H8 l8=>aa _ (aJ _) (aj (fun hb=>ah ⟨?_,rfl⟩) (fun hb=>?_)))
 ·have kf:au b.s0.mull 0 7=false:=vz hb
  simp only [ar,bc,k1,k2,k3,k4,kmid,k6,k7,kf,Bool.true_and,Bool.false_and,Bool.and_false,Bool.not_false]
 have k8:au b.s0.mull 0 7=true:=sN hb
 replace h:=h.le l8
 clear hb
 refine ab (ai (dd b.s0.acts 0 255 H8 O) rfl ⟨rfl,trivial⟩ fun H9 l9=>aa _ (aJ _) (aj (fun hb=>ah ⟨?_,rfl⟩) (fun hb=>?_)))
 ·have kf:au b.s0.acts 0 255=false:=vz hb
  simp only [ar,bc,k1,k2,k3,k4,kmid,k6,k7,k8,kf,Bool.true_and,Bool.false_and,Bool.and_false,Bool.not_false]
 have k9:au b.s0.acts 0 255=true:=sN hb
 replace h:=h.le l9
 clear hb
 refine af fun r2=>ab ?_
 refine ab (ai (dd b.s1.life 0 9999 H9 O) rfl ⟨rfl,trivial⟩ fun H10 l10=>aa _ (aJ _) (aj (fun hb=>ah ⟨?_,rfl⟩) (fun hb=>?_)))
 ·have kf:au b.s1.life 0 9999=false:=vz hb
  simp only [ar,bc,k1,k2,k3,k4,kmid,k6,k7,k8,k9,kf,Bool.true_and,Bool.false_and,Bool.and_false,Bool.not_false]
 have k10:au b.s1.life 0 9999=true:=sN hb
 replace h:=h.le l10
 clear hb
 refine ab (ai (Ak b.s1.p0 b.s1.p1 b.s1.p2 b.s1.p3 H10 O) rfl ⟨rfl,trivial⟩ fun H11 l11=>aa _ (aJ _) (aj (fun hb=>ah ⟨?_,rfl⟩) (fun hb=>?_)))
 ·have kf:([b.s1.p0,b.s1.p1,b.s1.p2,b.s1.p3].all fun n=>au n 0 99)=false:=vz hb
  simp only [ar,bc,k1,k2,k3,k4,kmid,k6,k7,k8,k9,k10,kf,Bool.true_and,Bool.false_and,Bool.and_false,Bool.not_false]
 have k11:([b.s1.p0,b.s1.p1,b.s1.p2,b.s1.p3].all fun n=>au n 0 99)=true:=sN hb
 replace h:=h.le l11
 clear hb
 refine ab (ai (dd b.s1.mull 0 7 H11 O) rfl ⟨rfl,trivial⟩ fun H12 l12=>aa _ (aJ _) (aj (fun hb=>ah ⟨?_,rfl⟩) (fun hb=>?_)))
 ·have kf:au b.s1.mull 0 7=false:=vz hb
  simp only [ar,bc,k1,k2,k3,k4,kmid,k6,k7,k8,k9,k10,k11,kf,Bool.true_and,Bool.false_and,Bool.and_false,Bool.not_false]
 have k12:au b.s1.mull 0 7=true:=sN hb
 replace h:=h.le l12
 clear hb
 refine ab (ai (dd b.s1.acts 0 255 H12 O) rfl ⟨rfl,trivial⟩ fun H13 l13=>aa _ (aJ _) (aj (fun hb=>ah ⟨?_,rfl⟩) (fun hb=>?_)))
 ·have kf:au b.s1.acts 0 255=false:=vz hb
  simp only [ar,bc,k1,k2,k3,k4,kmid,k6,k7,k8,k9,k10,k11,k12,kf,Bool.true_and,Bool.false_and,Bool.and_false,Bool.not_false]
 have k13:au b.s1.acts 0 255=true:=sN hb
 replace h:=h.le l13
 clear hb
 refine ab (ai (nA (p:=fun x=>!cZ x false) h.stack rfl (jm ay (by decide)) fun H' _ row x hx=>Qr hx) rfl ⟨rfl,trivial⟩ fun H20 l20=>aj (fun hb=>ah ⟨?_,rfl⟩) (fun hb=>?_))
 ·simp only [ar,bc,k1,k2,k3,k4,kmid,k6,k7,k8,k9,k10,k11,k12,k13,hb,Bool.true_and,Bool.not_true,Bool.not_false,Bool.false_and]
 replace h:=h.le l20
 refine ab (ai (nA (p:=fun x=>!cZ x true) h.queue rfl (jm ay (by decide)) fun H' _ row x hx=>Qq hx) rfl ⟨rfl,trivial⟩ fun H21 l21=>aa _ (aJ _) (aj (fun hq=>?_) (fun hq=>ah ⟨?_,rfl⟩)))
 ·replace h:=h.le l21
  simp only [Bool.not_eq_true'] at hq
  have hfin:ar b=(bD aY b && dl b):=by simp only [ar,bc,k1,k2,k3,k4,kmid,k6,k7,k8,k9,k10,k11,k12,k13,hb,hq,Bool.true_and,Bool.not_false]
  refine ab (ai (RO h) rfl ⟨rfl,trivial⟩ fun H22 l22=>aj (fun hp=>?_) (fun hp=>ah ⟨?_,rfl⟩))
  ·replace h:=h.le l22
   have ha:b.active=0∨b.active=1:=by have:=k1;simp only [au,decide_eq_true_eq] at this;omega
   refine ab (ai (RU h ha (MC hp)) rfl ⟨rfl,trivial⟩ fun H23 l23=>ah ⟨?_,rfl⟩)
   rw [hfin,hp,Bool.true_and];rfl
  ·rw [hfin,hp];rfl
 ·simp only [Bool.not_eq_false'] at hq
  simp only [ar,bc,k1,k2,k3,k4,kmid,k6,k7,k8,k9,k10,k11,k12,k13,hb,hq,Bool.true_and,Bool.not_false,Bool.not_true,Bool.false_and]
end Go.Proofs.YtdhobpmnkfmcfaaGreatDoor
namespace Go.Proofs.YtdhobpmnkfmcfaaGreatDoor
open Go Go.Sx
set_option maxRecDepth 100000
set_option maxHeartbeats 1000000
theorem I6 {a b:Bool} (h:a=true ↔ b=true):(Value.bool a:Value)=.bool b:=by rw [Bool.eq_iff_iff.2 h]
theorem yY (n:Int) (H:Heap) (O:Own):RetO PP mz [iV n] H O (.bool (au n 0 99)):=by
 refine sE (vs:=[iV n]) (by kernel_rfl) ⟨rfl,trivial⟩ ?_
 simp only [iO]
 refine aa _ (eY _ _) (ae (aa _ (eY _ _) (ae (aa _ (aU _ _) ?_))))
 refine ah ⟨I6 ?_,rfl⟩
 simp [au]
theorem pn (o:Ob):aY o=true ↔ ((0≤o.power∧o.power≤99)∧(0≤o.tough∧o.tough≤99)∧(0≤o.dmg∧o.dmg≤99)∧(0≤o.cnt∧o.cnt≤99)∧(0≤o.pp∧o.pp≤99)∧(0≤o.pt∧o.pt≤99)) ∧
  (o.card=-1∨(o.power=0∧o.tough=0))∧1≤o.id∧o.id≤500∧-1≤o.card∧o.card < 400∧(o.owner=0∨o.owner=1):=by
 simp only [aY,au,List.all_cons,List.all_nil,Bool.and_true,Bool.and_eq_true,Bool.or_eq_true,decide_eq_true_eq,beq_iff_eq,ge_iff_le]
 omega
theorem EK (o:Ob) (H:Heap) (O:Own):RetO PP my [.agg o.row.toArray] H O (.bool (aY o)):=by
 refine sD (vs:=o.row) (by kernel_rfl) (by simp [Ob.row,Ones,Value.oneCell']) ?_
 simp only [iN]
 repeat (first | refine ab ?_ | refine ae ?_ | refine af fun _=>?_ | refine aa _ (aI _ _) ?_ | refine aa _ (bN _ _) ?_ | refine aa _ (eY _ _) ?_ | refine aa _ (dt _ _) ?_ | refine aa _ (aC _ _) ?_ | refine aa _ (ba _ _) ?_ | refine aa _ (aU _ _) ?_ | refine aa _ (aP _ _) ?_ | refine aa _ (aJ _) ?_ | refine aa _ (wv _ _) ?_ | refine aa _ (oO _ _) ?_)
 refine aj (fun h1=>ah ⟨I6 ?_,rfl⟩) (fun h1=>?_)
 ·rw [pn];simp at h1 ⊢;omega
 refine ab (aa _ (eY _ _) (ab (ae (ae (aa _ (ba _ _) (ae (ab (ae (ae (ae (ae (aa _ (ba _ _) (ae (ae (ae (aa _ (aP _ _) (ae (aa _ (aU _ _) ?_))))))))))))))))))
 refine aj (fun h2=>ah ⟨I6 ?_,rfl⟩) (fun h2=>?_)
 ·rw [pn];simp at h1 h2 ⊢;omega
 have key:∀ (x:Bool),(x=true ↔ ((0≤o.power∧o.power≤99)∧(0≤o.tough∧o.tough≤99)∧(0≤o.dmg∧o.dmg≤99)∧(0≤o.cnt∧o.cnt≤99)∧(0≤o.pp∧o.pp≤99)∧(0≤o.pt∧o.pt≤99)))→(Value.bool x:Value)=.bool (aY o):=by
  intro x hx
  refine I6 ?_
  rw [hx,pn]
  simp at h1 h2 ⊢;omega
 refine ab (ai (yY o.power H O) rfl ⟨rfl,trivial⟩ fun H1 _=>aj (fun k1=>?_) (fun k1=>ah ⟨key _ ?_,rfl⟩))
 rotate_left
 ·simp [au] at k1 ⊢;omega
 refine ab (ai (yY o.tough H1 O) rfl ⟨rfl,trivial⟩ fun H2 _=>aj (fun k2=>?_) (fun k2=>ah ⟨key _ ?_,rfl⟩))
 rotate_left
 ·simp [au] at k2 ⊢;omega
 refine ab (ai (yY o.dmg H2 O) rfl ⟨rfl,trivial⟩ fun H3 _=>aj (fun k3=>?_) (fun k3=>ah ⟨key _ ?_,rfl⟩))
 rotate_left
 ·simp [au] at k3 ⊢;omega
 refine ab (ai (yY o.cnt H3 O) rfl ⟨rfl,trivial⟩ fun H4 _=>aj (fun k4=>?_) (fun k4=>ah ⟨key _ ?_,rfl⟩))
 rotate_left
 ·simp [au] at k4 ⊢;omega
 refine ab (ai (yY o.pp H4 O) rfl ⟨rfl,trivial⟩ fun H5 _=>aj (fun k5=>?_) (fun k5=>ah ⟨key _ ?_,rfl⟩))
 rotate_left
 ·simp [au] at k5 ⊢;omega
 refine ab (ai (yY o.pt H5 O) rfl ⟨rfl,trivial⟩ fun H6 _=>ah ⟨key _ ?_,rfl⟩)
 simp [au] at k1 k2 k3 k4 k5 ⊢;omega
theorem SE {vl vh vf vg:Value} (s:St) (hl:vl.oneCell'=true) (hh:vh.oneCell'=true) (hf:vf.oneCell'=true) (hg:vg.oneCell'=true) (H:Heap) (O:Own) :
  RetO PP nN [.agg (QW vl vh vf vg s).toArray] H O (.bool (bc s)):=by
 refine tu (vs:=QW vl vh vf vg s) (by kernel_rfl) ⟨rfl,rfl,rfl,rfl,rfl,hl,hh,hf,hg,rfl,rfl,rfl,rfl,rfl,trivial⟩ ?_
 simp only [jr]
 have key:∀ (x:Bool),(x=true ↔ ((0≤s.life∧s.life≤9999)∧(0≤s.p0∧s.p0≤99)∧(0≤s.p1∧s.p1≤99)∧(0≤s.p2∧s.p2≤99)∧(0≤s.p3∧s.p3≤99)∧(0≤s.mull∧s.mull≤7)∧(0≤s.acts∧s.acts≤255)))→(Value.bool x:Value)=.bool (bc s):=by
  intro x hx
  refine I6 ?_
  rw [hx]
  simp only [bc,au,List.all_cons,List.all_nil,Bool.and_true,Bool.and_eq_true,decide_eq_true_eq]
  omega
 refine af fun _=>ab (aa _ (aI _ _) (ae (aa _ (aI _ _) (ae (aa _ (aP _ _) ?_)))))
 refine aj (fun h1=>ah ⟨key _ ?_,rfl⟩) (fun h1=>?_)
 ·simp at h1 ⊢;omega
 refine aa _ (aI _ _) (ae (aa _ (aI _ _) (ae (aa _ (aP _ _) ?_))))
 refine aj (fun h2=>ah ⟨key _ ?_,rfl⟩) (fun h2=>?_)
 ·simp at h2 ⊢;omega
 refine aa _ (aI _ _) (ae (aa _ (aI _ _) (ae (aa _ (aP _ _) ?_))))
 refine aj (fun h3=>ah ⟨key _ ?_,rfl⟩) (fun h3=>?_)
 ·simp at h3 ⊢;omega
 refine aa _ (aI _ _) (ae (aa _ (aI _ _) (ae (aa _ (aP _ _) ?_))))
 refine aj (fun h4=>ah ⟨key _ ?_,rfl⟩) (fun h4=>?_)
 ·simp at h4 ⊢;omega
 repeat (first | refine ab ?_ | refine ae ?_ | refine af fun _=>?_ | refine aa _ (aI _ _) ?_ | refine aa _ (bN _ _) ?_ | refine aa _ (eY _ _) ?_ | refine aa _ (dt _ _) ?_ | refine aa _ (aC _ _) ?_ | refine aa _ (ba _ _) ?_ | refine aa _ (aU _ _) ?_ | refine aa _ (aP _ _) ?_ | refine aa _ (aJ _) ?_ | refine aa _ (wv _ _) ?_ | refine aa _ (oO _ _) ?_)
 refine ah ⟨key _ ?_,rfl⟩
 simp at h1 h2 h3 h4 ⊢;omega
end Go.Proofs.YtdhobpmnkfmcfaaGreatDoor
namespace Go.Proofs.YtdhobpmnkfmcfaaGreatDoor
open Go Go.Sx
set_option maxRecDepth 100000
set_option maxHeartbeats 1000000
abbrev IY (n:Nat) (R:Nat→Value→Heap→Own→Prop):List Value→Heap→Own→Prop:=fun vs H O=>∃ (i:Nat) (x:Value),vs=[x,iV i]∧i≤n∧R i x H O
abbrev MY (n:Nat):List Value→Heap→Own→Nat:=fun vs _ _=>match g vs 1 with | .int _ k=>n - k.toNat | _=>0
theorem dn {P:Program} {lab key:Nat} {x0:Value} {body:(List Value→Heap→Own→Prop)→List Value→Tree} {H:Heap} {O:Own} {Q:Value→Heap→Own→Prop} (n:Nat) (R:Nat→Value→Heap→Own→Prop)
  (h0:R 0 x0 H O) (step:∀ i x H' O',i≤n→Heap.le H H'→R i x H' O'→(body (NL (IY n R) (MY n) (n - i)) [x,iV i]).den P Q H' O') :
  (Tree.loop lab key [x0,.int .i64 0] body).den P Q H O:=by
 refine ln (IY n R) (MY n) ⟨0,x0,rfl,Nat.zero_le _,h0⟩ ?_
 rintro vs H' O' _ _ hle ⟨i,x,rfl,hi,hr⟩
 exact step i x H' O' hi hle hr
theorem aT {P:Program} {lab n i:Nat} {R:Nat→Value→Heap→Own→Prop} {x:Value} {eqs:List (List Value × List Value)} {H:Heap} {O:Own} {Q:Value→Heap→Own→Prop} (he:Eqs eqs) (hi:i < n) (hr:R (i + 1) x H O) :
  (Tree.cont lab (NL (IY n R) (MY n) (n - i)) [x,iV ((i + 1:Nat):Int)] eqs).den P Q H O:=by
 refine fj he ⟨i + 1,x,rfl,hi,hr⟩ ?_
 show n - ((i + 1:Nat):Int).toNat < n - i
 simp;omega
theorem EZ {α:Type} [BEq α] [LawfulBEq α] {l:List α} {i:Nat} (h:i < l.length) (n:α):(l.take (i + 1)).count n=(l.take i).count n + (if l[i] == n then 1 else 0):=by
 rw [List.take_add_one,List.getElem?_eq_getElem h,Option.toList_some,List.count_append,List.count_singleton]
theorem iz {H:Heap} {O:Own} {v:Value} {l:List Int} (h:RSl H O 1 v (aG l)) (n:Int):RetO PP mw [v,iV n] H O (iV ((l.count n:Nat):Int)):=by
 refine sC (vs:=[v,iV n]) (by kernel_rfl) ⟨h.one,rfl,trivial⟩ ?_
 simp only [iM]
 have hlen:=h.len
 rw [aG,List.length_map] at hlen
 have hB:=h.lenB
 simp only [aG,List.length_map] at hB
 refine dn l.length (fun i x H' O'=>O'=O∧Heap.le H H'∧x=iV (((l.take i).count n:Nat):Int)) ⟨rfl,Heap.le_refl H,by simp⟩ ?_
 rintro i x H' O' hi - ⟨rfl,hle,rfl⟩
 have hci:(l.take i).count n≤i:=Nat.le_trans List.count_le_length (by simp;omega)
 refine aa _ hlen (aa _ (aI _ _) (aj (fun hb=>?_) (fun hb=>?_)))
 ·have hlt:i < l.length:=by simpa using hb
  obtain ⟨a,h1,h2,_,h3,h4⟩:=(h.le hle).idx .i64 i [iV l[i]] (by simp [aG,hlt])
  refine aa _ h1 (aw h2 h3 h4 (aa _ (aC _ _) (aj (fun hb=>?_) (fun hb=>?_))))
  ·refine aa _ (aA (by omega)) (aa _ (aA (by omega)) (aT (by simp [Eqs]) hlt ⟨rfl,hle,?_⟩))
   rw [EZ hlt,hb];rfl
  ·refine aa _ (aA (by omega)) (aT (by simp [Eqs]) hlt ⟨rfl,hle,?_⟩)
   rw [EZ hlt,hb];rfl
 ·have:l.length≤i:=by simpa using hb
  refine ah ⟨?_,rfl⟩
  rw [List.take_of_length_le this];rfl
def fM (b:Bd) (id:Int):Int:=jH (fun o=>o.id == id) b.objs 0
theorem CN {H:Heap} {O:Own} {v:dG} {b:Bd} (h:BdR H O v b) (id:Int):RetO PP mt [.agg (ao v b).toArray,iV id] H O (iV (fM b id)):=by
 refine sB (vs:=ao v b++[iV id]) (by kernel_rfl) (aE (ap h) ⟨rfl,trivial⟩) ?_
 simp only [iL]
 have lo:=h.objs.len
 have hB:=h.objs.lenB
 rw [List.length_map] at lo hB
 refine af fun r0=>aX b.objs.length (fun i H' O'=>O'=O∧Heap.le H H'∧fM b id=jH (fun o=>o.id == id) (b.objs.drop i) i) ⟨rfl,Heap.le_refl H,by simp [fM]⟩ ?_
 rintro i H' O' hi - ⟨rfl,hle,hor⟩
 refine ab (aa _ lo (aa _ (aI _ _) (aj (fun hb=>?_) (fun hb=>?_))))
 ·have hlt:i < b.objs.length:=by simpa using hb
  obtain ⟨a,h1,h2,h5,h3,h4⟩:=(h.objs.le hle).idx .i64 i (Ob.row b.objs[i]) (by simp [hlt])
  have hr:Reads H' O' (.pointer (some a)) 1 [iV b.objs[i].id]:=by
   have:=h5 0 1 (by omega)
   have e:be (.pointer (some a)) 0=.pointer (some a):=by simp [be,Addr.add]
   rwa [e] at this
  refine ab (aa _ h1 (aK rfl (aw hr rfl ⟨rfl,trivial⟩ (aa _ (aC _ _) (aj (fun hb=>?_) (fun hb=>?_))))))
  ·refine ah ⟨?_,rfl⟩
   rw [hor,List.drop_eq_getElem_cons hlt,jH,if_pos hb];rfl
  ·refine aa _ (aA (by omega)) (aR (by simp [Eqs]) hlt ⟨rfl,hle,?_⟩)
   rw [hor,List.drop_eq_getElem_cons hlt,jH,if_neg (by rw [hb];simp)];rfl
 ·have hge:b.objs.length≤i:=by simpa using hb
  refine ah ⟨?_,rfl⟩
  rw [hor,List.drop_of_length_le hge];rfl
theorem SG {H:Heap} {O:Own} {row:List Value} {x:It} (h:ItR H O row x) (q:Bool):RetO PP nP [.agg row.toArray,.bool q] H O (.bool (cZ x q)):=by
 obtain ⟨s,rfl,hs⟩:=h
 refine tB (vs:=[iV x.player,iV x.id,iV x.card,iV x.trig,s,.bool q]) (by kernel_rfl) ⟨rfl,rfl,rfl,rfl,hs.one,rfl,trivial⟩ ?_
 simp only [ju]
 have lt:=hs.len
 have hB:=hs.lenB
 rw [List.length_map] at lt hB
 have e4:∀ {k:Value→Tree} {Q:Value→Heap→Own→Prop} {H':Heap} {O':Own},(k (iV x.tgs.length)).den PP Q H' O'→(Tree.pure [] .len [g [iV x.player,iV x.id,iV x.card,iV x.trig,s,Value.bool q] 4] k).den PP Q H' O':=fun hk=>aa _ lt hk
 repeat (first | refine ab ?_ | refine ae ?_ | refine af fun _=>?_ | refine aa _ (aI _ _) ?_ | refine aa _ (bN _ _) ?_ | refine aa _ (eY _ _) ?_ | refine aa _ (dt _ _) ?_ | refine aa _ (aC _ _) ?_ | refine aa _ (ba _ _) ?_ | refine aa _ (aU _ _) ?_ | refine aa _ (aP _ _) ?_ | refine aa _ (aJ _) ?_ | refine aa _ (wv _ _) ?_ | refine aa _ (oO _ _) ?_)
 refine e4 ?_
 refine ae (aa _ (aI _ _) (ae (aa _ (aP _ _) ?_)))
 have fiff:cZ x q=true ↔ (0≤x.player∧x.player≤1)∧(1≤x.id∧x.id≤500)∧(0≤x.card∧x.card≤399)∧(-1≤x.trig∧x.trig≤1)∧(x.tgs.length≤4∧¬ (0≤x.trig∧0 < x.tgs.length)∧¬ (q=true∧x.trig < 0))∧(x.tgs.any fun t=>!kc t)=false:=by
  simp only [cZ,au,Bool.and_eq_true,Bool.not_eq_true',Bool.or_eq_false_iff,Bool.and_eq_false_iff,decide_eq_true_eq,decide_eq_false_iff_not]
  generalize (x.tgs.any fun t=>!kc t)=c
  cases q <;> simp only [Bool.false_eq_true,false_and,true_and,not_false_eq_true,and_true,reduceCtorEq,or_false,false_or,true_or] <;> constructor <;> intro e <;> (try obtain ⟨e1,e2,e3,e4,e5,e6⟩:=e) <;> (try refine ⟨?_,?_,?_,?_,?_,?_⟩) <;> first | omega | assumption
 refine aj (fun h1=>ah ⟨I6 ?_,rfl⟩) (fun h1=>?_)
 ·rw [fiff]
  simp only [Bool.or_eq_true,decide_eq_true_eq] at h1
  refine ⟨fun e=>(by cases e),fun ⟨e1,e2,e3,e4,e5,e6⟩=>?_⟩
  omega
 simp only [Bool.or_eq_false_iff,decide_eq_false_iff_not] at h1
 refine ab (aa _ (eY _ _) (ab (ae (ae ?_))))
 refine e4 ?_
 refine ae (aa _ (aI _ _) (ae (aa _ (aU _ _) (ae (ab (ae (ae (ae (ae (aa _ (aI _ _) (ae (ae (ae (aa _ (aU _ _) (ae (aa _ (aP _ _) ?_))))))))))))))))
 refine aj (fun h2=>ah ⟨I6 ?_,rfl⟩) (fun h2=>?_)
 ·rw [fiff]
  simp only [Bool.or_eq_true,Bool.and_eq_true,decide_eq_true_eq] at h2
  refine ⟨fun e=>(by cases e),fun ⟨e1,e2,e3,e4,⟨e5,e6,e7⟩,e8⟩=>?_⟩
  rcases h2 with h2 | h2
  ·omega
  ·exact absurd h2 e7
 simp only [Bool.or_eq_false_iff,Bool.and_eq_false_iff,decide_eq_false_iff_not] at h2
 have hfin:(Value.bool (!(x.tgs.any fun t=>!kc t)):Value)=.bool (cZ x q):=by
  refine I6 ?_
  rw [fiff,Bool.not_eq_true']
  refine ⟨fun e=>⟨by omega,by omega,by omega,by omega,⟨by omega,by omega,fun e'=>?_⟩,e⟩,fun e=>e.2.2.2.2.2⟩
  rcases h2.2 with h3 | h3
  ·rw [h3] at e';cases e'.1
  ·exact h3 e'.2
 refine aX x.tgs.length (fun i H' O'=>O'=O∧Heap.le H H'∧(x.tgs.any fun t=>!kc t)=((x.tgs.drop i).any fun t=>!kc t)) ⟨rfl,Heap.le_refl H,rfl⟩ ?_
 rintro i H' O' hi - ⟨rfl,hle,hor⟩
 refine ab (e4 (aa _ (aI _ _) (aj (fun hb=>?_) (fun hb=>?_))))
 ·have hlt:i < x.tgs.length:=by simpa using hb
  obtain ⟨a,k1,k2,_,k3,k4⟩:=(hs.le hle).idx .i64 i (Tg.row x.tgs[i]) (by simp [hlt])
  refine ab (aa _ k1 (aw k2 k3 k4 ?_))
  repeat (first | refine ab ?_ | refine ae ?_ | refine af fun _=>?_ | refine aa _ (aI _ _) ?_ | refine aa _ (bN _ _) ?_ | refine aa _ (eY _ _) ?_ | refine aa _ (dt _ _) ?_ | refine aa _ (aC _ _) ?_ | refine aa _ (ba _ _) ?_ | refine aa _ (aU _ _) ?_ | refine aa _ (aP _ _) ?_ | refine aa _ (aJ _) ?_ | refine aa _ (wv _ _) ?_ | refine aa _ (oO _ _) ?_)
  have hst:((x.tgs.drop i).any fun t=>!kc t)=(!kc x.tgs[i] || ((x.tgs.drop (i + 1)).any fun t=>!kc t)):=by rw [List.drop_eq_getElem_cons hlt,List.any_cons]
  refine aj (fun hb=>ah ⟨?_,rfl⟩) (fun hb=>?_)
  ·have:kc x.tgs[i]=false:=by simp [kc,au] at hb ⊢;omega
   rw [← hfin,hor,hst,this];rfl
  ·have:kc x.tgs[i]=true:=by simp [kc,au] at hb ⊢;omega
   refine aa _ (aA (by omega)) (aR (by simp [Eqs]) hlt ⟨rfl,hle,?_⟩)
   rw [hor,hst,this];rfl
 ·have hge:x.tgs.length≤i:=by simpa using hb
  refine ah ⟨?_,rfl⟩
  rw [← hfin,hor,List.drop_of_length_le hge];rfl
end Go.Proofs.YtdhobpmnkfmcfaaGreatDoor
namespace Go.Proofs.YtdhobpmnkfmcfaaGreatDoor
open Go Go.Sx
set_option maxRecDepth 100000
set_option maxHeartbeats 1000000
def Vf (s:St):Prop:=s.lib.length≤100000∧s.hand.length≤100000∧s.field.length≤100000∧s.grave.length≤100000
def Kq (b:Bd):Prop:=Vf b.s0∧Vf b.s1∧b.stack.length≤100000
def jT (p id:Int) (x:It):Bool:=(x.trig == -1 && x.id == id) && x.player == p
def s6 (s:St) (id:Int):Nat:=((s.lib.count id + s.hand.count id) + s.field.count id) + s.grave.count id
def tQ (b:Bd) (p id:Int):Nat:=(if p=0 then s6 b.s0 id else s6 b.s1 id) + b.stack.countP (jT p id)
theorem kS {α:Type} {l:List α} {i:Nat} (h:i < l.length) (p:α→Bool):(l.take (i + 1)).countP p=(l.take i).countP p + (if p l[i] then 1 else 0):=by
 rw [List.take_add_one,List.getElem?_eq_getElem h,Option.toList_some,List.countP_append,List.countP_singleton]
theorem Hh {n:Nat} (h:n < 2 ^ 63):ak (.bin .add .int) [iV 0,iV (n:Int)]=some (iV (n:Int)):=by
 have:=gX (i:=0) (n:=n) (by omega)
 simpa using this
theorem Q4 {H:Heap} {O:Own} {v:dG} {b:Bd} (h:BdR H O v b) (hfit:Kq b) {p:Int} (hp:p=0∨p=1) (id:Int) :
  RetO PP lJ [.agg (ao v b).toArray,iV p,iV id] H O (iV ((tQ b p id:Nat):Int)):=by
 refine qC (vs:=ao v b++[iV p,iV id]) (by kernel_rfl) (aE (ap h) ⟨rfl,rfl,trivial⟩) ?_
 simp only [gY]
 obtain ⟨⟨f1,f2,f3,f4⟩,⟨f5,f6,f7,f8⟩,f9⟩:=hfit
 refine af fun r0=>?_
 have e38:g (ao v b++[iV p,iV id]) 38=iV p:=rfl
 rw [e38]
 rcases hp with rfl | rfl
 ·refine ⟨.i64,0,rfl,fun _=>?_,fun e=>absurd rfl e⟩
  obtain ⟨z1,z2,z3,z4⟩:=gj h.s0
  have c1:b.s0.lib.count id≤b.s0.lib.length:=List.count_le_length
  have c2:b.s0.hand.count id≤b.s0.hand.length:=List.count_le_length
  have c3:b.s0.field.count id≤b.s0.field.length:=List.count_le_length
  have c4:b.s0.grave.count id≤b.s0.grave.length:=List.count_le_length
  refine ab (ai (oC b.s0 z1 z2 z3 z4 H O) rfl ⟨z1,z2,z3,z4,trivial⟩ fun H1 l1=>?_)
  replace h:=h.le l1
  refine ai (iz h.s0.lib id) rfl ⟨rfl,trivial⟩ fun H2 l2=>aa _ (Hh (by omega)) ?_
  replace h:=h.le l2
  refine ai (iz h.s0.hand id) rfl ⟨rfl,trivial⟩ fun H3 l3=>aa _ (gX (by omega)) ?_
  replace h:=h.le l3
  refine ai (iz h.s0.field id) rfl ⟨rfl,trivial⟩ fun H4 l4=>aa _ (gX (by omega)) ?_
  replace h:=h.le l4
  refine ai (iz h.s0.grave id) rfl ⟨rfl,trivial⟩ fun H5 l5=>aa _ (gX (by omega)) ?_
  replace h:=h.le l5
  have hz:((b.s0.lib.count id + b.s0.hand.count id) + b.s0.field.count id) + b.s0.grave.count id=s6 b.s0 id:=rfl
  have hzb:s6 b.s0 id≤400000:=by unfold s6;omega
  rw [hz]
  obtain ⟨rows,hrs,hrl,hit⟩:=h.stack
  have hsl:ak .len [v.s]=some (iV b.stack.length):=ItsR.len h.stack
  refine dn b.stack.length (fun i x H' O'=>O'=O∧Heap.le H5 H'∧x=iV ((s6 b.s0 id + (b.stack.take i).countP (jT 0 id):Nat):Int)) ⟨rfl,Heap.le_refl _,by simp⟩ ?_
  rintro i x H' O' hi - ⟨rfl,hle,rfl⟩
  have hci:(b.stack.take i).countP (jT 0 id)≤i:=Nat.le_trans List.countP_le_length (by simp;omega)
  refine ab (aa _ hsl (aa _ (aI _ _) (aj (fun hb=>?_) (fun hb=>?_))))
  ·have hlt:i < b.stack.length:=by simpa using hb
   obtain ⟨a,h1,h2,_,h3,h4⟩:=(hrs.le hle).idx .i64 i rows[i] (by simp [hrl,hlt])
   obtain ⟨s,hrow,_⟩:=hit i rows[i] b.stack[i] (by simp [hrl,hlt]) (by simp [hlt])
   rw [hrow] at h2 h3 h4
   refine ab (aa _ h1 (aw h2 h3 h4 ?_))
   refine af fun _=>ab (ab (aa _ (aC _ _) (ab (ae (ae (ae (aa _ (aC _ _) (ae (aa _ (aU _ _) (ab (ae (ae (ae (aa _ (aC _ _) (ae (aa _ (aU _ _) ?_))))))))))))))))
   refine aj (fun hb=>?_) (fun hb=>?_)
   ·refine aa _ (aA (by omega)) (aa _ (aA (by omega)) (aT (by simp [Eqs]) hlt ⟨rfl,hle,?_⟩))
    have:jT 0 id b.stack[i]=true:=hb
    rw [kS hlt,this];rfl
   ·refine aa _ (aA (by omega)) (aT (by simp [Eqs]) hlt ⟨rfl,hle,?_⟩)
    have:jT 0 id b.stack[i]=false:=hb
    rw [kS hlt,this];rfl
  ·have:b.stack.length≤i:=by simpa using hb
   refine ah ⟨?_,rfl⟩
   rw [List.take_of_length_le this];rfl
 ·refine ⟨.i64,1,rfl,fun e=>absurd e (by omega),fun _=>⟨.i64,1,rfl,fun _=>?_,fun e=>absurd rfl e⟩⟩
  obtain ⟨z1,z2,z3,z4⟩:=gj h.s1
  have c1:b.s1.lib.count id≤b.s1.lib.length:=List.count_le_length
  have c2:b.s1.hand.count id≤b.s1.hand.length:=List.count_le_length
  have c3:b.s1.field.count id≤b.s1.field.length:=List.count_le_length
  have c4:b.s1.grave.count id≤b.s1.grave.length:=List.count_le_length
  refine ab (ai (oC b.s1 z1 z2 z3 z4 H O) rfl ⟨z1,z2,z3,z4,trivial⟩ fun H1 l1=>?_)
  replace h:=h.le l1
  refine ai (iz h.s1.lib id) rfl ⟨rfl,trivial⟩ fun H2 l2=>aa _ (Hh (by omega)) ?_
  replace h:=h.le l2
  refine ai (iz h.s1.hand id) rfl ⟨rfl,trivial⟩ fun H3 l3=>aa _ (gX (by omega)) ?_
  replace h:=h.le l3
  refine ai (iz h.s1.field id) rfl ⟨rfl,trivial⟩ fun H4 l4=>aa _ (gX (by omega)) ?_
  replace h:=h.le l4
  refine ai (iz h.s1.grave id) rfl ⟨rfl,trivial⟩ fun H5 l5=>aa _ (gX (by omega)) ?_
  replace h:=h.le l5
  have hz:((b.s1.lib.count id + b.s1.hand.count id) + b.s1.field.count id) + b.s1.grave.count id=s6 b.s1 id:=rfl
  have hzb:s6 b.s1 id≤400000:=by unfold s6;omega
  rw [hz]
  obtain ⟨rows,hrs,hrl,hit⟩:=h.stack
  have hsl:ak .len [v.s]=some (iV b.stack.length):=ItsR.len h.stack
  refine dn b.stack.length (fun i x H' O'=>O'=O∧Heap.le H5 H'∧x=iV ((s6 b.s1 id + (b.stack.take i).countP (jT 1 id):Nat):Int)) ⟨rfl,Heap.le_refl _,by simp⟩ ?_
  rintro i x H' O' hi - ⟨rfl,hle,rfl⟩
  have hci:(b.stack.take i).countP (jT 1 id)≤i:=Nat.le_trans List.countP_le_length (by simp;omega)
  refine ab (aa _ hsl (aa _ (aI _ _) (aj (fun hb=>?_) (fun hb=>?_))))
  ·have hlt:i < b.stack.length:=by simpa using hb
   obtain ⟨a,h1,h2,_,h3,h4⟩:=(hrs.le hle).idx .i64 i rows[i] (by simp [hrl,hlt])
   obtain ⟨s,hrow,_⟩:=hit i rows[i] b.stack[i] (by simp [hrl,hlt]) (by simp [hlt])
   rw [hrow] at h2 h3 h4
   refine ab (aa _ h1 (aw h2 h3 h4 ?_))
   refine af fun _=>ab (ab (aa _ (aC _ _) (ab (ae (ae (ae (aa _ (aC _ _) (ae (aa _ (aU _ _) (ab (ae (ae (ae (aa _ (aC _ _) (ae (aa _ (aU _ _) ?_))))))))))))))))
   refine aj (fun hb=>?_) (fun hb=>?_)
   ·refine aa _ (aA (by omega)) (aa _ (aA (by omega)) (aT (by simp [Eqs]) hlt ⟨rfl,hle,?_⟩))
    have:jT 1 id b.stack[i]=true:=hb
    rw [kS hlt,this];rfl
   ·refine aa _ (aA (by omega)) (aT (by simp [Eqs]) hlt ⟨rfl,hle,?_⟩)
    have:jT 1 id b.stack[i]=false:=hb
    rw [kS hlt,this];rfl
  ·have:b.stack.length≤i:=by simpa using hb
   refine ah ⟨?_,rfl⟩
   rw [List.take_of_length_le this];rfl
end Go.Proofs.YtdhobpmnkfmcfaaGreatDoor
namespace Go.Proofs.YtdhobpmnkfmcfaaGreatDoor
open Go Go.Sx
set_option maxRecDepth 100000
set_option maxHeartbeats 1000000
theorem nr {α:Type} (p:α→Bool):∀ (l:List α) (i:Int),0≤i→(jH p l i=-1∧∀ x ∈ l,p x=false)∨∃ (k:Nat) (x:α),l[k]?=some x∧p x=true∧jH p l i=i + k
 | [],i,_=>.inl ⟨rfl,by simp⟩
 | a::l,i,h=>by
  simp only [jH]
  by_cases hp:p a=true
  ·right;exact ⟨0,a,rfl,hp,by rw [if_pos hp];simp⟩
  ·rw [if_neg hp]
   rcases nr p l (i + 1) (by omega) with ⟨h1,h2⟩ | ⟨k,x,h1,h2,h3⟩
   ·left
    refine ⟨h1,fun x hx=>?_⟩
    rcases List.mem_cons.1 hx with rfl | hx
    ·simpa using hp
    ·exact h2 x hx
   ·right;exact ⟨k + 1,x,by simpa using h1,h2,by rw [h3];omega⟩
def uf (b:Bd) (i:Int):Int:=(b.objs[i.toNat]?.map (·.card)).getD 0
def nZ (b:Bd) (x:It):Bool:=decide (x.trig ≥ 0) || !(decide (fM b x.id < 0) || (uf b (fM b x.id) != x.card))
def rY (x:It):Bool:=!decide (x.trig ≥ 0)
def GA (b:Bd):Nat:=b.s0.lib.length + b.s0.hand.length + b.s0.field.length + b.s0.grave.length + b.s1.lib.length + b.s1.hand.length + b.s1.field.length + b.s1.grave.length
def oH (b:Bd):Option Int→List Ob→Bool
 | _,[]=>true
 | prev,o::r=>(!(!aY o || jQ prev o.id) && (((tQ b o.owner o.id:Nat):Int) == 1)) && oH b (some o.id) r
def vD (b:Bd):Bool:=b.stack.all (nZ b) && (oH b none b.objs && (((GA b + b.stack.countP rY:Nat):Int) == (b.objs.length:Int)))
theorem nX {o:Ob} (h:aY o=true):o.owner=0∨o.owner=1:=((pn o).1 h).2.2.2.2.2.2
theorem TL {H:Heap} {O:Own} {v:dG} {b:Bd} (h:BdR H O v b) (hfit:Kq b):RetO PP mo [.agg (ao v b).toArray] H O (.bool (vD b)):=by
 refine sr (vs:=ao v b) (by kernel_rfl) (ap h) ?_
 simp only [iI]
 have hfit':=hfit
 obtain ⟨⟨f1,f2,f3,f4⟩,⟨f5,f6,f7,f8⟩,f9⟩:=hfit
 have len1:∀ {H':Heap} {O':Own} {w:Value} {l:List Int},RSl H' O' 1 w (aG l)→ak .len [w]=some (iV l.length):=fun h=>by have:=h.len;rwa [aG,List.length_map] at this
 obtain ⟨z1,z2,z3,z4⟩:=gj h.s0
 obtain ⟨z5,z6,z7,z8⟩:=gj h.s1
 refine af fun r0=>ab (ai (oC b.s0 z1 z2 z3 z4 H O) rfl ⟨z1,z2,z3,z4,trivial⟩ fun H1 l1=>?_)
 replace h:=h.le l1
 refine aa _ (len1 h.s0.lib) (aa _ (Hh (by omega)) (aa _ (len1 h.s0.hand) (aa _ (gX (by omega)) (aa _ (len1 h.s0.field) (aa _ (gX (by omega)) (aa _ (len1 h.s0.grave) (aa _ (gX (by omega)) ?_)))))))
 refine ab (ai (oC b.s1 z5 z6 z7 z8 H1 O) rfl ⟨z5,z6,z7,z8,trivial⟩ fun H2 l2=>?_)
 replace h:=h.le l2
 refine aa _ (len1 h.s1.lib) (aa _ (gX (by omega)) (aa _ (len1 h.s1.hand) (aa _ (gX (by omega)) (aa _ (len1 h.s1.field) (aa _ (gX (by omega)) (aa _ (len1 h.s1.grave) (aa _ (gX (by omega)) ?_)))))))
 have hz:b.s0.lib.length + b.s0.hand.length + b.s0.field.length + b.s0.grave.length + b.s1.lib.length + b.s1.hand.length + b.s1.field.length + b.s1.grave.length=GA b:=rfl
 have hzb:GA b≤800000:=by unfold GA;omega
 rw [hz]
 have hsl:ak .len [v.s]=some (iV b.stack.length):=ItsR.len h.stack
 have stk:=h.stack
 obtain ⟨rows,hrs,hrl,hit⟩:=stk
 have lo:=h.objs.len
 have lob:=h.objs.lenB
 rw [List.length_map] at lo lob
 refine dn b.stack.length (fun i x H' O'=>O'=O∧Heap.le H2 H'∧x=iV ((GA b + (b.stack.take i).countP rY:Nat):Int)∧b.stack.all (nZ b)=(b.stack.drop i).all (nZ b)) ⟨rfl,Heap.le_refl _,by simp,rfl⟩ ?_
 rintro i x H' O' hi - ⟨rfl,hle,rfl,hor⟩
 have hci:(b.stack.take i).countP rY≤i:=Nat.le_trans List.countP_le_length (by simp;omega)
 refine ab (aa _ hsl (aa _ (aI _ _) (aj (fun hb=>?_) (fun hb=>?_))))
 ·have hlt:i < b.stack.length:=by simpa using hb
  obtain ⟨a,h1,h2,_,h3,h4⟩:=(hrs.le hle).idx .i64 i rows[i] (by simp [hrl,hlt])
  obtain ⟨s,hrow,_⟩:=hit i rows[i] b.stack[i] (by simp [hrl,hlt]) (by simp [hlt])
  rw [hrow] at h2 h3 h4
  have hst:(b.stack.drop i).all (nZ b)=(nZ b b.stack[i] && (b.stack.drop (i + 1)).all (nZ b)):=by rw [List.drop_eq_getElem_cons hlt,List.all_cons]
  refine ab (aa _ h1 (aw h2 h3 h4 ?_))
  refine af fun _=>ab (ab (aa _ (eY _ _) ?_))
  refine aj (fun hb=>?_) (fun hb=>?_)
  ·refine aa _ (aA (by omega)) (aT (by simp [Eqs]) hlt ⟨rfl,hle,?_,?_⟩)
   ·have:rY b.stack[i]=false:=by simp only [rY,hb,Bool.not_true]
    rw [kS hlt,this];rfl
   ·rw [hor,hst]
    have:nZ b b.stack[i]=true:=by simp only [nZ,hb,Bool.true_or]
    rw [this,Bool.true_and]
  ·refine aa _ (aA (by omega)) (ab (ab (ai (CN (h.le hle) b.stack[i].id) rfl ⟨rfl,trivial⟩ fun H3 l3=>aa _ (aI _ _) ?_)))
   refine ab (ae (ae (ae ?_)))
   have hpv:∃ pv:Value,pv.oneCell'=true∧(¬ (fM b b.stack[i].id < 0)→ak (.idx 12) [v.o,iV (fM b b.stack[i].id)]=some pv∧GG pv=true∧Reads H3 O' (be pv 1) 1 [iV (uf b (fM b b.stack[i].id))]):=by
    rcases nr (fun o=>o.id == b.stack[i].id) b.objs 0 (by omega) with ⟨e,_⟩ | ⟨k,o,e1,_,e3⟩
    ·refine ⟨iV 0,rfl,fun hn=>?_⟩
     exfalso;apply hn
     show fM b b.stack[i].id < 0
     unfold fM;omega
    ·have e3:fM b b.stack[i].id=(k:Int):=by unfold fM;omega
     obtain ⟨a,k1,k2,k3,_⟩:=((h.objs.le (Heap.le_trans hle l3))).idx .i64 k (Ob.row o) (by rw [List.getElem?_map,e1];rfl)
     refine ⟨.pointer (some a),rfl,fun _=>⟨by rw [e3];exact k1,rfl,?_⟩⟩
     have:=k3 1 1 (by omega)
     rw [e3]
     have ec:uf b (k:Int)=o.card:=by simp [uf,e1]
     rw [ec];exact this
   obtain ⟨pv,hpone,hpv⟩:=hpv
   have hon:On [((.bool (decide (fM b b.stack[i].id < 0)):Value),false)]→¬ (fM b b.stack[i].id < 0):=fun h=>by
    have:=h.1
    simp at this
    omega
   refine ⟨pv,fun ho=>(hpv (hon ho)).1,.inr hpone,?_⟩
   refine ⟨fun ho=>(hpv (hon ho)).2.1,?_⟩
   refine ae (ae ?_)
   refine ⟨[iV (uf b (fM b b.stack[i].id))],rfl,⟨rfl,trivial⟩,fun ho=>(hpv (hon ho)).2.2,?_⟩
   refine ab (ae (ae (ae (aa _ (ba _ _) (ae (aa _ (aP _ _) ?_))))))
   have hsi:nZ b b.stack[i]=!(decide (fM b b.stack[i].id < 0) || (uf b (fM b b.stack[i].id) != b.stack[i].card)):=by simp only [nZ,hb,Bool.false_or]
   refine aj (fun hc=>ah ⟨?_,rfl⟩) (fun hc=>?_)
   ·have:b.stack.all (nZ b)=false:=by rw [hor,hst,hsi,show (decide (fM b b.stack[i].id < 0) || (uf b (fM b b.stack[i].id) != b.stack[i].card))=true from hc];rfl
    rw [vD,this];rfl
   ·refine aa _ (aA (by omega)) (aT (by simp [Eqs]) hlt ⟨rfl,Heap.le_trans hle l3,?_,?_⟩)
    ·have:rY b.stack[i]=true:=by simp only [rY,hb,Bool.not_false]
     rw [kS hlt,this];rfl
    ·rw [hor,hst,hsi,show (decide (fM b b.stack[i].id < 0) || (uf b (fM b b.stack[i].id) != b.stack[i].card))=false from hc];rfl
 ·have hge:b.stack.length≤i:=by simpa using hb
  rw [List.take_of_length_le hge] at hci ⊢
  rw [List.drop_of_length_le hge] at hor
  have hfr:vD b=(oH b none b.objs && (((GA b + b.stack.countP rY:Nat):Int) == (b.objs.length:Int))):=by rw [vD,hor];rfl
  replace h:=h.le hle
  refine aX b.objs.length (fun i H'' O''=>O''=O'∧Heap.le H' H''∧oH b none b.objs=oH b (nk b.objs i) (b.objs.drop i)) ⟨rfl,Heap.le_refl _,by simp [nk]⟩ ?_
  rintro j H'' O'' hj - ⟨rfl,hle2,hor2⟩
  refine ab (aa _ lo (aa _ (aI _ _) (aj (fun hb=>?_) (fun hb=>?_))))
  ·have hlt:j < b.objs.length:=by simpa using hb
   obtain ⟨a,h1,h2,_,h3,h4⟩:=(h.objs.le hle2).idx .i64 j (Ob.row b.objs[j]) (by simp [hlt])
   refine ab (aa _ h1 (aw h2 h3 h4 (af fun r2=>ab (ab (ai (EK b.objs[j] H'' O'') rfl ⟨rfl,trivial⟩ fun H4 l4=>?_)))))
   have l4':=Heap.le_trans hle2 l4
   have hp:∃ (pv:Value) (x:Int),pv.oneCell'=true∧(0 < j→ak (.idx 12) [v.o,iV ((j:Int) - 1)]=some pv∧GG pv=true∧Reads H4 O'' pv 1 [iV x])∧jQ (nk b.objs j) b.objs[j].id=(decide ((j:Int) > 0) && decide (x ≥ b.objs[j].id)):=by
    rcases Nat.eq_zero_or_pos j with rfl | hpos
    ·exact ⟨iV 0,0,rfl,fun h=>absurd h (Nat.lt_irrefl 0),by simp [nk,jQ]⟩
    ·obtain ⟨j',rfl⟩:∃ j',j=j' + 1:=⟨j - 1,by omega⟩
     have hj':j' < b.objs.length:=by omega
     obtain ⟨a,k1,k2,k3,_⟩:=(h.objs.le l4').idx .i64 j' (Ob.row b.objs[j']) (by simp [hj'])
     refine ⟨.pointer (some a),b.objs[j'].id,rfl,fun _=>⟨?_,rfl,?_⟩,?_⟩
     ·have e:((j' + 1:Nat):Int) - 1=(j':Int):=by omega
      rw [e];exact k1
     ·have:=k3 0 1 (by omega)
      have e:be (.pointer (some a)) 0=.pointer (some a):=by simp [be,Addr.add]
      rwa [e] at this
     ·rw [xn hj']
      have:((j' + 1:Nat):Int) > 0:=by omega
      simp only [jQ,this,decide_true,Bool.true_and]
   obtain ⟨pv,x,hpone,hpv,hprev⟩:=hp
   have hsub1:ak (.bin .sub .int) [iV j,iV 1]=some (iV ((j:Int) - 1)):=by
    simp only [ak,fh,eE,if_true]
    rw [gC (by omega) (by omega)]
   have hon:∀ {u:Bool},On [((.bool (decide ((j:Int) > 0)):Value),true),(.bool u,false)]→0 < j:=fun h=>by
    have:=h.1
    simp at this
    omega
   refine aa _ (aJ _) (ae (aa _ (bN _ _) ?_))
   repeat (first | refine ab ?_ | refine ae ?_ | refine aa _ hsub1 ?_)
   refine ⟨pv,fun ho=>(hpv (hon ho)).1,.inr hpone,?_⟩
   refine ⟨fun ho=>(hpv (hon ho)).2.1,?_⟩
   refine ae (ae (ae (ae ?_)))
   refine ⟨[iV x],rfl,⟨rfl,trivial⟩,fun ho=>(hpv (hon ho)).2.2,?_⟩
   refine ab (ae (ae (ae (ae (ae (ae (aa _ (eY _ _) (ae (ae (ae (aa _ (aU _ _) (ae (aa _ (aP _ _) ?_)))))))))))))
   have hstep:oH b (nk b.objs j) (b.objs.drop j)=((!(!aY b.objs[j] || jQ (nk b.objs j) b.objs[j].id) && (((tQ b b.objs[j].owner b.objs[j].id:Nat):Int) == 1)) && oH b (some b.objs[j].id) (b.objs.drop (j + 1))):=by
    rw [List.drop_eq_getElem_cons hlt,oH]
   refine aj (fun hc=>ah ⟨?_,rfl⟩) (fun hc=>?_)
   ·rw [hfr,hor2,hstep,hprev,show (!aY b.objs[j] || (decide ((j:Int) > 0) && decide (x ≥ b.objs[j].id)))=true from hc];rfl
   have hc':(!aY b.objs[j] || (decide ((j:Int) > 0) && decide (x ≥ b.objs[j].id)))=false:=hc
   have hval:aY b.objs[j]=true:=by
    have:=(Bool.or_eq_false_iff.1 hc').1
    simpa using this
   refine ab (ab (ab (ai (Q4 (h.le l4') hfit' (nX hval) b.objs[j].id) rfl ⟨rfl,trivial⟩ fun H5 l5=>aa _ (ba _ _) (aj (fun hd=>ah ⟨?_,rfl⟩) (fun hd=>?_)))))
   ·have:(((tQ b b.objs[j].owner b.objs[j].id:Nat):Int) == 1)=false:=by simpa using hd
    rw [hfr,hor2,hstep,this];simp
   ·have:(((tQ b b.objs[j].owner b.objs[j].id:Nat):Int) == 1)=true:=by simpa using hd
    refine aa _ (aA (by omega)) (aR (by simp [Eqs]) hlt ⟨rfl,Heap.le_trans l4' l5,?_⟩)
    rw [hor2,hstep,hprev,hc',this,xn hlt];rfl
  ·have hge:b.objs.length≤j:=by simpa using hb
   rw [List.drop_of_length_le hge] at hor2
   refine ab (aa _ lo (aa _ (aC _ _) (ah ⟨?_,rfl⟩)))
   rw [hfr,hor2];rfl
end Go.Proofs.YtdhobpmnkfmcfaaGreatDoor
namespace Go.Proofs.YtdhobpmnkfmcfaaGreatDoor
open Go Go.Sx
set_option maxRecDepth 100000
set_option maxHeartbeats 1000000
def EQ (own att:List Int) (x:Int):Bool:=((((att.count x:Nat):Int) == 1) && (((own.count x:Nat):Int) == 1))
def kJ (x y:Bl):Bool:=(y.attacker == x.attacker) || (y.blocker == x.blocker)
def sa (att other:List Int) (done:List Bl) (x:Bl):Bool:=(((att.count x.attacker:Nat):Int) == 1) && ((((other.count x.blocker:Nat):Int) == 1) && done.all fun y=>!kJ x y)
def Hn (att other:List Int):List Bl→List Bl→Bool
 | _,[]=>true
 | done,x::r=>sa att other done x && Hn att other (done++[x]) r
def uW (own other att:List Int) (bl:List Bl):Bool:=att.all (EQ own att) && Hn att other [] bl
def ip (b:Bd):Bool:=if b.active=0 then uW b.s0.field b.s1.field b.att b.blocks else uW b.s1.field b.s0.field b.att b.blocks
theorem jJ {l:List Int} {x:Int} {c:Bool} (h:(((l.count x:Nat):Int) != 1)=c):(((l.count x:Nat):Int) == 1)=!c:=by rw [← h,bne,Bool.not_not]
theorem Q5 {H:Heap} {O:Own} {v:dG} {b:Bd} (h:BdR H O v b) (ha:b.active=0∨b.active=1):RetO PP lK [.agg (ao v b).toArray] H O (.bool (ip b)):=by
 refine qD (vs:=ao v b) (by kernel_rfl) (ap h) ?_
 simp only [gZ]
 have e34:g (ao v b) 34=iV b.active:=rfl
 rw [e34]
 have hs:∀ n:Int,n=0∨n=1→ak (.bin .sub .int) [iV 1,iV n]=some (iV (1 - n)):=by
  rintro n (rfl | rfl) <;> rfl
 have la:=h.att.len
 have laB:=h.att.lenB
 have lb:=h.blocks.len
 have lbB:=h.blocks.lenB
 simp only [aG,List.length_map] at la laB lb lbB
 rcases ha with ha | ha
 ·rw [ha]
  have hF:ip b=(b.att.all (EQ b.s0.field b.att) && Hn b.att b.s1.field [] b.blocks):=by simp [ip,uW,ha]
  refine af fun r0=>aX b.att.length (fun i H' O'=>O'=O∧Heap.le H H'∧b.att.all (EQ b.s0.field b.att)=(b.att.drop i).all (EQ b.s0.field b.att)) ⟨rfl,Heap.le_refl H,rfl⟩ ?_
  rintro i H' O' hi - ⟨rfl,hle,hor⟩
  refine ab (aa _ la (aa _ (aI _ _) (aj (fun hb=>?_) (fun hb=>?_))))
  ·have hlt:i < b.att.length:=by simpa using hb
   have hst:(b.att.drop i).all (EQ b.s0.field b.att)=(EQ b.s0.field b.att b.att[i] && (b.att.drop (i + 1)).all (EQ b.s0.field b.att)):=by rw [List.drop_eq_getElem_cons hlt,List.all_cons]
   obtain ⟨a,h1,h2,_,h3,h4⟩:=(h.att.le hle).idx .i64 i [iV b.att[i]] (by simp [aG,hlt])
   refine ab (ab (aa _ h1 (aw h2 h3 h4 (ai (iz (h.att.le hle) b.att[i]) rfl ⟨rfl,trivial⟩ fun H1 l1=>aa _ (ba _ _) (aj (fun hc=>ah ⟨?_,rfl⟩) (fun hc=>ab ?_))))))
   ·rw [hF,hor,hst,EQ,jJ hc];rfl
   refine ⟨.i64,0,rfl,fun _=>?_,fun e=>absurd rfl e⟩
   have l1':=Heap.le_trans hle l1
   obtain ⟨a,h1,h2,_,h3,h4⟩:=(h.att.le l1').idx .i64 i [iV b.att[i]] (by simp [aG,hlt])
   refine ab (ab (aa _ h1 (aw h2 h3 h4 (ai (iz (h.s0.field.le l1') b.att[i]) rfl ⟨rfl,trivial⟩ fun H2 l2=>aa _ (ba _ _) (aj (fun hd=>ah ⟨?_,rfl⟩) (fun hd=>?_))))))
   ·rw [hF,hor,hst,EQ,jJ hc,jJ hd];rfl
   ·refine aa _ (aA (by omega)) (aR (by simp [Eqs]) hlt ⟨rfl,Heap.le_trans l1' l2,?_⟩)
    rw [hor,hst,EQ,jJ hc,jJ hd];rfl
  ·have hge:b.att.length≤i:=by simpa using hb
   rw [List.drop_of_length_le hge] at hor
   have hF2:ip b=Hn b.att b.s1.field [] b.blocks:=by rw [hF,hor];rfl
   refine aX b.blocks.length (fun j H'' O''=>O''=O'∧Heap.le H' H''∧Hn b.att b.s1.field [] b.blocks=Hn b.att b.s1.field (b.blocks.take j) (b.blocks.drop j)) ⟨rfl,Heap.le_refl _,rfl⟩ ?_
   rintro j H'' O'' hj - ⟨rfl,hle2,hor2⟩
   have hle2:=Heap.le_trans hle hle2
   refine ab (aa _ lb (aa _ (aI _ _) (aj (fun hb=>?_) (fun hb=>?_))))
   ·have hlt:j < b.blocks.length:=by simpa using hb
    obtain ⟨a,h1,h2,_,h3,h4⟩:=(h.blocks.le hle2).idx .i64 j (Bl.row b.blocks[j]) (by simp [hlt])
    have hst:Hn b.att b.s1.field (b.blocks.take j) (b.blocks.drop j)=(sa b.att b.s1.field (b.blocks.take j) b.blocks[j] && Hn b.att b.s1.field (b.blocks.take (j + 1)) (b.blocks.drop (j + 1))):=by
     rw [List.drop_eq_getElem_cons hlt,Hn,List.take_add_one,List.getElem?_eq_getElem hlt];rfl
    refine ab (aa _ h1 (aw h2 h3 h4 (af fun r1=>ab (ab (ab (ai (iz (h.att.le hle2) b.blocks[j].attacker) rfl ⟨rfl,trivial⟩ fun H1 l1=>aa _ (ba _ _) (aj (fun hc=>ah ⟨?_,rfl⟩) (fun hc=>ab (aa _ (hs _ (.inl rfl)) ?_)))))))))
    ·rw [hF2,hor2,hst,sa,jJ hc];rfl
    refine ⟨.i64,1,rfl,fun e=>absurd e (by omega),fun _=>⟨.i64,1,rfl,fun _=>?_,fun e=>absurd rfl e⟩⟩
    have l1':=Heap.le_trans hle2 l1
    refine ab (ab (ai (iz (h.s1.field.le l1') b.blocks[j].blocker) rfl ⟨rfl,trivial⟩ fun H2 l2=>aa _ (ba _ _) (aj (fun hd=>ah ⟨?_,rfl⟩) (fun hd=>?_))))
    ·rw [hF2,hor2,hst,sa,jJ hc,jJ hd];rfl
    have l2':=Heap.le_trans l1' l2
    have hone:sa b.att b.s1.field (b.blocks.take j) b.blocks[j]=(b.blocks.take j).all fun y=>!kJ b.blocks[j] y:=by rw [sa,jJ hc,jJ hd];rfl
    refine aX j (fun k H3 O3=>O3=O''∧Heap.le H2 H3∧((b.blocks.take j).all fun y=>!kJ b.blocks[j] y)=(((b.blocks.take j).drop k).all fun y=>!kJ b.blocks[j] y)) ⟨rfl,Heap.le_refl _,rfl⟩ ?_
    rintro k H3 O3 hk - ⟨rfl,hle3,hor3⟩
    have hle3:=Heap.le_trans l2' hle3
    refine aa _ (aI _ _) (aj (fun hb=>?_) (fun hb=>?_))
    ·have hltk:k < j:=by simpa using hb
     have hltb:k < b.blocks.length:=by omega
     have hst3:(((b.blocks.take j).drop k).all fun y=>!kJ b.blocks[j] y)=(!kJ b.blocks[j] b.blocks[k] && (((b.blocks.take j).drop (k + 1)).all fun y=>!kJ b.blocks[j] y)):=by
      rw [List.drop_eq_getElem_cons (by simp;omega),List.all_cons,List.getElem_take]
     obtain ⟨a,k1,_,k3,_⟩:=(h.blocks.le hle3).idx .i64 k (Bl.row b.blocks[k]) (by simp [hltb])
     have hr1:Reads H3 O3 (be (.pointer (some a)) 1) 1 [iV b.blocks[k].attacker]:=k3 1 1 (by omega)
     have hr0:Reads H3 O3 (.pointer (some a)) 1 [iV b.blocks[k].blocker]:=by
      have:=k3 0 1 (by omega)
      have e:be (.pointer (some a)) 0=.pointer (some a):=by simp [be,Addr.add]
      rwa [e] at this
     refine ab (aa _ k1 (aK rfl (aw hr1 rfl ⟨rfl,trivial⟩ (ab (aa _ (aC _ _) ?_)))))
     refine ab (ae (ae (ae ?_)))
     refine xm k1 rfl (aK rfl ?_)
     refine ae (ae ?_)
     refine ⟨[iV b.blocks[k].blocker],rfl,⟨rfl,trivial⟩,fun _=>hr0,?_⟩
     refine ab (ae (ae (ae (aa _ (aC _ _) (ae (aa _ (aP _ _) ?_))))))
     refine aj (fun hx=>ah ⟨?_,rfl⟩) (fun hx=>?_)
     ·rw [hF2,hor2,hst,hone,hor3,hst3,show kJ b.blocks[j] b.blocks[k]=true from hx];rfl
     ·refine aa _ (aA (by omega)) (aR (by simp [Eqs]) hltk ⟨rfl,Heap.le_trans (Heap.le_refl _) ?_,?_⟩)
      ·assumption
      ·rw [hor3,hst3,show kJ b.blocks[j] b.blocks[k]=false from hx];rfl
    ·have hke:(b.blocks.take j).length≤k:=by
      have:j≤k:=by simpa using hb
      simp;omega
     rw [List.drop_of_length_le hke] at hor3
     refine aa _ (aA (by omega)) (aR (by simp [Eqs]) hlt ⟨rfl,?_,?_⟩)
     ·exact Heap.le_trans (by assumption) (Heap.le_trans l1 (Heap.le_trans l2 (by assumption)))
     ·rw [hor2,hst,hone,hor3];rfl
   ·have hge2:b.blocks.length≤j:=by simpa using hb
    refine ah ⟨?_,rfl⟩
    rw [hF2,hor2,List.drop_of_length_le hge2];rfl
 ·rw [ha]
  have hF:ip b=(b.att.all (EQ b.s1.field b.att) && Hn b.att b.s0.field [] b.blocks):=by simp [ip,uW,ha]
  refine af fun r0=>aX b.att.length (fun i H' O'=>O'=O∧Heap.le H H'∧b.att.all (EQ b.s1.field b.att)=(b.att.drop i).all (EQ b.s1.field b.att)) ⟨rfl,Heap.le_refl H,rfl⟩ ?_
  rintro i H' O' hi - ⟨rfl,hle,hor⟩
  refine ab (aa _ la (aa _ (aI _ _) (aj (fun hb=>?_) (fun hb=>?_))))
  ·have hlt:i < b.att.length:=by simpa using hb
   have hst:(b.att.drop i).all (EQ b.s1.field b.att)=(EQ b.s1.field b.att b.att[i] && (b.att.drop (i + 1)).all (EQ b.s1.field b.att)):=by rw [List.drop_eq_getElem_cons hlt,List.all_cons]
   obtain ⟨a,h1,h2,_,h3,h4⟩:=(h.att.le hle).idx .i64 i [iV b.att[i]] (by simp [aG,hlt])
   refine ab (ab (aa _ h1 (aw h2 h3 h4 (ai (iz (h.att.le hle) b.att[i]) rfl ⟨rfl,trivial⟩ fun H1 l1=>aa _ (ba _ _) (aj (fun hc=>ah ⟨?_,rfl⟩) (fun hc=>ab ?_))))))
   ·rw [hF,hor,hst,EQ,jJ hc];rfl
   refine ⟨.i64,1,rfl,fun e=>absurd e (by omega),fun _=>⟨.i64,1,rfl,fun _=>?_,fun e=>absurd rfl e⟩⟩
   have l1':=Heap.le_trans hle l1
   obtain ⟨a,h1,h2,_,h3,h4⟩:=(h.att.le l1').idx .i64 i [iV b.att[i]] (by simp [aG,hlt])
   refine ab (ab (aa _ h1 (aw h2 h3 h4 (ai (iz (h.s1.field.le l1') b.att[i]) rfl ⟨rfl,trivial⟩ fun H2 l2=>aa _ (ba _ _) (aj (fun hd=>ah ⟨?_,rfl⟩) (fun hd=>?_))))))
   ·rw [hF,hor,hst,EQ,jJ hc,jJ hd];rfl
   ·refine aa _ (aA (by omega)) (aR (by simp [Eqs]) hlt ⟨rfl,Heap.le_trans l1' l2,?_⟩)
    rw [hor,hst,EQ,jJ hc,jJ hd];rfl
  ·have hge:b.att.length≤i:=by simpa using hb
   rw [List.drop_of_length_le hge] at hor
   have hF2:ip b=Hn b.att b.s0.field [] b.blocks:=by rw [hF,hor];rfl
   refine aX b.blocks.length (fun j H'' O''=>O''=O'∧Heap.le H' H''∧Hn b.att b.s0.field [] b.blocks=Hn b.att b.s0.field (b.blocks.take j) (b.blocks.drop j)) ⟨rfl,Heap.le_refl _,rfl⟩ ?_
   rintro j H'' O'' hj - ⟨rfl,hle2,hor2⟩
   have hle2:=Heap.le_trans hle hle2
   refine ab (aa _ lb (aa _ (aI _ _) (aj (fun hb=>?_) (fun hb=>?_))))
   ·have hlt:j < b.blocks.length:=by simpa using hb
    obtain ⟨a,h1,h2,_,h3,h4⟩:=(h.blocks.le hle2).idx .i64 j (Bl.row b.blocks[j]) (by simp [hlt])
    have hst:Hn b.att b.s0.field (b.blocks.take j) (b.blocks.drop j)=(sa b.att b.s0.field (b.blocks.take j) b.blocks[j] && Hn b.att b.s0.field (b.blocks.take (j + 1)) (b.blocks.drop (j + 1))):=by
     rw [List.drop_eq_getElem_cons hlt,Hn,List.take_add_one,List.getElem?_eq_getElem hlt];rfl
    refine ab (aa _ h1 (aw h2 h3 h4 (af fun r1=>ab (ab (ab (ai (iz (h.att.le hle2) b.blocks[j].attacker) rfl ⟨rfl,trivial⟩ fun H1 l1=>aa _ (ba _ _) (aj (fun hc=>ah ⟨?_,rfl⟩) (fun hc=>ab (aa _ (hs _ (.inr rfl)) ?_)))))))))
    ·rw [hF2,hor2,hst,sa,jJ hc];rfl
    refine ⟨.i64,0,rfl,fun _=>?_,fun e=>absurd rfl e⟩
    have l1':=Heap.le_trans hle2 l1
    refine ab (ab (ai (iz (h.s0.field.le l1') b.blocks[j].blocker) rfl ⟨rfl,trivial⟩ fun H2 l2=>aa _ (ba _ _) (aj (fun hd=>ah ⟨?_,rfl⟩) (fun hd=>?_))))
    ·rw [hF2,hor2,hst,sa,jJ hc,jJ hd];rfl
    have l2':=Heap.le_trans l1' l2
    have hone:sa b.att b.s0.field (b.blocks.take j) b.blocks[j]=(b.blocks.take j).all fun y=>!kJ b.blocks[j] y:=by rw [sa,jJ hc,jJ hd];rfl
    refine aX j (fun k H3 O3=>O3=O''∧Heap.le H2 H3∧((b.blocks.take j).all fun y=>!kJ b.blocks[j] y)=(((b.blocks.take j).drop k).all fun y=>!kJ b.blocks[j] y)) ⟨rfl,Heap.le_refl _,rfl⟩ ?_
    rintro k H3 O3 hk - ⟨rfl,hle3,hor3⟩
    have hle3:=Heap.le_trans l2' hle3
    refine aa _ (aI _ _) (aj (fun hb=>?_) (fun hb=>?_))
    ·have hltk:k < j:=by simpa using hb
     have hltb:k < b.blocks.length:=by omega
     have hst3:(((b.blocks.take j).drop k).all fun y=>!kJ b.blocks[j] y)=(!kJ b.blocks[j] b.blocks[k] && (((b.blocks.take j).drop (k + 1)).all fun y=>!kJ b.blocks[j] y)):=by
      rw [List.drop_eq_getElem_cons (by simp;omega),List.all_cons,List.getElem_take]
     obtain ⟨a,k1,_,k3,_⟩:=(h.blocks.le hle3).idx .i64 k (Bl.row b.blocks[k]) (by simp [hltb])
     have hr1:Reads H3 O3 (be (.pointer (some a)) 1) 1 [iV b.blocks[k].attacker]:=k3 1 1 (by omega)
     have hr0:Reads H3 O3 (.pointer (some a)) 1 [iV b.blocks[k].blocker]:=by
      have:=k3 0 1 (by omega)
      have e:be (.pointer (some a)) 0=.pointer (some a):=by simp [be,Addr.add]
      rwa [e] at this
     refine ab (aa _ k1 (aK rfl (aw hr1 rfl ⟨rfl,trivial⟩ (ab (aa _ (aC _ _) ?_)))))
     refine ab (ae (ae (ae ?_)))
     refine xm k1 rfl (aK rfl ?_)
     refine ae (ae ?_)
     refine ⟨[iV b.blocks[k].blocker],rfl,⟨rfl,trivial⟩,fun _=>hr0,?_⟩
     refine ab (ae (ae (ae (aa _ (aC _ _) (ae (aa _ (aP _ _) ?_))))))
     refine aj (fun hx=>ah ⟨?_,rfl⟩) (fun hx=>?_)
     ·rw [hF2,hor2,hst,hone,hor3,hst3,show kJ b.blocks[j] b.blocks[k]=true from hx];rfl
     ·refine aa _ (aA (by omega)) (aR (by simp [Eqs]) hltk ⟨rfl,Heap.le_trans (Heap.le_refl _) ?_,?_⟩)
      ·assumption
      ·rw [hor3,hst3,show kJ b.blocks[j] b.blocks[k]=false from hx];rfl
    ·have hke:(b.blocks.take j).length≤k:=by
      have:j≤k:=by simpa using hb
      simp;omega
     rw [List.drop_of_length_le hke] at hor3
     refine aa _ (aA (by omega)) (aR (by simp [Eqs]) hlt ⟨rfl,?_,?_⟩)
     ·exact Heap.le_trans (by assumption) (Heap.le_trans l1 (Heap.le_trans l2 (by assumption)))
     ·rw [hor2,hst,hone,hor3];rfl
   ·have hge2:b.blocks.length≤j:=by simpa using hb
    refine ah ⟨?_,rfl⟩
    rw [hF2,hor2,List.drop_of_length_le hge2];rfl
end Go.Proofs.YtdhobpmnkfmcfaaGreatDoor
namespace Go.Proofs.YtdhobpmnkfmcfaaGreatDoor
open Go Go.Sx
set_option maxRecDepth 100000
set_option maxHeartbeats 1000000
def EL (b:Bd):Bool:=decide ((0≤b.active∧b.active≤1)∧(0≤b.turn∧b.turn≤1000)∧(0≤b.phase∧b.phase≤10)∧(-1≤b.holder∧b.holder≤1)∧(0≤b.passes∧b.passes≤2)∧b.objs.length≤500∧b.stack.length≤200∧b.queue.length≤200)
def qx (b:Bd):Bool:=EL b && (b.stack.all (fun x=>cZ x false) && (b.queue.all (fun x=>cZ x true) && (bc b.s0 && (bc b.s1 && (vD b && ip b)))))
theorem Ju {H:Heap} {O:Own} {v:dG} {b:Bd} (h:BdR H O v b) (hfit:Kq b):RetO PP mr [.agg (ao v b).toArray] H O (.bool (qx b)):=by
 refine sA (vs:=ao v b) (by kernel_rfl) (ap h) ?_
 simp only [iK]
 have lo:=h.objs.len
 rw [List.length_map] at lo
 have ls:=ItsR.len h.stack
 have lq:=ItsR.len h.queue
 refine af fun r0=>?_
 repeat (first | refine ab ?_ | refine ae ?_ | refine af fun _=>?_ | refine aa _ (aI _ _) ?_ | refine aa _ (bN _ _) ?_ | refine aa _ (eY _ _) ?_ | refine aa _ (dt _ _) ?_ | refine aa _ (aC _ _) ?_ | refine aa _ (ba _ _) ?_ | refine aa _ (aU _ _) ?_ | refine aa _ (aP _ _) ?_ | refine aa _ (aJ _) ?_ | refine aa _ (wv _ _) ?_ | refine aa _ (oO _ _) ?_)
 refine aa _ lo ?_
 refine ae (aa _ (aI _ _) (ae (aa _ (aP _ _) (ab (ae (ae ?_))))))
 refine aa _ ls ?_
 refine ae (aa _ (aI _ _) (ae (aa _ (aP _ _) (ab (ae (ae ?_))))))
 refine aa _ lq ?_
 refine ae (aa _ (aI _ _) (ae (aa _ (aP _ _) ?_)))
 refine aj (fun hn=>ah ⟨?_,rfl⟩) (fun hn=>?_)
 ·have:EL b=false:=by
   simp only [Bool.or_eq_true,decide_eq_true_eq] at hn
   simp only [EL,decide_eq_false_iff_not]
   omega
  rw [qx,this];rfl
 have hnum:EL b=true:=by
  simp only [Bool.or_eq_false_iff,decide_eq_false_iff_not] at hn
  simp only [EL,decide_eq_true_eq]
  omega
 have stk:=h.stack
 obtain ⟨rows,hrs,hrl,hit⟩:=stk
 have hsB:=hrs.lenB
 refine aX b.stack.length (fun i H' O'=>O'=O∧Heap.le H H'∧b.stack.all (fun x=>cZ x false)=(b.stack.drop i).all (fun x=>cZ x false)) ⟨rfl,Heap.le_refl H,rfl⟩ ?_
 rintro i H' O' hi - ⟨rfl,hle,hor⟩
 refine ab (aa _ ls (aa _ (aI _ _) (aj (fun hb=>?_) (fun hb=>?_))))
 ·have hlt:i < b.stack.length:=by simpa using hb
  obtain ⟨a,h1,h2,_,h3,h4⟩:=(hrs.le hle).idx .i64 i rows[i] (by simp [hrl,hlt])
  have hI:=(hit i rows[i] b.stack[i] (by simp [hrl,hlt]) (by simp [hlt])).le hle
  obtain ⟨s,hrow,hs⟩:=hI
  rw [hrow] at h2 h3 h4
  have hst:(b.stack.drop i).all (fun x=>cZ x false)=(cZ b.stack[i] false && (b.stack.drop (i + 1)).all (fun x=>cZ x false)):=by rw [List.drop_eq_getElem_cons hlt,List.all_cons]
  refine ab (aa _ h1 (aw h2 h3 h4 (ai (SG ⟨s,rfl,hs⟩ false) rfl ⟨rfl,trivial⟩ fun H1 l1=>aa _ (aJ _) (aj (fun hc=>ah ⟨?_,rfl⟩) (fun hc=>?_)))))
  ·rw [qx,hor,hst,vz hc];simp
  ·refine aa _ (aA (by omega)) (aR (by simp [Eqs]) hlt ⟨rfl,Heap.le_trans hle l1,?_⟩)
   rw [hor,hst,sN hc];rfl
 ·have hge:b.stack.length≤i:=by simpa using hb
  rw [List.drop_of_length_le hge] at hor
  have hall:b.stack.all (fun x=>cZ x false)=true:=by rw [hor];rfl
  have que:=h.queue
  obtain ⟨rows2,hrs2,hrl2,hit2⟩:=que
  have hqB:=hrs2.lenB
  refine aX b.queue.length (fun j H'' O''=>O''=O'∧Heap.le H' H''∧b.queue.all (fun x=>cZ x true)=(b.queue.drop j).all (fun x=>cZ x true)) ⟨rfl,Heap.le_refl _,rfl⟩ ?_
  rintro j H'' O'' hj - ⟨rfl,hle2,hor2⟩
  have hle2:=Heap.le_trans hle hle2
  refine ab (aa _ lq (aa _ (aI _ _) (aj (fun hb=>?_) (fun hb=>?_))))
  ·have hlt:j < b.queue.length:=by simpa using hb
   obtain ⟨a,h1,h2,_,h3,h4⟩:=(hrs2.le hle2).idx .i64 j rows2[j] (by simp [hrl2,hlt])
   have hI:=(hit2 j rows2[j] b.queue[j] (by simp [hrl2,hlt]) (by simp [hlt])).le hle2
   obtain ⟨s,hrow,hs⟩:=hI
   rw [hrow] at h2 h3 h4
   have hst:(b.queue.drop j).all (fun x=>cZ x true)=(cZ b.queue[j] true && (b.queue.drop (j + 1)).all (fun x=>cZ x true)):=by rw [List.drop_eq_getElem_cons hlt,List.all_cons]
   refine ab (aa _ h1 (aw h2 h3 h4 (ai (SG ⟨s,rfl,hs⟩ true) rfl ⟨rfl,trivial⟩ fun H1 l1=>aa _ (aJ _) (aj (fun hc=>ah ⟨?_,rfl⟩) (fun hc=>?_)))))
   ·rw [qx,hor2,hst,vz hc];simp
   ·refine aa _ (aA (by omega)) (aR (by simp [Eqs]) hlt ⟨rfl,?_,?_⟩)
    ·exact Heap.le_trans (by assumption) l1
    ·rw [hor2,hst,sN hc];rfl
  ·have hge2:b.queue.length≤j:=by simpa using hb
   rw [List.drop_of_length_le hge2] at hor2
   have hall2:b.queue.all (fun x=>cZ x true)=true:=by rw [hor2];rfl
   have hF:qx b=(bc b.s0 && (bc b.s1 && (vD b && ip b))):=by rw [qx,hnum,hall,hall2];rfl
   replace h:=h.le hle2
   obtain ⟨z1,z2,z3,z4⟩:=gj h.s0
   obtain ⟨z5,z6,z7,z8⟩:=gj h.s1
   refine ab (ai (SE b.s0 z1 z2 z3 z4 H'' O'') rfl ⟨rfl,trivial⟩ fun H1 l1=>aj (fun k1=>?_) (fun k1=>ah ⟨?_,rfl⟩))
   rotate_left
   ·rw [hF,k1];rfl
   replace h:=h.le l1
   refine ab (ai (SE b.s1 z5 z6 z7 z8 H1 O'') rfl ⟨rfl,trivial⟩ fun H2 l2=>aj (fun k2=>?_) (fun k2=>ah ⟨?_,rfl⟩))
   rotate_left
   ·rw [hF,k1,k2];rfl
   replace h:=h.le l2
   refine ab (ai (TL h hfit) rfl ⟨rfl,trivial⟩ fun H3 l3=>aj (fun k3=>?_) (fun k3=>ah ⟨?_,rfl⟩))
   rotate_left
   ·rw [hF,k1,k2,k3];rfl
   replace h:=h.le l3
   have ha:b.active=0∨b.active=1:=by
    simp only [EL,decide_eq_true_eq] at hnum
    omega
   refine ab (ai (Q5 h ha) rfl ⟨rfl,trivial⟩ fun H4 l4=>ah ⟨?_,rfl⟩)
   rw [hF,k1,k2,k3];rfl
end Go.Proofs.YtdhobpmnkfmcfaaGreatDoor
namespace Go.Proofs.YtdhobpmnkfmcfaaGreatDoor
open Go Go.Sx
set_option maxRecDepth 100000
set_option maxHeartbeats 1000000
theorem Ff {α:Type} [DecidableEq α]:∀ {l r:List α},l.Nodup→(∀ x ∈ l,x ∈ r)→r.length≤l.length→r.Perm l
 | [],r,_,_,h=>by
  have:r=[]:=List.eq_nil_of_length_eq_zero (by simpa using h)
  subst this;exact List.Perm.refl _
 | a::l,r,hn,hs,h=>by
  rw [List.nodup_cons] at hn
  have har:a ∈ r:=hs a (by simp)
  have h1:=Ff (l:=l) (r:=r.erase a) hn.2 (fun x hx=>(List.mem_erase_of_ne (fun e=>hn.1 (by subst e;exact hx))).2 (hs x (by simp [hx]))) (by
   rw [List.length_erase_of_mem har];simp only [List.length_cons] at h;omega)
  exact (List.perm_cons_erase har).trans (h1.cons a)
theorem tU {α β:Type} (f:α→β):∀ {l:List α},(l.map f).Nodup→l.Nodup
 | [],_=>List.nodup_nil
 | a::l,h=>by
  rw [List.map_cons,List.nodup_cons] at h
  exact List.nodup_cons.2 ⟨fun hm=>h.1 (List.mem_map.2 ⟨a,hm,rfl⟩),tU f h.2⟩
def E9:Option Int→List Ob→Bool
 | _,[]=>true
 | prev,o::r=>!jQ prev o.id && E9 (some o.id) r
def ok1 (ps cs:List (Int × Int)) (o:Ob):Bool:=aY o && ((cz ps o.id).isSome && (((cz ps o.id).getD 0 == o.owner) && !((cz cs o.id).isSome && ((cz cs o.id).getD 0 != o.card))))
def ok2 (b:Bd) (o:Ob):Bool:=aY o && (((tQ b o.owner o.id:Nat):Int) == 1)
theorem nq {ps cs:List (Int × Int)}:∀ (l:List Ob) (prev:Option Int),pU aY ps cs prev l=(E9 prev l && l.all (ok1 ps cs))
 | [],_=>rfl
 | o::r,prev=>by
  simp only [pU,Fe,E9,List.all_cons,ok1,nq r (some o.id),bne]
  cases aY o <;> cases jQ prev o.id <;> cases cz ps o.id <;> cases cz cs o.id <;> simp [Bool.and_assoc,Bool.and_comm,Bool.and_left_comm]
theorem Fb {b:Bd}:∀ (l:List Ob) (prev:Option Int),oH b prev l=(E9 prev l && l.all (ok2 b))
 | [],_=>rfl
 | o::r,prev=>by
  simp only [oH,E9,List.all_cons,ok2,Fb r (some o.id)]
  cases aY o <;> cases jQ prev o.id <;> simp [Bool.and_assoc,Bool.and_comm,Bool.and_left_comm]
theorem nl:∀ {l:List Ob} {prev:Option Int},E9 prev l=true→(∀ o ∈ l,∀ p,prev=some p→p < o.id)∧(l.map (·.id)).Nodup
 | [],_,_=>⟨by simp,by simp⟩
 | o::r,prev,h=>by
  simp only [E9,Bool.and_eq_true,Bool.not_eq_true'] at h
  obtain ⟨k1,k2⟩:=nl h.2
  have hp:∀ p,prev=some p→p < o.id:=by
   rintro p rfl
   have:=h.1
   simp only [jQ,decide_eq_false_iff_not] at this
   omega
  refine ⟨fun x hx p e=>?_,?_⟩
  ·rcases List.mem_cons.1 hx with rfl | hx
   ·exact hp p e
   ·have:=k1 x hx _ rfl;have:=hp p e;omega
  ·rw [List.map_cons,List.nodup_cons]
   refine ⟨fun hm=>?_,k2⟩
   obtain ⟨x,hx,e⟩:=List.mem_map.1 hm
   have:=k1 x hx _ rfl
   omega
theorem Uu {l:List Ob} (h:(l.map (·.id)).Nodup):∀ {x y:Ob},x ∈ l→y ∈ l→x.id=y.id→x=y:=by
 induction l with
 | nil=>intro x y hx;cases hx
 | cons a l ih =>
  intro x y hx hy e
  rw [List.map_cons,List.nodup_cons] at h
  rcases List.mem_cons.1 hx with k1 | k1 <;> rcases List.mem_cons.1 hy with k2 | k2
  ·rw [k1,k2]
  ·exact absurd (List.mem_map.2 ⟨y,k2,by rw [← e,k1]⟩) h.1
  ·exact absurd (List.mem_map.2 ⟨x,k1,by rw [e,k2]⟩) h.1
  ·exact ih h.2 k1 k2 e
theorem Nq (l:List Int) (p q id:Int):(l.map fun i=>(i,p)).count (id,q)=if p=q then l.count id else 0:=by
 induction l with
 | nil=>simp
 | cons a l ih =>
  simp only [List.map_cons,List.count_cons,ih,beq_iff_eq,Prod.mk.injEq]
  by_cases hp:p=q
  ·simp [hp]
  ·simp [hp]
theorem JV {l:List It} (ht:∀ x ∈ l,x.trig < 0→x.trig=-1) (p id:Int):(eN l).count (id,p)=l.countP (jT p id):=by
 induction l with
 | nil=>rfl
 | cons x l ih =>
  have ih:=ih fun y hy=>ht y (by simp [hy])
  have hx:=ht x (by simp)
  rw [show x::l=[x]++l from rfl,oe,List.count_append,List.countP_append,ih]
  congr 1
  by_cases h:x.trig < 0
  ·rw [Ib h,List.count_singleton,List.countP_singleton]
   have h1:=hx h
   have e:((x.id,x.player) == (id,p))=jT p id x:=by
    simp only [jT,h1,beq_self_eq_true,Bool.true_and]
    rw [Bool.eq_iff_iff]
    simp [Prod.ext_iff]
   rw [e]
  ·rw [E8 h,List.countP_singleton]
   have:jT p id x=false:=by
    have:x.trig ≠ -1:=by omega
    simp [jT,this]
   rw [this];rfl
theorem Pj (l:List It):(eN l).length=l.countP rY:=by
 rw [eN,List.length_map,cA,List.countP_eq_length_filter]
 congr 2
 funext x
 simp only [rY]
 by_cases h:x.trig < 0
 ·have:¬ x.trig ≥ 0:=by omega
  simp [h,this]
 ·have:x.trig ≥ 0:=by omega
  simp [h,this]
theorem Pi (b:Bd):(aL b).length=GA b + b.stack.countP rY:=by
 simp only [aL,cB,List.length_append,List.length_map,Pj,GA]
 omega
theorem DR {b:Bd} (ht:∀ x ∈ b.stack,x.trig < 0→x.trig=-1) {p:Int} (hp:p=0∨p=1) (id:Int):(aL b).count (id,p)=tQ b p id:=by
 simp only [aL,cB,List.count_append,Nq,JV ht,tQ,s6]
 rcases hp with rfl | rfl
 ·simp;omega
 ·simp;omega
theorem IH {b:Bd} (ht:∀ x ∈ b.stack,x.trig < 0→x.trig=-1):vD b=bD aY b:=by
 simp only [vD,bD,nq,Fb]
 have hl:((((GA b + b.stack.countP rY:Nat):Int) == (b.objs.length:Int))=decide ((aL b).length=b.objs.length)):=by
  rw [Pi,Bool.eq_iff_iff]
  simp only [beq_iff_eq,decide_eq_true_eq]
  omega
 rw [hl,Bool.eq_iff_iff]
 simp only [Bool.and_eq_true,List.all_eq_true,decide_eq_true_eq]
 constructor
 ·rintro ⟨hst,⟨hord,hok⟩,hlen⟩
  obtain ⟨_,hnd⟩:=nl hord
  have hL:(b.objs.map fun o=>(o.id,o.owner)).Nodup:=by
   have e:(b.objs.map fun o=>(o.id,o.owner)).map (·.1)=b.objs.map (·.id):=by rw [List.map_map];rfl
   exact tU (·.1) (by rw [e];exact hnd)
  have hsub:∀ x ∈ (b.objs.map fun o=>(o.id,o.owner)),x ∈ aL b:=by
   intro x hx
   obtain ⟨o,ho,rfl⟩:=List.mem_map.1 hx
   have h2:=hok o ho
   simp only [ok2,Bool.and_eq_true,beq_iff_eq] at h2
   have hc:=DR ht (nX h2.1) o.id
   refine List.count_pos_iff.1 ?_
   rw [hc];omega
  have hperm:=Ff hL hsub (by simp [hlen])
  have hfst:((aL b).map (·.1)).Perm (b.objs.map (·.id)):=by
   have:=hperm.map (·.1)
   rwa [List.map_map] at this
  have hnp:((aL b).map (·.1)).Nodup:=hfst.nodup_iff.2 hnd
  refine ⟨hnp,⟨hord,fun o ho=>?_⟩,hlen⟩
  have h2:=hok o ho
  simp only [ok2,Bool.and_eq_true,beq_iff_eq] at h2
  have hlk:cz (aL b) o.id=some o.owner:=(jF hnp).2 (hsub _ (List.mem_map.2 ⟨o,ho,rfl⟩))
  simp only [ok1,h2.1,hlk,Option.isSome_some,Option.getD_some,beq_self_eq_true,Bool.true_and,Bool.not_eq_true']
  cases hc:cz (bp b.stack) o.id with
  | none=>rfl
  | some c =>
   simp only [Option.isSome_some,Option.getD_some,Bool.true_and,bne_eq_false_iff_eq]
   have hmem:(o.id,c) ∈ bp b.stack:=by
    simp only [cz,Option.map_eq_some_iff] at hc
    obtain ⟨⟨k,c'⟩,hf,rfl⟩:=hc
    have h3:=List.find?_some hf
    have h4:=List.mem_of_find?_eq_some hf
    simp only [beq_iff_eq] at h3
    rw [h3];exact h4
   simp only [bp,cA,List.mem_map,List.mem_filter,decide_eq_true_eq,Prod.mk.injEq] at hmem
   obtain ⟨x,⟨hx,hxt⟩,e1,e2⟩:=hmem
   have hsx:=hst x hx
   have hn:decide (x.trig ≥ 0)=false:=by simp;omega
   simp only [nZ,hn,Bool.false_or,Bool.not_eq_true',Bool.or_eq_false_iff,decide_eq_false_iff_not,bne_eq_false_iff_eq] at hsx
   rcases nr (fun o=>o.id == x.id) b.objs 0 (by omega) with ⟨e,_⟩ | ⟨k,o',k1,k2,k3⟩
   ·exfalso;apply hsx.1;show fM b x.id < 0;unfold fM;omega
   ·have k3:fM b x.id=(k:Int):=by unfold fM;omega
    have hca:uf b (fM b x.id)=o'.card:=by rw [k3];simp [uf,k1]
    simp only [beq_iff_eq] at k2
    have:o'=o:=Uu hnd (List.mem_of_getElem? k1) ho (by rw [k2,e1])
    rw [← e2,← hsx.2,hca,this]
 ·rintro ⟨hnp,⟨hord,hok⟩,hlen⟩
  obtain ⟨_,hnd⟩:=nl hord
  have hids:=Fg (l:=b.objs.map (·.id)) (r:=(aL b).map (·.1)) hnd (fun y hy=>by
   obtain ⟨o,ho,rfl⟩:=List.mem_map.1 hy
   have h2:=hok o ho
   simp only [ok1,Bool.and_eq_true] at h2
   rcases Classical.em (o.id ∈ (aL b).map (·.1)) with h | h
   ·exact h
   ·have h3:=h2.2.1;rw [eP.2 h] at h3;cases h3) (by simp [hlen])
  refine ⟨fun x hx=>?_,⟨hord,fun o ho=>?_⟩,hlen⟩
  ·by_cases hxt:x.trig < 0
   ·have hn:decide (x.trig ≥ 0)=false:=by simp;omega
    have hxp:x.id ∈ (aL b).map (·.1):=by
     simp only [aL,List.map_append,List.mem_append]
     right;right
     simp only [eN,cA,List.mem_map,List.mem_filter,decide_eq_true_eq]
     exact ⟨_,⟨x,⟨hx,hxt⟩,rfl⟩,rfl⟩
    obtain ⟨o,ho,hoid⟩:=List.mem_map.1 (hids _ hxp)
    simp only [nZ,hn,Bool.false_or,Bool.not_eq_true',Bool.or_eq_false_iff,decide_eq_false_iff_not,bne_eq_false_iff_eq]
    rcases nr (fun o=>o.id == x.id) b.objs 0 (by omega) with ⟨_,e⟩ | ⟨k,o',k1,k2,k3⟩
    ·have:=e o ho;simp [hoid] at this
    ·have k3:fM b x.id=(k:Int):=by unfold fM;omega
     refine ⟨by omega,?_⟩
     rw [k3]
     simp only [beq_iff_eq] at k2
     have h2:=hok o' (List.mem_of_getElem? k1)
     simp only [ok1,Bool.and_eq_true,Bool.not_eq_true'] at h2
     have hcn:((bp b.stack).map (·.1)).Nodup:=by
      have e:(bp b.stack).map (·.1)=(eN b.stack).map (·.1):=by simp only [bp,eN,List.map_map];rfl
      rw [e]
      simp only [aL,List.map_append] at hnp
      exact (List.nodup_append.1 (List.nodup_append.1 hnp).2.1).2.1
     have hlk:cz (bp b.stack) x.id=some x.card:=(jF hcn).2 (by
      simp only [bp,cA,List.mem_map,List.mem_filter,decide_eq_true_eq]
      exact ⟨x,⟨hx,hxt⟩,rfl⟩)
     have h3:=h2.2.2.2
     rw [k2,hlk] at h3
     simp only [Option.isSome_some,Option.getD_some,Bool.true_and,bne_eq_false_iff_eq] at h3
     simp only [uf,Int.toNat_natCast,k1,Option.map_some,Option.getD_some]
     exact h3.symm
   ·have hn:decide (x.trig ≥ 0)=true:=by simp;omega
    simp only [nZ,hn,Bool.true_or]
  ·have h2:=hok o ho
   simp only [ok1,Bool.and_eq_true,beq_iff_eq] at h2
   obtain ⟨v1,v2,v3,_⟩:=h2
   have hlk:cz (aL b) o.id=some o.owner:=by
    cases e:cz (aL b) o.id with
    | none=>rw [e] at v2;cases v2
    | some c=>rw [e] at v3;rw [← v3];rfl
   have hmem:=(jF hnp).1 hlk
   have hnp':(aL b).Nodup:=tU (·.1) hnp
   have hc:=DR ht (nX v1) o.id
   have h1:(aL b).count (o.id,o.owner)=1:=by
    have a1:=List.count_pos_iff.2 hmem
    have a2:=List.nodup_iff_count.1 hnp' (o.id,o.owner)
    omega
   simp only [ok2,v1,Bool.true_and,beq_iff_eq]
   rw [hc] at h1;omega
end Go.Proofs.YtdhobpmnkfmcfaaGreatDoor
namespace Go.Proofs.YtdhobpmnkfmcfaaGreatDoor
open Go Go.Sx
set_option maxRecDepth 100000
set_option maxHeartbeats 1000000
theorem DT {l:List Int} (h:l.Nodup) (x:Int):(((l.count x:Nat):Int) == 1)=l.contains x:=by
 have h1:=List.nodup_iff_count.1 h x
 by_cases hm:x ∈ l
 ·have h2:=List.count_pos_iff.2 hm
  have:l.count x=1:=by omega
  simp [this,hm]
 ·have:l.count x=0:=List.count_eq_zero.2 hm
  simp [this,hm]
theorem VJ {own att:List Int} (ho:own.Nodup):att.all (EQ own att)=(decide att.Nodup && att.all fun x=>own.contains x):=by
 rw [Bool.eq_iff_iff]
 simp only [Bool.and_eq_true,List.all_eq_true,decide_eq_true_eq,EQ,DT ho,beq_iff_eq]
 constructor
 ·intro h
  refine ⟨List.nodup_iff_count.2 fun x=>?_,fun x hx=>(h x hx).2⟩
  by_cases hm:x ∈ att
  ·have:=(h x hm).1;omega
  ·have:=List.count_eq_zero.2 hm;omega
 ·rintro ⟨h1,h2⟩ x hx
  refine ⟨?_,h2 x hx⟩
  have:=List.nodup_iff_count.1 h1 x
  have:=List.count_pos_iff.2 hx
  omega
theorem Tf {att other:List Int} (ha:att.Nodup) (ho:other.Nodup):∀ (l done:List Bl) (ua ub:List Int),(∀ a,a ∈ ua ↔ ∃ y ∈ done,y.attacker=a)→(∀ a,a ∈ ub ↔ ∃ y ∈ done,y.blocker=a)→wu att other ua ub l=Hn att other done l
 | [],_,_,_,_,_=>rfl
 | x::r,done,ua,ub,h1,h2=>by
  rw [wu,Hn,Tf ha ho r (done++[x]) (x.attacker::ua) (x.blocker::ub)]
  ·congr 1
   rw [sa,DT ha,DT ho,Bool.eq_iff_iff]
   simp only [Bool.and_eq_true,Bool.not_eq_true',List.all_eq_true,kJ,Bool.or_eq_false_iff,beq_eq_false_iff_ne,List.contains_iff_mem]
   have e1:ua.contains x.attacker=false ↔ ∀ y ∈ done,y.attacker ≠ x.attacker:=by
    rw [← Bool.not_eq_true,List.contains_iff_mem,h1]
    exact ⟨fun h y hy e=>h ⟨y,hy,e⟩,fun h ⟨y,hy,e⟩=>h y hy e⟩
   have e2:ub.contains x.blocker=false ↔ ∀ y ∈ done,y.blocker ≠ x.blocker:=by
    rw [← Bool.not_eq_true,List.contains_iff_mem,h2]
    exact ⟨fun h y hy e=>h ⟨y,hy,e⟩,fun h ⟨y,hy,e⟩=>h y hy e⟩
   rw [e1,e2]
   exact ⟨fun ⟨⟨a,b⟩,c,d⟩=>⟨b,d,fun y hy=>⟨a y hy,c y hy⟩⟩,fun ⟨b,d,e⟩=>⟨⟨fun y hy=>(e y hy).1,b⟩,fun y hy=>(e y hy).2,d⟩⟩
  ·intro a
   simp only [List.mem_cons,h1,List.mem_append,List.mem_singleton]
   constructor
   ·rintro (rfl | ⟨y,hy,e⟩)
    ·exact ⟨x,.inr (.inl rfl),rfl⟩
    ·exact ⟨y,.inl hy,e⟩
   ·rintro ⟨y,hy | hy,e⟩
    ·exact .inr ⟨y,hy,e⟩
    ·rcases hy with rfl | hy
     ·exact .inl e.symm
     ·cases hy
  ·intro a
   simp only [List.mem_cons,h2,List.mem_append,List.mem_singleton]
   constructor
   ·rintro (rfl | ⟨y,hy,e⟩)
    ·exact ⟨x,.inr (.inl rfl),rfl⟩
    ·exact ⟨y,.inl hy,e⟩
   ·rintro ⟨y,hy | hy,e⟩
    ·exact .inr ⟨y,hy,e⟩
    ·rcases hy with rfl | hy
     ·exact .inl e.symm
     ·cases hy
theorem IL {own other att:List Int} {bl:List Bl} (ho:own.Nodup) (ht:other.Nodup):uW own other att bl=jY own other att bl:=by
 rw [uW,jY,VJ ho]
 by_cases ha:att.Nodup
 ·rw [Tf ha ht bl [] [] [] (by simp) (by simp),Bool.and_assoc]
 ·simp [ha]
theorem zN {b:Bd} (h:bD aY b=true):b.s0.field.Nodup∧b.s1.field.Nodup:=by
 simp only [bD,Bool.and_eq_true,decide_eq_true_eq] at h
 have h1:=h.1
 have e:∀ (l:List Int) (p:Int),(l.map fun i=>(i,p)).map (·.1)=l:=fun l p=>by rw [List.map_map];simp [Function.comp_def]
 simp only [aL,cB,List.map_append,e] at h1
 have h2:=List.nodup_append.1 h1
 have h3:=List.nodup_append.1 h2.2.1
 have f:∀ {a b c d:List Int},(a++(b++(c++d))).Nodup→c.Nodup:=fun h=>(List.nodup_append.1 (List.nodup_append.1 (List.nodup_append.1 h).2.1).2.1).1
 exact ⟨f h2.1,f h3.1⟩
theorem Nk {b:Bd} (h:bD aY b=true):ip b=dl b:=by
 obtain ⟨h0,h1⟩:=zN h
 rw [ip,dl,IL h0 h1,IL h1 h0]
theorem IJ {x:It} {q:Bool} (h:cZ x q=true):x.trig < 0→x.trig=-1:=by
 simp only [cZ,au,Bool.and_eq_true,decide_eq_true_eq] at h
 omega
theorem F4 (b:Bd):qx b=ar b:=by
 rw [Bool.eq_iff_iff]
 have hall:∀ (l:List It) (q:Bool),l.all (fun x=>cZ x q)=!(l.any fun x=>!cZ x q):=fun l q=>by
  induction l with
  | nil=>rfl
  | cons a l ih=>simp [ih]
 have hnum:EL b=(au b.active 0 1 && (au b.turn 0 1000 && (au b.phase 0 10 && (au b.holder (-1) 1 && !og b)))):=by
  rw [Bool.eq_iff_iff]
  simp only [EL,au,og,Bool.and_eq_true,Bool.not_eq_true',Bool.or_eq_false_iff,decide_eq_true_eq,decide_eq_false_iff_not,Bool.not_eq_false']
  omega
 have key:∀ (x y:Bool),(b.stack.all (fun x=>cZ x false)=true→x=y)→((b.stack.all (fun x=>cZ x false) && x)=true ↔ (b.stack.all (fun x=>cZ x false) && y)=true):=by
  intro x y h
  cases hs:b.stack.all (fun x=>cZ x false) with
  | false=>simp
  | true=>rw [h hs]
 have hf:b.stack.all (fun x=>cZ x false)=true→(vD b && ip b)=(bD aY b && dl b):=by
  intro hs
  rw [List.all_eq_true] at hs
  rw [IH fun x hx=>IJ (hs x hx)]
  cases hp:bD aY b with
  | false=>rfl
  | true=>rw [Nk hp]
 have e1:qx b=(EL b && (b.queue.all (fun x=>cZ x true) && (bc b.s0 && (bc b.s1 && (b.stack.all (fun x=>cZ x false) && (vD b && ip b)))))):=by
  rw [qx]
  cases b.stack.all (fun x=>cZ x false) <;> simp
 have e2:ar b=(EL b && (b.queue.all (fun x=>cZ x true) && (bc b.s0 && (bc b.s1 && (b.stack.all (fun x=>cZ x false) && (bD aY b && dl b)))))):=by
  rw [ar,hnum,hall,hall]
  cases au b.active 0 1 <;> cases au b.turn 0 1000 <;> cases au b.phase 0 10 <;> cases au b.holder (-1) 1 <;> cases og b <;> cases bc b.s0 <;> cases bc b.s1 <;> cases (b.stack.any fun x=>!cZ x false) <;> cases (b.queue.any fun x=>!cZ x true) <;> rfl
 rw [e1,e2]
 simp only [Bool.and_eq_true]
 have:=key _ _ hf
 simp only [Bool.and_eq_true] at this
 rw [this]
end Go.Proofs.YtdhobpmnkfmcfaaGreatDoor
namespace Go.Proofs.YtdhobpmnkfmcfaaGreatDoor
open Go Go.Sx
set_option maxRecDepth 100000
set_option maxHeartbeats 1000000
end Go.Proofs.YtdhobpmnkfmcfaaGreatDoor
namespace Go.Proofs.YtdhobpmnkfmcfaaGreatDoor
open Go Go.Sx
set_option maxRecDepth 100000
set_option maxHeartbeats 1000000
def gJ (s:St):Bool:=!decide ((s.lib.length:Int) > 40) && (!decide ((s.hand.length:Int) > 40) && (!decide ((s.field.length:Int) > 40) && !decide ((s.grave.length:Int) > 40)))
def mL (l:List It):Bool:=!decide ((l.length:Int) > 20) && l.all fun x=>!decide ((x.tgs.length:Int) > 6)
def fO (b:Bd):Bool:=gJ b.s0 && (gJ b.s1 && (mL b.stack && (mL b.queue && ((decide ((b.objs.length:Int)≤30) && decide ((b.att.length:Int)≤30)) && decide ((b.blocks.length:Int)≤30)))))
theorem UH {H:Heap} {O:Own} {v:dG} {b:Bd} (h:BdR H O v b):RetO PP mB [.agg (ao v b).toArray] H O (.bool (fO b)):=by
 refine sG (vs:=ao v b) (by kernel_rfl) (ap h) ?_
 simp only [iQ]
 have len1:∀ {H':Heap} {O':Own} {w:Value} {l:List Int},RSl H' O' 1 w (aG l)→ak .len [w]=some (iV l.length):=fun h=>by have:=h.len;rwa [aG,List.length_map] at this
 have lo:=h.objs.len
 have lb:=h.blocks.len
 rw [List.length_map] at lo lb
 have la:=len1 h.att
 refine af fun r0=>?_
 obtain ⟨s01,s02,s03,s04⟩:=gj h.s0
 refine ab (ai (oC b.s0 s01 s02 s03 s04 _ _) rfl ⟨s01,s02,s03,s04,trivial⟩ fun Hs0 ls0=>?_)
 replace h:=h.le ls0
 refine aa _ (len1 h.s0.lib) (aa _ (bN _ _) (aj (fun ks0lib=>ah ⟨?_,rfl⟩) (fun ks0lib=>?_)))
 ·simp only [fO,gJ,ks0lib,Bool.not_true,Bool.not_false,Bool.true_and,Bool.false_and,Bool.and_false]
 refine aa _ (len1 h.s0.hand) (aa _ (bN _ _) (aj (fun ks0hand=>ah ⟨?_,rfl⟩) (fun ks0hand=>?_)))
 ·simp only [fO,gJ,ks0lib,ks0hand,Bool.not_true,Bool.not_false,Bool.true_and,Bool.false_and,Bool.and_false]
 refine aa _ (len1 h.s0.field) (aa _ (bN _ _) (aj (fun ks0field=>ah ⟨?_,rfl⟩) (fun ks0field=>?_)))
 ·simp only [fO,gJ,ks0lib,ks0hand,ks0field,Bool.not_true,Bool.not_false,Bool.true_and,Bool.false_and,Bool.and_false]
 refine aa _ (len1 h.s0.grave) (aa _ (bN _ _) (aj (fun ks0grave=>ah ⟨?_,rfl⟩) (fun ks0grave=>?_)))
 ·simp only [fO,gJ,ks0lib,ks0hand,ks0field,ks0grave,Bool.not_true,Bool.not_false,Bool.true_and,Bool.false_and,Bool.and_false]
 obtain ⟨s11,s12,s13,s14⟩:=gj h.s1
 refine ab (ai (oC b.s1 s11 s12 s13 s14 _ _) rfl ⟨s11,s12,s13,s14,trivial⟩ fun Hs1 ls1=>?_)
 replace h:=h.le ls1
 refine aa _ (len1 h.s1.lib) (aa _ (bN _ _) (aj (fun ks1lib=>ah ⟨?_,rfl⟩) (fun ks1lib=>?_)))
 ·simp only [fO,gJ,ks0lib,ks0hand,ks0field,ks0grave,ks1lib,Bool.not_true,Bool.not_false,Bool.true_and,Bool.false_and,Bool.and_false]
 refine aa _ (len1 h.s1.hand) (aa _ (bN _ _) (aj (fun ks1hand=>ah ⟨?_,rfl⟩) (fun ks1hand=>?_)))
 ·simp only [fO,gJ,ks0lib,ks0hand,ks0field,ks0grave,ks1lib,ks1hand,Bool.not_true,Bool.not_false,Bool.true_and,Bool.false_and,Bool.and_false]
 refine aa _ (len1 h.s1.field) (aa _ (bN _ _) (aj (fun ks1field=>ah ⟨?_,rfl⟩) (fun ks1field=>?_)))
 ·simp only [fO,gJ,ks0lib,ks0hand,ks0field,ks0grave,ks1lib,ks1hand,ks1field,Bool.not_true,Bool.not_false,Bool.true_and,Bool.false_and,Bool.and_false]
 refine aa _ (len1 h.s1.grave) (aa _ (bN _ _) (aj (fun ks1grave=>ah ⟨?_,rfl⟩) (fun ks1grave=>?_)))
 ·simp only [fO,gJ,ks0lib,ks0hand,ks0field,ks0grave,ks1lib,ks1hand,ks1field,ks1grave,Bool.not_true,Bool.not_false,Bool.true_and,Bool.false_and,Bool.and_false]
 refine ab (ab (af fun _=>ab ?_))
 have lstack:=ItsR.len h.stack
 refine aa _ lstack (aa _ (bN _ _) (aj (fun kstack=>ah ⟨?_,rfl⟩) (fun kstack=>?_)))
 ·simp only [fO,gJ,mL,ks0lib,ks0hand,ks0field,ks0grave,ks1lib,ks1hand,ks1field,ks1grave,kstack,Bool.not_true,Bool.not_false,Bool.true_and,Bool.false_and,Bool.and_false]
 have stkstack:=h.stack
 obtain ⟨rowsstack,hrsstack,hrlstack,hitstack⟩:=stkstack
 have hBstack:=hrsstack.lenB
 refine aX b.stack.length (fun i H' OO=>OO=O∧Heap.le Hs1 H'∧(b.stack.all fun x=>!decide ((x.tgs.length:Int) > 6))=((b.stack.drop i).all fun x=>!decide ((x.tgs.length:Int) > 6))) ⟨rfl,Heap.le_refl _,rfl⟩ ?_
 rintro istack Hstack Ostack histack - ⟨rfl,hlestack,horstack⟩
 replace h:=h.le hlestack
 refine aa _ lstack (aa _ (aI _ _) (aj (fun hb=>?_) (fun hb=>?_)))
 ·have hlt:istack < b.stack.length:=by simpa using hb
  obtain ⟨a,h1,_,h3,_⟩:=(hrsstack.le hlestack).idx .i64 istack rowsstack[istack] (by simp [hrlstack,hlt])
  obtain ⟨s,hrow,hs⟩:=(hitstack istack rowsstack[istack] b.stack[istack] (by simp [hrlstack,hlt]) (by simp [hlt])).le hlestack
  have hr:=h3 4 1 (by omega)
  rw [hrow] at hr
  have hst:((b.stack.drop istack).all fun x=>!decide ((x.tgs.length:Int) > 6))=(!decide ((b.stack[istack].tgs.length:Int) > 6) && ((b.stack.drop (istack + 1)).all fun x=>!decide ((x.tgs.length:Int) > 6))):=by rw [List.drop_eq_getElem_cons hlt,List.all_cons]
  have lt:=hs.len
  rw [List.length_map] at lt
  refine aa _ h1 (aK rfl (aw hr rfl ⟨hs.one,trivial⟩ (aa _ lt (aa _ (bN _ _) (aj (fun hc=>ah ⟨?_,rfl⟩) (fun hc=>?_))))))
  ·simp only [fO,gJ,mL,ks0lib,ks0hand,ks0field,ks0grave,ks1lib,ks1hand,ks1field,ks1grave,kstack,horstack,hst,hc,Bool.not_true,Bool.not_false,Bool.true_and,Bool.false_and,Bool.and_false]
  ·refine aa _ (aA (by omega)) (aR (by simp [Eqs]) hlt ⟨rfl,hlestack,?_⟩)
   rw [horstack,hst,hc];rfl
 have hgestack:b.stack.length≤istack:=by simpa using hb
 rw [List.drop_of_length_le hgestack] at horstack
 have kallstack:(b.stack.all fun x=>!decide ((x.tgs.length:Int) > 6))=true:=by rw [horstack];rfl
 clear hb
 refine ab ?_
 have lqueue:=ItsR.len h.queue
 refine aa _ lqueue (aa _ (bN _ _) (aj (fun kqueue=>ah ⟨?_,rfl⟩) (fun kqueue=>?_)))
 ·simp only [fO,gJ,mL,ks0lib,ks0hand,ks0field,ks0grave,ks1lib,ks1hand,ks1field,ks1grave,kstack,kallstack,kqueue,Bool.not_true,Bool.not_false,Bool.true_and,Bool.false_and,Bool.and_false]
 have stkqueue:=h.queue
 obtain ⟨rowsqueue,hrsqueue,hrlqueue,hitqueue⟩:=stkqueue
 have hBqueue:=hrsqueue.lenB
 refine aX b.queue.length (fun i H' OO=>OO=Ostack∧Heap.le Hstack H'∧(b.queue.all fun x=>!decide ((x.tgs.length:Int) > 6))=((b.queue.drop i).all fun x=>!decide ((x.tgs.length:Int) > 6))) ⟨rfl,Heap.le_refl _,rfl⟩ ?_
 rintro iqueue Hqueue Oqueue hiqueue - ⟨rfl,hlequeue,horqueue⟩
 replace h:=h.le hlequeue
 refine aa _ lqueue (aa _ (aI _ _) (aj (fun hb=>?_) (fun hb=>?_)))
 ·have hlt:iqueue < b.queue.length:=by simpa using hb
  obtain ⟨a,h1,_,h3,_⟩:=(hrsqueue.le hlequeue).idx .i64 iqueue rowsqueue[iqueue] (by simp [hrlqueue,hlt])
  obtain ⟨s,hrow,hs⟩:=(hitqueue iqueue rowsqueue[iqueue] b.queue[iqueue] (by simp [hrlqueue,hlt]) (by simp [hlt])).le hlequeue
  have hr:=h3 4 1 (by omega)
  rw [hrow] at hr
  have hst:((b.queue.drop iqueue).all fun x=>!decide ((x.tgs.length:Int) > 6))=(!decide ((b.queue[iqueue].tgs.length:Int) > 6) && ((b.queue.drop (iqueue + 1)).all fun x=>!decide ((x.tgs.length:Int) > 6))):=by rw [List.drop_eq_getElem_cons hlt,List.all_cons]
  have lt:=hs.len
  rw [List.length_map] at lt
  refine aa _ h1 (aK rfl (aw hr rfl ⟨hs.one,trivial⟩ (aa _ lt (aa _ (bN _ _) (aj (fun hc=>ah ⟨?_,rfl⟩) (fun hc=>?_))))))
  ·simp only [fO,gJ,mL,ks0lib,ks0hand,ks0field,ks0grave,ks1lib,ks1hand,ks1field,ks1grave,kstack,kallstack,kqueue,horqueue,hst,hc,Bool.not_true,Bool.not_false,Bool.true_and,Bool.false_and,Bool.and_false]
  ·refine aa _ (aA (by omega)) (aR (by simp [Eqs]) hlt ⟨rfl,hlequeue,?_⟩)
   rw [horqueue,hst,hc];rfl
 have hgequeue:b.queue.length≤iqueue:=by simpa using hb
 rw [List.drop_of_length_le hgequeue] at horqueue
 have kallqueue:(b.queue.all fun x=>!decide ((x.tgs.length:Int) > 6))=true:=by rw [horqueue];rfl
 clear hb
 repeat (first | refine ab ?_ | refine ae ?_ | refine aa _ lo ?_ | refine aa _ la ?_ | refine aa _ lb ?_ | refine aa _ (eY _ _) ?_ | refine aa _ (aU _ _) ?_)
 refine ah ⟨?_,rfl⟩
 simp only [fO,gJ,mL,ks0lib,ks0hand,ks0field,ks0grave,ks1lib,ks1hand,ks1field,ks1grave,kstack,kallstack,kqueue,kallqueue,Bool.not_true,Bool.not_false,Bool.true_and,Bool.false_and,Bool.and_false]
end Go.Proofs.YtdhobpmnkfmcfaaGreatDoor
namespace Go.Proofs.YtdhobpmnkfmcfaaGreatDoor
open Go Go.Sx
set_option maxRecDepth 100000
set_option maxHeartbeats 1000000
def tys:Tys:=⟨aM,aO,bq,bB,az⟩
theorem xZ {H:Heap} {v:Value} {l:List (List Value)} (h:Sl H 12 v l) (hb:l.length≤2 ^ 40):Triple PP dM [v] H [] fun v' H' O'=>OSl aO 12 v' l O':=by
 refine il (vs:=[v]) (by kernel_rfl) ⟨h.one,trivial⟩ ?_
 simp only [cn]
 obtain ⟨a,cap,rfl,h1,h2,h3⟩:=h
 have hev:ak (.bin .eql .slice) [.slice a l.length cap,.slice none 0 0]=some (.bool a.isNone):=by cases a <;> rfl
 refine aa _ hev (aj (fun hn=>ah ?_) (fun hn=>fun r0=>?_))
 ·have hl:l=[]:=by
   by_cases hl:l=[]
   ·exact hl
   ·obtain ⟨ad,rfl,_⟩:=h3 hl;cases hn
  subst hl
  exact OSl.nil aO 12
 ·refine aD (rows:=[]) (news:=l) (O1:=[]) (O2:=[]) (e:=aO) (size:=12) (bytes:=80) (by kernel_rfl) (List.Perm.refl _) (.inl ⟨⟨_,rfl⟩,rfl,rfl⟩) (fun Hf hl _=>Sl.le hl ⟨a,cap,rfl,h1,h2,h3⟩) (by simp;omega) (by simp;omega) ?_
  intro v' O1' H' _ ho
  refine ah ?_
  rw [List.append_nil]
  exact ho
theorem zh {H:Heap} {v:Value} {l:List (List Value)} (h:Sl H 2 v l) (hb:l.length≤2 ^ 40):Triple PP eh [v] H [] fun v' H' O'=>OSl bq 2 v' l O':=by
 refine jb (vs:=[v]) (by kernel_rfl) ⟨h.one,trivial⟩ ?_
 simp only [cC]
 obtain ⟨a,cap,rfl,h1,h2,h3⟩:=h
 have hev:ak (.bin .eql .slice) [.slice a l.length cap,.slice none 0 0]=some (.bool a.isNone):=by cases a <;> rfl
 refine aa _ hev (aj (fun hn=>ah ?_) (fun hn=>fun r0=>?_))
 ·have hl:l=[]:=by
   by_cases hl:l=[]
   ·exact hl
   ·obtain ⟨ad,rfl,_⟩:=h3 hl;cases hn
  subst hl
  exact OSl.nil bq 2
 ·refine aD (rows:=[]) (news:=l) (O1:=[]) (O2:=[]) (e:=bq) (size:=2) (bytes:=16) (by kernel_rfl) (List.Perm.refl _) (.inl ⟨⟨_,rfl⟩,rfl,rfl⟩) (fun Hf hl _=>Sl.le hl ⟨a,cap,rfl,h1,h2,h3⟩) (by simp;omega) (by simp;omega) ?_
  intro v' O1' H' _ ho
  refine ah ?_
  rw [List.append_nil]
  exact ho
theorem AU {H:Heap} {v:Value} {l:List (List Value)} (h:Sl H 5 v l) (hb:l.length≤2 ^ 40):Triple PP eI [v] H [] fun v' H' O'=>OSl bB 5 v' l O':=by
 refine jM (vs:=[v]) (by kernel_rfl) ⟨h.one,trivial⟩ ?_
 simp only [cR]
 obtain ⟨a,cap,rfl,h1,h2,h3⟩:=h
 have hev:ak (.bin .eql .slice) [.slice a l.length cap,.slice none 0 0]=some (.bool a.isNone):=by cases a <;> rfl
 refine aa _ hev (aj (fun hn=>ah ?_) (fun hn=>fun r0=>?_))
 ·have hl:l=[]:=by
   by_cases hl:l=[]
   ·exact hl
   ·obtain ⟨ad,rfl,_⟩:=h3 hl;cases hn
  subst hl
  exact OSl.nil bB 5
 ·refine aD (rows:=[]) (news:=l) (O1:=[]) (O2:=[]) (e:=bB) (size:=5) (bytes:=56) (by kernel_rfl) (List.Perm.refl _) (.inl ⟨⟨_,rfl⟩,rfl,rfl⟩) (fun Hf hl _=>Sl.le hl ⟨a,cap,rfl,h1,h2,h3⟩) (by simp;omega) (by simp;omega) ?_
  intro v' O1' H' _ ho
  refine ah ?_
  rw [List.append_nil]
  exact ho
theorem xY {H:Heap} {v:Value} {l:List (List Value)} (h:Sl H 2 v l) (hb:l.length≤2 ^ 40):Triple PP dL [v] H [] fun v' H' O'=>OSl az 2 v' l O':=by
 refine ik (vs:=[v]) (by kernel_rfl) ⟨h.one,trivial⟩ ?_
 simp only [cm]
 obtain ⟨a,cap,rfl,h1,h2,h3⟩:=h
 have hev:ak (.bin .eql .slice) [.slice a l.length cap,.slice none 0 0]=some (.bool a.isNone):=by cases a <;> rfl
 refine aa _ hev (aj (fun hn=>ah ?_) (fun hn=>fun r0=>?_))
 ·have hl:l=[]:=by
   by_cases hl:l=[]
   ·exact hl
   ·obtain ⟨ad,rfl,_⟩:=h3 hl;cases hn
  subst hl
  exact OSl.nil az 2
 ·refine aD (rows:=[]) (news:=l) (O1:=[]) (O2:=[]) (e:=az) (size:=2) (bytes:=16) (by kernel_rfl) (List.Perm.refl _) (.inl ⟨⟨_,rfl⟩,rfl,rfl⟩) (fun Hf hl _=>Sl.le hl ⟨a,cap,rfl,h1,h2,h3⟩) (by simp;omega) (by simp;omega) ?_
  intro v' O1' H' _ ho
  refine ah ?_
  rw [List.append_nil]
  exact ho
end Go.Proofs.YtdhobpmnkfmcfaaGreatDoor
namespace Go.Proofs.YtdhobpmnkfmcfaaGreatDoor
open Go Go.Sx
set_option maxRecDepth 100000
set_option maxHeartbeats 1000000
theorem Qm {H:Heap} {v:Value} {l:List It} (h:ItsS H v l) (hB:VV l):Triple PP yz [v] H [] fun v' H' O'=>OItsS az bB v' l O':=by
 obtain ⟨rows,hs,hrl,hit⟩:=h
 refine Cf (vs:=[v]) (by kernel_rfl) ⟨hs.one,trivial⟩ ?_
 simp only [rO]
 refine ax (AU hs (by have:=hB.1;omega)) fun v' H1 O1 ho l1=>⟨[v'],rfl,⟨ho.one,trivial⟩,?_⟩
 have hlen:=ho.len
 rw [hrl] at hlen
 refine aa _ hlen ?_
 refine aX l.length (fun i H' O'=>Heap.le H1 H'∧∃ rows' A Ts,O'.Perm (A++List.flatten Ts)∧OSl bB 5 v' rows' A∧rows'.length=l.length∧Ts.length=i ∧
  (∀ (j:Nat) (r:List Value) (x:It) (T:Own),rows'[j]?=some r→l[j]?=some x→Ts[j]?=some T→∃ s,r=[iV x.player,iV x.id,iV x.card,iV x.trig,s]∧OSl az 2 s (x.tgs.map Tg.row) T)∧∀ j,i≤j→rows'[j]?=rows[j]?)
  ⟨Heap.le_refl _,rows,O1,[],by simp,ho,hrl,rfl,fun j r x T _ _ h=>by simp at h,fun _ _=>rfl⟩ ?_
 rintro i H' O' hi - ⟨hle,rows',A,Ts,hp,hA,hrl',htl,hspec,hrest⟩
 refine aa _ (aI _ _) (aj (fun hb=>?_) (fun hb=>?_))
 ·have hlt:i < l.length:=by simpa using hb
  have hri:rows'[i]?=some rows[i]:=by rw [hrest i (Nat.le_refl _)];exact List.getElem?_eq_getElem (by omega)
  obtain ⟨s,hrow,hst⟩:=hit i rows[i] l[i] (List.getElem?_eq_getElem (by omega)) (List.getElem?_eq_getElem hlt)
  obtain ⟨a,k1,_,_,k3⟩:=hA.idx (fun p hp'=>hp.mem_iff.2 (List.mem_append_left _ hp')) H' (k:=.i64) hri
  have hr:=k3 4 1 (by omega)
  rw [hrow] at hr
  refine aa _ k1 (aK rfl (aw hr rfl ⟨hst.one,trivial⟩ ?_))
  refine ax (xY (hst.le (Heap.le_trans l1 hle)) (by have:=hB.2 _ (List.getElem_mem hlt);simp;omega)) fun s' H2 T hT l2=>⟨[s'],rfl,⟨hT.one,trivial⟩,?_⟩
  have hp2:(T++O').Perm (A++(T++List.flatten Ts)):=(hp.append_left T).trans (List.perm_append_comm_assoc _ _ _)
  obtain ⟨a2,j1,j2⟩:=hA.store hp2 (k:=.i64) hri
  obtain ⟨A',hst2,hA'⟩:=j2 4 [s'] (by simp) ⟨hT.one,trivial⟩
  refine aa _ j1 (aK rfl (aK rfl ⟨_,hst2,?_⟩))
  have hsp:dH rows[i] 4 [s']=[iV l[i].player,iV l[i].id,iV l[i].card,iV l[i].trig,s']:=by rw [hrow];rfl
  rw [hsp] at hA'
  refine aa _ (aA (by have:=hB.1;omega)) (aR (by simp [Eqs]) hlt ⟨Heap.le_trans hle l2,_,A',Ts++[T],?_,hA',by simp [hrl'],by simp [htl],?_,?_⟩)
  ·refine List.Perm.append_left A' ?_
   rw [List.flatten_append]
   simpa using List.perm_append_comm
  ·intro j r x T' h1 h2 h3
   by_cases hj:j=i
   ·subst hj
    rw [List.getElem?_set_self (by omega)] at h1
    rw [List.getElem?_eq_getElem hlt] at h2
    rw [List.getElem?_append_right (by omega),htl,Nat.sub_self] at h3
    simp only [Option.some.injEq,List.getElem?_cons_zero] at h1 h2 h3
    subst h1;subst h2;subst h3
    exact ⟨s',rfl,hT⟩
   ·rw [List.getElem?_set_ne (by omega)] at h1
    have hjlt:j < Ts.length:=by
     have:=(List.getElem?_eq_some_iff.1 h3).1
     simp at this;omega
    rw [List.getElem?_append_left hjlt] at h3
    exact hspec j r x T' h1 h2 h3
  ·intro j hj
   rw [List.getElem?_set_ne (by omega)]
   exact hrest j (by omega)
 ·have hie:i=l.length:=by
   have:¬ ((i:Int) < (l.length:Int)):=by simpa using hb
   omega
  subst hie
  exact ah ⟨rows',A,Ts,hp,hA,hrl',htl,hspec⟩
theorem OIts.one {te ti:TypeId} {v:Value} {l:List It} {O:Own} (h:OIts te ti v l O):v.oneCell'=true:=by
 obtain ⟨rows,A,Ts,_,h1,_⟩:=h;exact h1.one
theorem Qv {H:Heap} {v:dG} {b:Bd} (h:BdS H v b) (hB:bdB b):Triple PP uQ [.agg (ao v b).toArray] H [] fun r H' O'=>∃ w,r=.agg (ao w b).toArray∧OwnBS tys w b O':=by
 refine EJ (vs:=ao v b) (by kernel_rfl) (ap (h.r [])) ?_
 simp only [uD]
 obtain ⟨b1,⟨b2,b3,b4,b5⟩,⟨b6,b7,b8,b9⟩,b10,b11,b12,b13⟩:=hB
 have cl:∀ {l:List Int},l.length≤1000000→(aG l).length≤2 ^ 40:=fun h=>by rw [aG,List.length_map];omega
 refine af fun r0=>af fun r1=>?_
 refine ab (ab (ab ?_))
 refine ax (xZ h.objs (by rw [List.length_map];omega)) fun xo H1 Oo po l1=>⟨_,rfl,⟨po.one,trivial⟩,?_⟩
 replace h:=h.le l1
 refine ax (fm h.att (cl b12)) fun xa H1 Oa pa l1=>⟨_,rfl,⟨pa.one,trivial⟩,?_⟩
 replace h:=h.le l1
 refine ax (zh h.blocks (by rw [List.length_map];omega)) fun xb H1 Obk pb l1=>⟨_,rfl,⟨pb.one,trivial⟩,?_⟩
 replace h:=h.le l1
 repeat (first | refine ab ?_ | refine ae ?_)
 refine ax (Qm h.stack b10) fun xs H1 Os ps l1=>⟨_,rfl,⟨OItsS.one ps,trivial⟩,?_⟩
 replace h:=h.le l1
 refine ax (Qm h.queue b11) fun xq H1 Oq pq l1=>⟨_,rfl,⟨OItsS.one pq,trivial⟩,?_⟩
 replace h:=h.le l1
 refine ab (ab ?_)
 refine ai (oM r0 1 _ _) rfl ⟨rfl,rfl,rfl,rfl,trivial⟩ fun H1 l1=>?_
 replace h:=h.le l1
 repeat (first | refine ab ?_ | refine ae ?_)
 refine ax (fm h.s0.lib (cl b2)) fun x1 H1 A0 p1 l1=>⟨_,rfl,⟨p1.one,trivial⟩,?_⟩
 replace h:=h.le l1
 refine ab (ab ?_)
 refine ax (fm h.s0.hand (cl b3)) fun x2 H1 B0 p2 l1=>⟨_,rfl,⟨p2.one,trivial⟩,?_⟩
 replace h:=h.le l1
 refine ab (ab ?_)
 refine ax (fm h.s0.field (cl b4)) fun x3 H1 C0 p3 l1=>⟨_,rfl,⟨p3.one,trivial⟩,?_⟩
 replace h:=h.le l1
 refine ab (ab ?_)
 refine ax (fm h.s0.grave (cl b5)) fun x4 H1 D0 p4 l1=>⟨_,rfl,⟨p4.one,trivial⟩,?_⟩
 replace h:=h.le l1
 refine ab ?_
 refine ai (oM r0 15 _ _) rfl ⟨rfl,rfl,rfl,rfl,trivial⟩ fun H1 l1=>?_
 replace h:=h.le l1
 repeat (first | refine ab ?_ | refine ae ?_)
 refine ax (fm h.s1.lib (cl b6)) fun x5 H1 A1 p5 l1=>⟨_,rfl,⟨p5.one,trivial⟩,?_⟩
 replace h:=h.le l1
 refine ab (ab ?_)
 refine ax (fm h.s1.hand (cl b7)) fun x6 H1 B1 p6 l1=>⟨_,rfl,⟨p6.one,trivial⟩,?_⟩
 replace h:=h.le l1
 refine ab (ab ?_)
 refine ax (fm h.s1.field (cl b8)) fun x7 H1 C1 p7 l1=>⟨_,rfl,⟨p7.one,trivial⟩,?_⟩
 replace h:=h.le l1
 refine ab (ab ?_)
 refine ax (fm h.s1.grave (cl b9)) fun x8 H1 D1 p8 l1=>⟨_,rfl,⟨p8.one,trivial⟩,?_⟩
 refine ab (ab (ab (ab ?_)))
 refine ah ⟨⟨xo,x1,x2,x3,x4,x5,x6,x7,x8,xs,xq,xa,xb⟩,rfl,Os,Oo++(A0++(B0++(C0++(D0++(A1++(B1++(C1++(D1++(Oq++(Oa++Obk)))))))))),?_,ps,fun v' l' A' h'=>⟨Oo,A0,B0,C0,D0,A1,B1,C1,D1,A',Oq,Oa,Obk,?_,⟨po,p1,p2,p3,p4,p5,p6,p7,p8,h',pq.weak,pa,pb⟩⟩⟩
 ·refine aZ fun a _ _=>?_
  simp only [List.count_append,List.count_nil]
  omega
 ·refine aZ fun a _ _=>?_
  simp only [List.count_append]
  omega
theorem I4 {H:Heap} {v:dG} {b:Bd} (h:BdS H v b) (hB:bdB b):Triple PP uQ [.agg (ao v b).toArray] H [] fun r H' O'=>∃ w,r=.agg (ao w b).toArray∧OwnB tys w b O' :=
 Triple.mono (Qv h hB) fun _ _ _ _ ⟨w,e,h⟩=>⟨w,e,OwnBS.weak h⟩
end Go.Proofs.YtdhobpmnkfmcfaaGreatDoor
