/- Which boards are valid: what the program says. -/
import Derived.Test.YtdhobpmnkfmcfaaGreatDoorC1
namespace Go.Proofs.YtdhobpmnkfmcfaaGreatDoor
open Go Go.Sx
set_option maxRecDepth 100000
set_option maxHeartbeats 1000000
theorem Np {α:Type} [DecidableEq α]:∀ {l r:List α},l.Nodup→(∀ x ∈ l,x ∈ r)→l.length≤r.length
 | [],_,_,_=>Nat.zero_le _
 | a::l,r,hn,hs=>by
  rw [List.nodup_cons] at hn
  have har:a ∈ r:=hs a (by simp)
  have h1:=Np (r:=r.erase a) hn.2 fun x hx=>by
   have:x ≠ a:=fun e=>hn.1 (e ▸ hx)
   exact (List.mem_erase_of_ne this).2 (hs x (by simp [hx]))
  rw [List.length_erase_of_mem har] at h1
  have:=List.length_pos_of_mem har
  simp only [List.length_cons];omega
theorem Ha {α:Type} [DecidableEq α] {l r:List α} (hn:l.Nodup) (hs:∀ x ∈ l,x ∈ r) (hl:r.length≤l.length):∀ x ∈ r,x ∈ l:=by
 intro x hx
 rcases Classical.em (x ∈ l) with h | h
 ·exact h
 ·have:=Np (l:=x::l) (r:=r) (List.nodup_cons.2 ⟨h,hn⟩) (fun y hy=>by
   rcases List.mem_cons.1 hy with rfl | hy
   ·exact hx
   ·exact hs y hy)
  simp only [List.length_cons] at this;omega
theorem JH {val:Ob→Bool} {ps cs:List (Int × Int)}:∀ {l:List Ob} {prev:Option Int},ru val ps cs prev l=true →
  (∀ o ∈ l,val o=true∧(dX ps o.id).isSome=true∧∀ p,prev=some p→p < o.id)∧(l.map (·.id)).Nodup
 | [],_,_=>⟨by simp,by simp⟩
 | o::r,prev,h=>by
  simp only [ru,GY,Bool.and_eq_true,Bool.not_eq_true',Bool.or_eq_false_iff,Bool.not_eq_false'] at h
  obtain ⟨⟨⟨⟨⟨h1,h2⟩,h3⟩,_⟩,_⟩,h6⟩:=h
  obtain ⟨k1,k2⟩:=JH h6
  have hp:∀ p,prev=some p→p < o.id:=by
   rintro p rfl
   simp only [kM,decide_eq_false_iff_not] at h2
   omega
  refine ⟨?_,?_⟩
  ·intro x hx
   rcases List.mem_cons.1 hx with rfl | hx
   ·refine ⟨h1,?_,hp⟩
    cases hl:dX ps x.id with
    | none=>rw [hl] at h3;cases h3
    | some v=>rfl
   ·obtain ⟨a1,a2,a3⟩:=k1 x hx
    exact ⟨a1,a2,fun p e=>by have:=a3 _ rfl;have:=hp p e;omega⟩
  ·rw [List.map_cons,List.nodup_cons]
   refine ⟨?_,k2⟩
   intro hm
   obtain ⟨x,hx,e⟩:=List.mem_map.1 hm
   have:=(k1 x hx).2.2 _ rfl
   omega
theorem AK {val:Ob→Bool} {b:Bd} (h:cE val b=true):∀ x ∈ (aZ b).map (·.1),∃ o ∈ b.objs,o.id=x∧val o=true:=by
 simp only [cE,Bool.and_eq_true,decide_eq_true_eq] at h
 obtain ⟨_,h2,h3⟩:=h
 obtain ⟨k1,k2⟩:=JH h2
 intro x hx
 have:=Ha (l:=b.objs.map (·.id)) (r:=(aZ b).map (·.1)) k2 (fun y hy=>by
  obtain ⟨o,ho,rfl⟩:=List.mem_map.1 hy
  have:=(k1 o ho).2.1
  rcases Classical.em (o.id ∈ (aZ b).map (·.1)) with h | h
  ·exact h
  ·rw [iW.2 h] at this;cases this) (by simp [h3]) x hx
 obtain ⟨o,ho,rfl⟩:=List.mem_map.1 this
 exact ⟨o,ho,rfl,(k1 o ho).1⟩
theorem yR {o:Ob} (h:bc o=true):1≤o.id∧o.id≤500:=by
 simp only [bc,Bool.and_eq_true,decide_eq_true_eq] at h
 exact ⟨h.1.2.1.1.1.2,h.1.2.1.1.2⟩
theorem Oi {b:Bd} (h:cE bc b=true):∀ x,x ∈ b.s0.field∨x ∈ b.s1.field→0 < x∧x≤500:=by
 intro x hx
 obtain ⟨o,_,rfl,ho⟩:=AK h x (by
  simp only [aZ,fH,List.map_append,List.map_map,List.mem_append,List.mem_map,Function.comp]
  rcases hx with hx | hx
  ·left;right;right;left;exact ⟨x,hx,rfl⟩
  ·right;left;right;right;left;exact ⟨x,hx,rfl⟩)
 have:=yR ho
 omega
def gW (b:Bd):Bool:=if b.active=0 then oS b.s0.field b.s1.field b.att b.blocks else oS b.s1.field b.s0.field b.att b.blocks
theorem TU {H:Heap} {O:Own} {v:cP} {b:Bd} (h:BdR H O v b) (ha:b.active=0∨b.active=1) (hp:∀ x,x ∈ b.s0.field∨x ∈ b.s1.field→0 < x∧x≤500) :
  RetO PP yc [.agg (ap v b).toArray] H O (.bool (gW b)):=by
 refine CX (vs:=ap v b) (by kernel_rfl) (ao h) ?_
 simp only [qR]
 refine af fun r0=>aa ?_
 have e34:g (ap v b) 34=iV b.active:=rfl
 rw [e34]
 have hs:∀ n:Int,n=0∨n=1→ak (.bin .sub .int) [iV 1,iV n]=some (iV (1 - n)):=by
  rintro n (rfl | rfl) <;> rfl
 rcases ha with ha | ha
 ·rw [ha]
  refine ⟨.i64,0,rfl,fun _=>aa (aa (ab _ (hs 0 (.inl rfl)) ⟨.i64,1,rfl,fun e=>absurd e (by omega),fun _=>⟨.i64,1,rfl,fun _=>?_,fun e=>absurd rfl e⟩⟩)),fun e=>absurd rfl e⟩
  refine aa ?_
  refine Hw h.s0.field h.s1.field h.att h.blocks (fun x hx=>(hp x (.inl hx)).1) (fun x hx=>hp x (.inr hx)) ?_ ?_ ?_
  ·intros;simp [Eqs]
  ·intros;simp [Eqs]
  ·exact fun H' _=>⟨by simp [gW,ha],rfl⟩
 ·rw [ha]
  refine ⟨.i64,1,rfl,fun e=>absurd e (by omega),fun _=>⟨.i64,1,rfl,fun _=>aa (aa (ab _ (hs 1 (.inr rfl)) ⟨.i64,0,rfl,fun _=>?_,fun e=>absurd rfl e⟩)),fun e=>absurd rfl e⟩⟩
  refine aa ?_
  refine Hw h.s1.field h.s0.field h.att h.blocks (fun x hx=>(hp x (.inr hx)).1) (fun x hx=>hp x (.inl hx)) ?_ ?_ ?_
  ·intros;simp [Eqs]
  ·intros;simp [Eqs]
  ·exact fun H' _=>⟨by simp [gW,ha],rfl⟩
theorem wR {b:Bool} (h:(!b)=true):b=false:=by simpa using h
theorem rx {b:Bool} (h:(!b)=false):b=true:=by simpa using h
def ce (s:St):Bool:=aw s.life 0 9999 && (([s.p0,s.p1,s.p2,s.p3].all fun n=>aw n 0 99) && (aw s.mull 0 7 && aw s.acts 0 255))
def zf (b:Bd):Bool:=((!aw b.passes 0 2 || decide ((b.objs.length:Int) > 500)) || decide ((b.stack.length:Int) > 200)) || decide ((b.queue.length:Int) > 200)
def ay (b:Bd):Bool:=aw b.active 0 1 && (aw b.turn 0 1000 && (aw b.phase 0 10 && (aw b.holder (-1) 1 && (!zf b && (ce b.s0 && (ce b.s1 &&
 (!(b.stack.any fun x=>!dz x false) && (!(b.queue.any fun x=>!dz x true) && (cE bc b && gW b)))))))))
theorem dY {H:Heap} {O:Own} {v:cP} {b:Bd} (h:BdR H O v b):RetO PP Ae [.agg (ap v b).toArray] H O (.bool (ay b)):=by
 refine Ey (vs:=ap v b) (by kernel_rfl) (ao h) ?_
 simp only [tM]
 refine af fun r0=>?_
 refine aa (ai (dt b.active 0 1 H O) rfl ⟨rfl,trivial⟩ fun H1 l1=>ab _ (aN _) (aj (fun hb=>ah ⟨?_,rfl⟩) (fun hb=>?_)))
 ·have kf:aw b.active 0 1=false:=wR hb
  simp only [ay,kf,Bool.true_and,Bool.false_and,Bool.and_false]
 have k1:aw b.active 0 1=true:=rx hb
 replace h:=h.le l1
 clear hb
 refine aa (ai (dt b.turn 0 1000 H1 O) rfl ⟨rfl,trivial⟩ fun H2 l2=>ab _ (aN _) (aj (fun hb=>ah ⟨?_,rfl⟩) (fun hb=>?_)))
 ·have kf:aw b.turn 0 1000=false:=wR hb
  simp only [ay,k1,kf,Bool.true_and,Bool.false_and,Bool.and_false]
 have k2:aw b.turn 0 1000=true:=rx hb
 replace h:=h.le l2
 clear hb
 refine aa (ai (dt b.phase 0 10 H2 O) rfl ⟨rfl,trivial⟩ fun H3 l3=>ab _ (aN _) (aj (fun hb=>ah ⟨?_,rfl⟩) (fun hb=>?_)))
 ·have kf:aw b.phase 0 10=false:=wR hb
  simp only [ay,k1,k2,kf,Bool.true_and,Bool.false_and,Bool.and_false]
 have k3:aw b.phase 0 10=true:=rx hb
 replace h:=h.le l3
 clear hb
 refine aa (ai (dt b.holder (-1) 1 H3 O) rfl ⟨rfl,trivial⟩ fun H4 l4=>ab _ (aN _) (aj (fun hb=>ah ⟨?_,rfl⟩) (fun hb=>?_)))
 ·have kf:aw b.holder (-1) 1=false:=wR hb
  simp only [ay,k1,k2,k3,kf,Bool.true_and,Bool.false_and,Bool.and_false]
 have k4:aw b.holder (-1) 1=true:=rx hb
 replace h:=h.le l4
 clear hb
 refine aa (ai (dt b.passes 0 2 H4 O) rfl ⟨rfl,trivial⟩ fun H5 l5=>ab _ (aN _) ?_)
 replace h:=h.le l5
 have lo:=h.objs.len
 rw [List.length_map] at lo
 refine aa (ae (ae ?_))
 refine ab _ (lo) (ae (ab _ (bG _ _) (ae (ab _ (aS _ _) ?_))))
 refine aa (ae (ae ?_))
 refine ab _ (ItsR.len h.stack) (ae (ab _ (bG _ _) (ae (ab _ (aS _ _) ?_))))
 refine aa (ae (ae ?_))
 refine ab _ (ItsR.len h.queue) (ae (ab _ (bG _ _) (ae (ab _ (aS _ _) ?_))))
 refine aj (fun hb=>ah ⟨?_,rfl⟩) (fun hb=>?_)
 ·have kf:zf b=true:=hb
  simp only [ay,k1,k2,k3,k4,kf,Bool.true_and,Bool.not_true,Bool.false_and]
 have kmid:zf b=false:=hb
 clear hb
 refine aa (af fun r1=>aa ?_)
 refine aa (ai (dt b.s0.life 0 9999 H5 O) rfl ⟨rfl,trivial⟩ fun H6 l6=>ab _ (aN _) (aj (fun hb=>ah ⟨?_,rfl⟩) (fun hb=>?_)))
 ·have kf:aw b.s0.life 0 9999=false:=wR hb
  simp only [ay,ce,k1,k2,k3,k4,kmid,kf,Bool.true_and,Bool.false_and,Bool.and_false,Bool.not_false]
 have k6:aw b.s0.life 0 9999=true:=rx hb
 replace h:=h.le l6
 clear hb
 refine aa (ai (B9 b.s0.p0 b.s0.p1 b.s0.p2 b.s0.p3 H6 O) rfl ⟨rfl,trivial⟩ fun H7 l7=>ab _ (aN _) (aj (fun hb=>ah ⟨?_,rfl⟩) (fun hb=>?_)))
 ·have kf:([b.s0.p0,b.s0.p1,b.s0.p2,b.s0.p3].all fun n=>aw n 0 99)=false:=wR hb
  simp only [ay,ce,k1,k2,k3,k4,kmid,k6,kf,Bool.true_and,Bool.false_and,Bool.and_false,Bool.not_false]
 have k7:([b.s0.p0,b.s0.p1,b.s0.p2,b.s0.p3].all fun n=>aw n 0 99)=true:=rx hb
 replace h:=h.le l7
 clear hb
 refine aa (ai (dt b.s0.mull 0 7 H7 O) rfl ⟨rfl,trivial⟩ fun H8 l8=>ab _ (aN _) (aj (fun hb=>ah ⟨?_,rfl⟩) (fun hb=>?_)))
 ·have kf:aw b.s0.mull 0 7=false:=wR hb
  simp only [ay,ce,k1,k2,k3,k4,kmid,k6,k7,kf,Bool.true_and,Bool.false_and,Bool.and_false,Bool.not_false]
 have k8:aw b.s0.mull 0 7=true:=rx hb
 replace h:=h.le l8
 clear hb
 refine aa (ai (dt b.s0.acts 0 255 H8 O) rfl ⟨rfl,trivial⟩ fun H9 l9=>ab _ (aN _) (aj (fun hb=>ah ⟨?_,rfl⟩) (fun hb=>?_)))
 ·have kf:aw b.s0.acts 0 255=false:=wR hb
  simp only [ay,ce,k1,k2,k3,k4,kmid,k6,k7,k8,kf,Bool.true_and,Bool.false_and,Bool.and_false,Bool.not_false]
 have k9:aw b.s0.acts 0 255=true:=rx hb
 replace h:=h.le l9
 clear hb
 refine af fun r2=>aa ?_
 refine aa (ai (dt b.s1.life 0 9999 H9 O) rfl ⟨rfl,trivial⟩ fun H10 l10=>ab _ (aN _) (aj (fun hb=>ah ⟨?_,rfl⟩) (fun hb=>?_)))
 ·have kf:aw b.s1.life 0 9999=false:=wR hb
  simp only [ay,ce,k1,k2,k3,k4,kmid,k6,k7,k8,k9,kf,Bool.true_and,Bool.false_and,Bool.and_false,Bool.not_false]
 have k10:aw b.s1.life 0 9999=true:=rx hb
 replace h:=h.le l10
 clear hb
 refine aa (ai (B9 b.s1.p0 b.s1.p1 b.s1.p2 b.s1.p3 H10 O) rfl ⟨rfl,trivial⟩ fun H11 l11=>ab _ (aN _) (aj (fun hb=>ah ⟨?_,rfl⟩) (fun hb=>?_)))
 ·have kf:([b.s1.p0,b.s1.p1,b.s1.p2,b.s1.p3].all fun n=>aw n 0 99)=false:=wR hb
  simp only [ay,ce,k1,k2,k3,k4,kmid,k6,k7,k8,k9,k10,kf,Bool.true_and,Bool.false_and,Bool.and_false,Bool.not_false]
 have k11:([b.s1.p0,b.s1.p1,b.s1.p2,b.s1.p3].all fun n=>aw n 0 99)=true:=rx hb
 replace h:=h.le l11
 clear hb
 refine aa (ai (dt b.s1.mull 0 7 H11 O) rfl ⟨rfl,trivial⟩ fun H12 l12=>ab _ (aN _) (aj (fun hb=>ah ⟨?_,rfl⟩) (fun hb=>?_)))
 ·have kf:aw b.s1.mull 0 7=false:=wR hb
  simp only [ay,ce,k1,k2,k3,k4,kmid,k6,k7,k8,k9,k10,k11,kf,Bool.true_and,Bool.false_and,Bool.and_false,Bool.not_false]
 have k12:aw b.s1.mull 0 7=true:=rx hb
 replace h:=h.le l12
 clear hb
 refine aa (ai (dt b.s1.acts 0 255 H12 O) rfl ⟨rfl,trivial⟩ fun H13 l13=>ab _ (aN _) (aj (fun hb=>ah ⟨?_,rfl⟩) (fun hb=>?_)))
 ·have kf:aw b.s1.acts 0 255=false:=wR hb
  simp only [ay,ce,k1,k2,k3,k4,kmid,k6,k7,k8,k9,k10,k11,k12,kf,Bool.true_and,Bool.false_and,Bool.and_false,Bool.not_false]
 have k13:aw b.s1.acts 0 255=true:=rx hb
 replace h:=h.le l13
 clear hb
 refine aa (ai (oZ (p:=fun x=>!dz x false) h.stack rfl (jS aB (by decide)) fun H' _ row x hx=>RP hx) rfl ⟨rfl,trivial⟩ fun H20 l20=>aj (fun hb=>ah ⟨?_,rfl⟩) (fun hb=>?_))
 ·simp only [ay,ce,k1,k2,k3,k4,kmid,k6,k7,k8,k9,k10,k11,k12,k13,hb,Bool.true_and,Bool.not_true,Bool.not_false,Bool.false_and]
 replace h:=h.le l20
 refine aa (ai (oZ (p:=fun x=>!dz x true) h.queue rfl (jS aB (by decide)) fun H' _ row x hx=>RO hx) rfl ⟨rfl,trivial⟩ fun H21 l21=>ab _ (aN _) (aj (fun hq=>?_) (fun hq=>ah ⟨?_,rfl⟩)))
 ·replace h:=h.le l21
  simp only [Bool.not_eq_true'] at hq
  have hfin:ay b=(cE bc b && gW b):=by simp only [ay,ce,k1,k2,k3,k4,kmid,k6,k7,k8,k9,k10,k11,k12,k13,hb,hq,Bool.true_and,Bool.not_false]
  refine aa (ai (TQ h) rfl ⟨rfl,trivial⟩ fun H22 l22=>aj (fun hp=>?_) (fun hp=>ah ⟨?_,rfl⟩))
  ·replace h:=h.le l22
   have ha:b.active=0∨b.active=1:=by have:=k1;simp only [aw,decide_eq_true_eq] at this;omega
   refine aa (ai (TU h ha (Oi hp)) rfl ⟨rfl,trivial⟩ fun H23 l23=>ah ⟨?_,rfl⟩)
   rw [hfin,hp,Bool.true_and];rfl
  ·rw [hfin,hp];rfl
 ·simp only [Bool.not_eq_false'] at hq
  simp only [ay,ce,k1,k2,k3,k4,kmid,k6,k7,k8,k9,k10,k11,k12,k13,hb,hq,Bool.true_and,Bool.not_false,Bool.not_true,Bool.false_and]
end Go.Proofs.YtdhobpmnkfmcfaaGreatDoor
namespace Go.Proofs.YtdhobpmnkfmcfaaGreatDoor
open Go Go.Sx
set_option maxRecDepth 100000
set_option maxHeartbeats 1000000
theorem KF {a b:Bool} (h:a=true ↔ b=true):(Value.bool a:Value)=.bool b:=by rw [Bool.eq_iff_iff.2 h]
theorem AG (n:Int) (H:Heap) (O:Own):RetO PP nE [iV n] H O (.bool (aw n 0 99)):=by
 refine uu (vs:=[iV n]) (by kernel_rfl) ⟨rfl,trivial⟩ ?_
 simp only [jv]
 refine ab _ (fJ _ _) (ae (ab _ (fJ _ _) (ae (ab _ (aX _ _) ?_))))
 refine ah ⟨KF ?_,rfl⟩
 simp [aw]
theorem qV (o:Ob):bc o=true ↔ ((0≤o.power∧o.power≤99)∧(0≤o.tough∧o.tough≤99)∧(0≤o.dmg∧o.dmg≤99)∧(0≤o.cnt∧o.cnt≤99)∧(0≤o.pp∧o.pp≤99)∧(0≤o.pt∧o.pt≤99)) ∧
  (o.card=-1∨(o.power=0∧o.tough=0))∧1≤o.id∧o.id≤500∧-1≤o.card∧o.card < 400∧(o.owner=0∨o.owner=1):=by
 simp only [bc,aw,List.all_cons,List.all_nil,Bool.and_true,Bool.and_eq_true,Bool.or_eq_true,decide_eq_true_eq,beq_iff_eq,ge_iff_le]
 omega
theorem Gp (o:Ob) (H:Heap) (O:Own):RetO PP nD [.agg o.row.toArray] H O (.bool (bc o)):=by
 refine ut (vs:=o.row) (by kernel_rfl) (by simp [Ob.row,Ones,Value.oneCell']) ?_
 simp only [ju]
 repeat (first | refine aa ?_ | refine ae ?_ | refine af fun _=>?_ | refine ab _ (aJ _ _) ?_ | refine ab _ (bG _ _) ?_ | refine ab _ (fJ _ _) ?_ | refine ab _ (di _ _) ?_ | refine ab _ (aA _ _) ?_ | refine ab _ (bf _ _) ?_ | refine ab _ (aX _ _) ?_ | refine ab _ (aS _ _) ?_ | refine ab _ (aN _) ?_ | refine ab _ (yy _ _) ?_ | refine ab _ (sL _ _) ?_)
 refine aj (fun h1=>ah ⟨KF ?_,rfl⟩) (fun h1=>?_)
 ·rw [qV];simp at h1 ⊢;omega
 refine aa (ab _ (fJ _ _) (aa (ae (ae (ab _ (bf _ _) (ae (aa (ae (ae (ae (ae (ab _ (bf _ _) (ae (ae (ae (ab _ (aS _ _) (ae (ab _ (aX _ _) ?_))))))))))))))))))
 refine aj (fun h2=>ah ⟨KF ?_,rfl⟩) (fun h2=>?_)
 ·rw [qV];simp at h1 h2 ⊢;omega
 have key:∀ (x:Bool),(x=true ↔ ((0≤o.power∧o.power≤99)∧(0≤o.tough∧o.tough≤99)∧(0≤o.dmg∧o.dmg≤99)∧(0≤o.cnt∧o.cnt≤99)∧(0≤o.pp∧o.pp≤99)∧(0≤o.pt∧o.pt≤99)))→(Value.bool x:Value)=.bool (bc o):=by
  intro x hx
  refine KF ?_
  rw [hx,qV]
  simp at h1 h2 ⊢;omega
 refine aa (ai (AG o.power H O) rfl ⟨rfl,trivial⟩ fun H1 _=>aj (fun k1=>?_) (fun k1=>ah ⟨key _ ?_,rfl⟩))
 rotate_left
 ·simp [aw] at k1 ⊢;omega
 refine aa (ai (AG o.tough H1 O) rfl ⟨rfl,trivial⟩ fun H2 _=>aj (fun k2=>?_) (fun k2=>ah ⟨key _ ?_,rfl⟩))
 rotate_left
 ·simp [aw] at k2 ⊢;omega
 refine aa (ai (AG o.dmg H2 O) rfl ⟨rfl,trivial⟩ fun H3 _=>aj (fun k3=>?_) (fun k3=>ah ⟨key _ ?_,rfl⟩))
 rotate_left
 ·simp [aw] at k3 ⊢;omega
 refine aa (ai (AG o.cnt H3 O) rfl ⟨rfl,trivial⟩ fun H4 _=>aj (fun k4=>?_) (fun k4=>ah ⟨key _ ?_,rfl⟩))
 rotate_left
 ·simp [aw] at k4 ⊢;omega
 refine aa (ai (AG o.pp H4 O) rfl ⟨rfl,trivial⟩ fun H5 _=>aj (fun k5=>?_) (fun k5=>ah ⟨key _ ?_,rfl⟩))
 rotate_left
 ·simp [aw] at k5 ⊢;omega
 refine aa (ai (AG o.pt H5 O) rfl ⟨rfl,trivial⟩ fun H6 _=>ah ⟨key _ ?_,rfl⟩)
 simp [aw] at k1 k2 k3 k4 k5 ⊢;omega
theorem Ul {vl vh vf vg:Value} (s:St) (hl:vl.oneCell'=true) (hh:vh.oneCell'=true) (hf:vf.oneCell'=true) (hg:vg.oneCell'=true) (H:Heap) (O:Own) :
  RetO PP pu [.agg (SU vl vh vf vg s).toArray] H O (.bool (ce s)):=by
 refine u9 (vs:=SU vl vh vf vg s) (by kernel_rfl) ⟨rfl,rfl,rfl,rfl,rfl,hl,hh,hf,hg,rfl,rfl,rfl,rfl,rfl,trivial⟩ ?_
 simp only [jZ]
 have key:∀ (x:Bool),(x=true ↔ ((0≤s.life∧s.life≤9999)∧(0≤s.p0∧s.p0≤99)∧(0≤s.p1∧s.p1≤99)∧(0≤s.p2∧s.p2≤99)∧(0≤s.p3∧s.p3≤99)∧(0≤s.mull∧s.mull≤7)∧(0≤s.acts∧s.acts≤255)))→(Value.bool x:Value)=.bool (ce s):=by
  intro x hx
  refine KF ?_
  rw [hx]
  simp only [ce,aw,List.all_cons,List.all_nil,Bool.and_true,Bool.and_eq_true,decide_eq_true_eq]
  omega
 refine af fun _=>aa (ab _ (aJ _ _) (ae (ab _ (aJ _ _) (ae (ab _ (aS _ _) ?_)))))
 refine aj (fun h1=>ah ⟨key _ ?_,rfl⟩) (fun h1=>?_)
 ·simp at h1 ⊢;omega
 refine ab _ (aJ _ _) (ae (ab _ (aJ _ _) (ae (ab _ (aS _ _) ?_))))
 refine aj (fun h2=>ah ⟨key _ ?_,rfl⟩) (fun h2=>?_)
 ·simp at h2 ⊢;omega
 refine ab _ (aJ _ _) (ae (ab _ (aJ _ _) (ae (ab _ (aS _ _) ?_))))
 refine aj (fun h3=>ah ⟨key _ ?_,rfl⟩) (fun h3=>?_)
 ·simp at h3 ⊢;omega
 refine ab _ (aJ _ _) (ae (ab _ (aJ _ _) (ae (ab _ (aS _ _) ?_))))
 refine aj (fun h4=>ah ⟨key _ ?_,rfl⟩) (fun h4=>?_)
 ·simp at h4 ⊢;omega
 repeat (first | refine aa ?_ | refine ae ?_ | refine af fun _=>?_ | refine ab _ (aJ _ _) ?_ | refine ab _ (bG _ _) ?_ | refine ab _ (fJ _ _) ?_ | refine ab _ (di _ _) ?_ | refine ab _ (aA _ _) ?_ | refine ab _ (bf _ _) ?_ | refine ab _ (aX _ _) ?_ | refine ab _ (aS _ _) ?_ | refine ab _ (aN _) ?_ | refine ab _ (yy _ _) ?_ | refine ab _ (sL _ _) ?_)
 refine ah ⟨key _ ?_,rfl⟩
 simp at h1 h2 h3 h4 ⊢;omega
end Go.Proofs.YtdhobpmnkfmcfaaGreatDoor
namespace Go.Proofs.YtdhobpmnkfmcfaaGreatDoor
open Go Go.Sx
set_option maxRecDepth 100000
set_option maxHeartbeats 1000000
abbrev IY (n:Nat) (R:Nat→Value→Heap→Own→Prop):List Value→Heap→Own→Prop:=fun vs H O=>∃ (i:Nat) (x:Value),vs=[x,iV i]∧i≤n∧R i x H O
abbrev MY (n:Nat):List Value→Heap→Own→Nat:=fun vs _ _=>match g vs 1 with | .int _ k=>n - k.toNat | _=>0
theorem dF {P:Program} {lab key:Nat} {x0:Value} {body:(List Value→Heap→Own→Prop)→List Value→Tree} {H:Heap} {O:Own} {Q:Value→Heap→Own→Prop} (n:Nat) (R:Nat→Value→Heap→Own→Prop)
  (h0:R 0 x0 H O) (step:∀ i x H' O',i≤n→Heap.le H H'→R i x H' O'→(body (NX (IY n R) (MY n) (n - i)) [x,iV i]).den P Q H' O') :
  (Tree.loop lab key [x0,.int .i64 0] body).den P Q H O:=by
 refine iU (IY n R) (MY n) ⟨0,x0,rfl,Nat.zero_le _,h0⟩ ?_
 rintro vs H' O' _ _ hle ⟨i,x,rfl,hi,hr⟩
 exact step i x H' O' hi hle hr
theorem aV {P:Program} {lab n i:Nat} {R:Nat→Value→Heap→Own→Prop} {x:Value} {eqs:List (List Value × List Value)} {H:Heap} {O:Own} {Q:Value→Heap→Own→Prop} (he:Eqs eqs) (hi:i < n) (hr:R (i + 1) x H O) :
  (Tree.cont lab (NX (IY n R) (MY n) (n - i)) [x,iV ((i + 1:Nat):Int)] eqs).den P Q H O:=by
 refine eL he ⟨i + 1,x,rfl,hi,hr⟩ ?_
 show n - ((i + 1:Nat):Int).toNat < n - i
 simp;omega
theorem GI {α:Type} [BEq α] [LawfulBEq α] {l:List α} {i:Nat} (h:i < l.length) (n:α):(l.take (i + 1)).count n=(l.take i).count n + (if l[i] == n then 1 else 0):=by
 rw [List.take_add_one,List.getElem?_eq_getElem h,Option.toList_some,List.count_append,List.count_singleton]
theorem gw {H:Heap} {O:Own} {v:Value} {l:List Int} (h:RSl H O 1 v (aI l)) (n:Int):RetO PP nC [v,iV n] H O (iV ((l.count n:Nat):Int)):=by
 refine uq (vs:=[v,iV n]) (by kernel_rfl) ⟨h.one,rfl,trivial⟩ ?_
 simp only [jt]
 have hlen:=h.len
 rw [aI,List.length_map] at hlen
 have hB:=h.lenB
 simp only [aI,List.length_map] at hB
 refine dF l.length (fun i x H' O'=>O'=O∧Heap.le H H'∧x=iV (((l.take i).count n:Nat):Int)) ⟨rfl,Heap.le_refl H,by simp⟩ ?_
 rintro i x H' O' hi - ⟨rfl,hle,rfl⟩
 have hci:(l.take i).count n≤i:=Nat.le_trans List.count_le_length (by simp;omega)
 refine ab _ hlen (ab _ (aJ _ _) (aj (fun hb=>?_) (fun hb=>?_)))
 ·have hlt:i < l.length:=by simpa using hb
  obtain ⟨a,h1,h2,_,h3,h4⟩:=(h.le hle).idx .i64 i [iV l[i]] (by simp [aI,hlt])
  refine ab _ h1 (ar h2 h3 h4 (ab _ (aA _ _) (aj (fun hb=>?_) (fun hb=>?_))))
  ·refine ab _ (aE (by omega)) (ab _ (aE (by omega)) (aV (by simp [Eqs]) hlt ⟨rfl,hle,?_⟩))
   rw [GI hlt,hb];rfl
  ·refine ab _ (aE (by omega)) (aV (by simp [Eqs]) hlt ⟨rfl,hle,?_⟩)
   rw [GI hlt,hb];rfl
 ·have:l.length≤i:=by simpa using hb
  refine ah ⟨?_,rfl⟩
  rw [List.take_of_length_le this];rfl
def eX (b:Bd) (id:Int):Int:=gx (fun o=>o.id == id) b.objs 0
theorem yj {H:Heap} {O:Own} {v:cP} {b:Bd} (h:BdR H O v b) (id:Int):RetO PP nB [.agg (ap v b).toArray,iV id] H O (iV (eX b id)):=by
 refine uo (vs:=ap v b++[iV id]) (by kernel_rfl) (az (ao h) ⟨rfl,trivial⟩) ?_
 simp only [js]
 have lo:=h.objs.len
 have hB:=h.objs.lenB
 rw [List.length_map] at lo hB
 refine af fun r0=>aT b.objs.length (fun i H' O'=>O'=O∧Heap.le H H'∧eX b id=gx (fun o=>o.id == id) (b.objs.drop i) i) ⟨rfl,Heap.le_refl H,by simp [eX]⟩ ?_
 rintro i H' O' hi - ⟨rfl,hle,hor⟩
 refine aa (ab _ lo (ab _ (aJ _ _) (aj (fun hb=>?_) (fun hb=>?_))))
 ·have hlt:i < b.objs.length:=by simpa using hb
  obtain ⟨a,h1,h2,h5,h3,h4⟩:=(h.objs.le hle).idx .i64 i (Ob.row b.objs[i]) (by simp [hlt])
  have hr:Reads H' O' (.pointer (some a)) 1 [iV b.objs[i].id]:=by
   have:=h5 0 1 (by omega)
   have e:aU (.pointer (some a)) 0=.pointer (some a):=by simp [aU,Addr.add]
   rwa [e] at this
  refine aa (ab _ h1 (aC rfl (ar hr rfl ⟨rfl,trivial⟩ (ab _ (aA _ _) (aj (fun hb=>?_) (fun hb=>?_))))))
  ·refine ah ⟨?_,rfl⟩
   rw [hor,List.drop_eq_getElem_cons hlt,gx,if_pos hb];rfl
  ·refine ab _ (aE (by omega)) (aP (by simp [Eqs]) hlt ⟨rfl,hle,?_⟩)
   rw [hor,List.drop_eq_getElem_cons hlt,gx,if_neg (by rw [hb];simp)];rfl
 ·have hge:b.objs.length≤i:=by simpa using hb
  refine ah ⟨?_,rfl⟩
  rw [hor,List.drop_of_length_le hge];rfl
theorem Um {H:Heap} {O:Own} {row:List Value} {x:It} (h:ItR H O row x) (q:Bool):RetO PP pz [.agg row.toArray,.bool q] H O (.bool (dz x q)):=by
 obtain ⟨s,rfl,hs⟩:=h
 refine vi (vs:=[iV x.player,iV x.id,iV x.card,iV x.trig,s,.bool q]) (by kernel_rfl) ⟨rfl,rfl,rfl,rfl,hs.one,rfl,trivial⟩ ?_
 simp only [kc]
 have lt:=hs.len
 have hB:=hs.lenB
 rw [List.length_map] at lt hB
 have e4:∀ {k:Value→Tree} {Q:Value→Heap→Own→Prop} {H':Heap} {O':Own},(k (iV x.tgs.length)).den PP Q H' O'→(Tree.pure [] .len [g [iV x.player,iV x.id,iV x.card,iV x.trig,s,Value.bool q] 4] k).den PP Q H' O':=fun hk=>ab _ lt hk
 repeat (first | refine aa ?_ | refine ae ?_ | refine af fun _=>?_ | refine ab _ (aJ _ _) ?_ | refine ab _ (bG _ _) ?_ | refine ab _ (fJ _ _) ?_ | refine ab _ (di _ _) ?_ | refine ab _ (aA _ _) ?_ | refine ab _ (bf _ _) ?_ | refine ab _ (aX _ _) ?_ | refine ab _ (aS _ _) ?_ | refine ab _ (aN _) ?_ | refine ab _ (yy _ _) ?_ | refine ab _ (sL _ _) ?_)
 refine e4 ?_
 refine ae (ab _ (aJ _ _) (ae (ab _ (aS _ _) ?_)))
 have fiff:dz x q=true ↔ (0≤x.player∧x.player≤1)∧(1≤x.id∧x.id≤500)∧(0≤x.card∧x.card≤399)∧(-1≤x.trig∧x.trig≤1)∧(x.tgs.length≤4∧¬ (0≤x.trig∧0 < x.tgs.length)∧¬ (q=true∧x.trig < 0))∧(x.tgs.any fun t=>!lj t)=false:=by
  simp only [dz,aw,Bool.and_eq_true,Bool.not_eq_true',Bool.or_eq_false_iff,Bool.and_eq_false_iff,decide_eq_true_eq,decide_eq_false_iff_not]
  generalize (x.tgs.any fun t=>!lj t)=c
  cases q <;> simp only [Bool.false_eq_true,false_and,true_and,not_false_eq_true,and_true,reduceCtorEq,or_false,false_or,true_or] <;> constructor <;> intro e <;> (try obtain ⟨e1,e2,e3,e4,e5,e6⟩:=e) <;> (try refine ⟨?_,?_,?_,?_,?_,?_⟩) <;> first | omega | assumption
 refine aj (fun h1=>ah ⟨KF ?_,rfl⟩) (fun h1=>?_)
 ·rw [fiff]
  simp only [Bool.or_eq_true,decide_eq_true_eq] at h1
  refine ⟨fun e=>(by cases e),fun ⟨e1,e2,e3,e4,e5,e6⟩=>?_⟩
  omega
 simp only [Bool.or_eq_false_iff,decide_eq_false_iff_not] at h1
 refine aa (ab _ (fJ _ _) (aa (ae (ae ?_))))
 refine e4 ?_
 refine ae (ab _ (aJ _ _) (ae (ab _ (aX _ _) (ae (aa (ae (ae (ae (ae (ab _ (aJ _ _) (ae (ae (ae (ab _ (aX _ _) (ae (ab _ (aS _ _) ?_))))))))))))))))
 refine aj (fun h2=>ah ⟨KF ?_,rfl⟩) (fun h2=>?_)
 ·rw [fiff]
  simp only [Bool.or_eq_true,Bool.and_eq_true,decide_eq_true_eq] at h2
  refine ⟨fun e=>(by cases e),fun ⟨e1,e2,e3,e4,⟨e5,e6,e7⟩,e8⟩=>?_⟩
  rcases h2 with h2 | h2
  ·omega
  ·exact absurd h2 e7
 simp only [Bool.or_eq_false_iff,Bool.and_eq_false_iff,decide_eq_false_iff_not] at h2
 have hfin:(Value.bool (!(x.tgs.any fun t=>!lj t)):Value)=.bool (dz x q):=by
  refine KF ?_
  rw [fiff,Bool.not_eq_true']
  refine ⟨fun e=>⟨by omega,by omega,by omega,by omega,⟨by omega,by omega,fun e'=>?_⟩,e⟩,fun e=>e.2.2.2.2.2⟩
  rcases h2.2 with h3 | h3
  ·rw [h3] at e';cases e'.1
  ·exact h3 e'.2
 refine aT x.tgs.length (fun i H' O'=>O'=O∧Heap.le H H'∧(x.tgs.any fun t=>!lj t)=((x.tgs.drop i).any fun t=>!lj t)) ⟨rfl,Heap.le_refl H,rfl⟩ ?_
 rintro i H' O' hi - ⟨rfl,hle,hor⟩
 refine aa (e4 (ab _ (aJ _ _) (aj (fun hb=>?_) (fun hb=>?_))))
 ·have hlt:i < x.tgs.length:=by simpa using hb
  obtain ⟨a,k1,k2,_,k3,k4⟩:=(hs.le hle).idx .i64 i (Tg.row x.tgs[i]) (by simp [hlt])
  refine aa (ab _ k1 (ar k2 k3 k4 ?_))
  repeat (first | refine aa ?_ | refine ae ?_ | refine af fun _=>?_ | refine ab _ (aJ _ _) ?_ | refine ab _ (bG _ _) ?_ | refine ab _ (fJ _ _) ?_ | refine ab _ (di _ _) ?_ | refine ab _ (aA _ _) ?_ | refine ab _ (bf _ _) ?_ | refine ab _ (aX _ _) ?_ | refine ab _ (aS _ _) ?_ | refine ab _ (aN _) ?_ | refine ab _ (yy _ _) ?_ | refine ab _ (sL _ _) ?_)
  have hst:((x.tgs.drop i).any fun t=>!lj t)=(!lj x.tgs[i] || ((x.tgs.drop (i + 1)).any fun t=>!lj t)):=by rw [List.drop_eq_getElem_cons hlt,List.any_cons]
  refine aj (fun hb=>ah ⟨?_,rfl⟩) (fun hb=>?_)
  ·have:lj x.tgs[i]=false:=by simp [lj,aw] at hb ⊢;omega
   rw [← hfin,hor,hst,this];rfl
  ·have:lj x.tgs[i]=true:=by simp [lj,aw] at hb ⊢;omega
   refine ab _ (aE (by omega)) (aP (by simp [Eqs]) hlt ⟨rfl,hle,?_⟩)
   rw [hor,hst,this];rfl
 ·have hge:x.tgs.length≤i:=by simpa using hb
  refine ah ⟨?_,rfl⟩
  rw [← hfin,hor,List.drop_of_length_le hge];rfl
end Go.Proofs.YtdhobpmnkfmcfaaGreatDoor
namespace Go.Proofs.YtdhobpmnkfmcfaaGreatDoor
open Go Go.Sx
set_option maxRecDepth 100000
set_option maxHeartbeats 1000000
def Wx (s:St):Prop:=s.lib.length≤100000∧s.hand.length≤100000∧s.field.length≤100000∧s.grave.length≤100000
def IW (b:Bd):Prop:=Wx b.s0∧Wx b.s1∧b.stack.length≤100000
def kR (p id:Int) (x:It):Bool:=(x.trig == -1 && x.id == id) && x.player == p
def uU (s:St) (id:Int):Nat:=((s.lib.count id + s.hand.count id) + s.field.count id) + s.grave.count id
def vA (b:Bd) (p id:Int):Nat:=(if p=0 then uU b.s0 id else uU b.s1 id) + b.stack.countP (kR p id)
theorem ma {α:Type} {l:List α} {i:Nat} (h:i < l.length) (p:α→Bool):(l.take (i + 1)).countP p=(l.take i).countP p + (if p l[i] then 1 else 0):=by
 rw [List.take_add_one,List.getElem?_eq_getElem h,Option.toList_some,List.countP_append,List.countP_singleton]
theorem I0 {n:Nat} (h:n < 2 ^ 63):ak (.bin .add .int) [iV 0,iV (n:Int)]=some (iV (n:Int)):=by
 have:=iC (i:=0) (n:=n) (by omega)
 simpa using this
theorem S9 {H:Heap} {O:Own} {v:cP} {b:Bd} (h:BdR H O v b) (hfit:IW b) {p:Int} (hp:p=0∨p=1) (id:Int) :
  RetO PP mM [.agg (ap v b).toArray,iV p,iV id] H O (iV ((vA b p id:Nat):Int)):=by
 refine sd (vs:=ap v b++[iV p,iV id]) (by kernel_rfl) (az (ao h) ⟨rfl,rfl,trivial⟩) ?_
 simp only [iE]
 obtain ⟨⟨f1,f2,f3,f4⟩,⟨f5,f6,f7,f8⟩,f9⟩:=hfit
 refine af fun r0=>?_
 have e38:g (ap v b++[iV p,iV id]) 38=iV p:=rfl
 rw [e38]
 rcases hp with rfl | rfl
 ·refine ⟨.i64,0,rfl,fun _=>?_,fun e=>absurd rfl e⟩
  obtain ⟨z1,z2,z3,z4⟩:=fq h.s0
  have c1:b.s0.lib.count id≤b.s0.lib.length:=List.count_le_length
  have c2:b.s0.hand.count id≤b.s0.hand.length:=List.count_le_length
  have c3:b.s0.field.count id≤b.s0.field.length:=List.count_le_length
  have c4:b.s0.grave.count id≤b.s0.grave.length:=List.count_le_length
  refine aa (ai (kK b.s0 z1 z2 z3 z4 H O) rfl ⟨z1,z2,z3,z4,trivial⟩ fun H1 l1=>?_)
  replace h:=h.le l1
  refine ai (gw h.s0.lib id) rfl ⟨rfl,trivial⟩ fun H2 l2=>ab _ (I0 (by omega)) ?_
  replace h:=h.le l2
  refine ai (gw h.s0.hand id) rfl ⟨rfl,trivial⟩ fun H3 l3=>ab _ (iC (by omega)) ?_
  replace h:=h.le l3
  refine ai (gw h.s0.field id) rfl ⟨rfl,trivial⟩ fun H4 l4=>ab _ (iC (by omega)) ?_
  replace h:=h.le l4
  refine ai (gw h.s0.grave id) rfl ⟨rfl,trivial⟩ fun H5 l5=>ab _ (iC (by omega)) ?_
  replace h:=h.le l5
  have hz:((b.s0.lib.count id + b.s0.hand.count id) + b.s0.field.count id) + b.s0.grave.count id=uU b.s0 id:=rfl
  have hzb:uU b.s0 id≤400000:=by unfold uU;omega
  rw [hz]
  obtain ⟨rows,hrs,hrl,hit⟩:=h.stack
  have hsl:ak .len [v.s]=some (iV b.stack.length):=ItsR.len h.stack
  refine dF b.stack.length (fun i x H' O'=>O'=O∧Heap.le H5 H'∧x=iV ((uU b.s0 id + (b.stack.take i).countP (kR 0 id):Nat):Int)) ⟨rfl,Heap.le_refl _,by simp⟩ ?_
  rintro i x H' O' hi - ⟨rfl,hle,rfl⟩
  have hci:(b.stack.take i).countP (kR 0 id)≤i:=Nat.le_trans List.countP_le_length (by simp;omega)
  refine aa (ab _ hsl (ab _ (aJ _ _) (aj (fun hb=>?_) (fun hb=>?_))))
  ·have hlt:i < b.stack.length:=by simpa using hb
   obtain ⟨a,h1,h2,_,h3,h4⟩:=(hrs.le hle).idx .i64 i rows[i] (by simp [hrl,hlt])
   obtain ⟨s,hrow,_⟩:=hit i rows[i] b.stack[i] (by simp [hrl,hlt]) (by simp [hlt])
   rw [hrow] at h2 h3 h4
   refine aa (ab _ h1 (ar h2 h3 h4 ?_))
   refine af fun _=>aa (aa (ab _ (aA _ _) (aa (ae (ae (ae (ab _ (aA _ _) (ae (ab _ (aX _ _) (aa (ae (ae (ae (ab _ (aA _ _) (ae (ab _ (aX _ _) ?_))))))))))))))))
   refine aj (fun hb=>?_) (fun hb=>?_)
   ·refine ab _ (aE (by omega)) (ab _ (aE (by omega)) (aV (by simp [Eqs]) hlt ⟨rfl,hle,?_⟩))
    have:kR 0 id b.stack[i]=true:=hb
    rw [ma hlt,this];rfl
   ·refine ab _ (aE (by omega)) (aV (by simp [Eqs]) hlt ⟨rfl,hle,?_⟩)
    have:kR 0 id b.stack[i]=false:=hb
    rw [ma hlt,this];rfl
  ·have:b.stack.length≤i:=by simpa using hb
   refine ah ⟨?_,rfl⟩
   rw [List.take_of_length_le this];rfl
 ·refine ⟨.i64,1,rfl,fun e=>absurd e (by omega),fun _=>⟨.i64,1,rfl,fun _=>?_,fun e=>absurd rfl e⟩⟩
  obtain ⟨z1,z2,z3,z4⟩:=fq h.s1
  have c1:b.s1.lib.count id≤b.s1.lib.length:=List.count_le_length
  have c2:b.s1.hand.count id≤b.s1.hand.length:=List.count_le_length
  have c3:b.s1.field.count id≤b.s1.field.length:=List.count_le_length
  have c4:b.s1.grave.count id≤b.s1.grave.length:=List.count_le_length
  refine aa (ai (kK b.s1 z1 z2 z3 z4 H O) rfl ⟨z1,z2,z3,z4,trivial⟩ fun H1 l1=>?_)
  replace h:=h.le l1
  refine ai (gw h.s1.lib id) rfl ⟨rfl,trivial⟩ fun H2 l2=>ab _ (I0 (by omega)) ?_
  replace h:=h.le l2
  refine ai (gw h.s1.hand id) rfl ⟨rfl,trivial⟩ fun H3 l3=>ab _ (iC (by omega)) ?_
  replace h:=h.le l3
  refine ai (gw h.s1.field id) rfl ⟨rfl,trivial⟩ fun H4 l4=>ab _ (iC (by omega)) ?_
  replace h:=h.le l4
  refine ai (gw h.s1.grave id) rfl ⟨rfl,trivial⟩ fun H5 l5=>ab _ (iC (by omega)) ?_
  replace h:=h.le l5
  have hz:((b.s1.lib.count id + b.s1.hand.count id) + b.s1.field.count id) + b.s1.grave.count id=uU b.s1 id:=rfl
  have hzb:uU b.s1 id≤400000:=by unfold uU;omega
  rw [hz]
  obtain ⟨rows,hrs,hrl,hit⟩:=h.stack
  have hsl:ak .len [v.s]=some (iV b.stack.length):=ItsR.len h.stack
  refine dF b.stack.length (fun i x H' O'=>O'=O∧Heap.le H5 H'∧x=iV ((uU b.s1 id + (b.stack.take i).countP (kR 1 id):Nat):Int)) ⟨rfl,Heap.le_refl _,by simp⟩ ?_
  rintro i x H' O' hi - ⟨rfl,hle,rfl⟩
  have hci:(b.stack.take i).countP (kR 1 id)≤i:=Nat.le_trans List.countP_le_length (by simp;omega)
  refine aa (ab _ hsl (ab _ (aJ _ _) (aj (fun hb=>?_) (fun hb=>?_))))
  ·have hlt:i < b.stack.length:=by simpa using hb
   obtain ⟨a,h1,h2,_,h3,h4⟩:=(hrs.le hle).idx .i64 i rows[i] (by simp [hrl,hlt])
   obtain ⟨s,hrow,_⟩:=hit i rows[i] b.stack[i] (by simp [hrl,hlt]) (by simp [hlt])
   rw [hrow] at h2 h3 h4
   refine aa (ab _ h1 (ar h2 h3 h4 ?_))
   refine af fun _=>aa (aa (ab _ (aA _ _) (aa (ae (ae (ae (ab _ (aA _ _) (ae (ab _ (aX _ _) (aa (ae (ae (ae (ab _ (aA _ _) (ae (ab _ (aX _ _) ?_))))))))))))))))
   refine aj (fun hb=>?_) (fun hb=>?_)
   ·refine ab _ (aE (by omega)) (ab _ (aE (by omega)) (aV (by simp [Eqs]) hlt ⟨rfl,hle,?_⟩))
    have:kR 1 id b.stack[i]=true:=hb
    rw [ma hlt,this];rfl
   ·refine ab _ (aE (by omega)) (aV (by simp [Eqs]) hlt ⟨rfl,hle,?_⟩)
    have:kR 1 id b.stack[i]=false:=hb
    rw [ma hlt,this];rfl
  ·have:b.stack.length≤i:=by simpa using hb
   refine ah ⟨?_,rfl⟩
   rw [List.take_of_length_le this];rfl
end Go.Proofs.YtdhobpmnkfmcfaaGreatDoor
namespace Go.Proofs.YtdhobpmnkfmcfaaGreatDoor
open Go Go.Sx
set_option maxRecDepth 100000
set_option maxHeartbeats 1000000
theorem mB {α:Type} (p:α→Bool):∀ (l:List α) (i:Int),0≤i→(gx p l i=-1∧∀ x ∈ l,p x=false)∨∃ (k:Nat) (x:α),l[k]?=some x∧p x=true∧gx p l i=i + k
 | [],i,_=>.inl ⟨rfl,by simp⟩
 | a::l,i,h=>by
  simp only [gx]
  by_cases hp:p a=true
  ·right;exact ⟨0,a,rfl,hp,by rw [if_pos hp];simp⟩
  ·rw [if_neg hp]
   rcases mB p l (i + 1) (by omega) with ⟨h1,h2⟩ | ⟨k,x,h1,h2,h3⟩
   ·left
    refine ⟨h1,fun x hx=>?_⟩
    rcases List.mem_cons.1 hx with rfl | hx
    ·simpa using hp
    ·exact h2 x hx
   ·right;exact ⟨k + 1,x,by simpa using h1,h2,by rw [h3];omega⟩
def vP (b:Bd) (i:Int):Int:=(b.objs[i.toNat]?.map (·.card)).getD 0
def pX (b:Bd) (x:It):Bool:=decide (x.trig ≥ 0) || !(decide (eX b x.id < 0) || (vP b (eX b x.id) != x.card))
def tW (x:It):Bool:=!decide (x.trig ≥ 0)
def Iy (b:Bd):Nat:=b.s0.lib.length + b.s0.hand.length + b.s0.field.length + b.s0.grave.length + b.s1.lib.length + b.s1.hand.length + b.s1.field.length + b.s1.grave.length
def qp (b:Bd):Option Int→List Ob→Bool
 | _,[]=>true
 | prev,o::r=>(!(!bc o || kM prev o.id) && (((vA b o.owner o.id:Nat):Int) == 1)) && qp b (some o.id) r
def xJ (b:Bd):Bool:=b.stack.all (pX b) && (qp b none b.objs && (((Iy b + b.stack.countP tW:Nat):Int) == (b.objs.length:Int)))
theorem pV {o:Ob} (h:bc o=true):o.owner=0∨o.owner=1:=((qV o).1 h).2.2.2.2.2.2
theorem Ve {H:Heap} {O:Own} {v:cP} {b:Bd} (h:BdR H O v b) (hfit:IW b):RetO PP nu [.agg (ap v b).toArray] H O (.bool (xJ b)):=by
 refine uj (vs:=ap v b) (by kernel_rfl) (ao h) ?_
 simp only [jn]
 have hfit':=hfit
 obtain ⟨⟨f1,f2,f3,f4⟩,⟨f5,f6,f7,f8⟩,f9⟩:=hfit
 have len1:∀ {H':Heap} {O':Own} {w:Value} {l:List Int},RSl H' O' 1 w (aI l)→ak .len [w]=some (iV l.length):=fun h=>by have:=h.len;rwa [aI,List.length_map] at this
 obtain ⟨z1,z2,z3,z4⟩:=fq h.s0
 obtain ⟨z5,z6,z7,z8⟩:=fq h.s1
 refine af fun r0=>aa (ai (kK b.s0 z1 z2 z3 z4 H O) rfl ⟨z1,z2,z3,z4,trivial⟩ fun H1 l1=>?_)
 replace h:=h.le l1
 refine ab _ (len1 h.s0.lib) (ab _ (I0 (by omega)) (ab _ (len1 h.s0.hand) (ab _ (iC (by omega)) (ab _ (len1 h.s0.field) (ab _ (iC (by omega)) (ab _ (len1 h.s0.grave) (ab _ (iC (by omega)) ?_)))))))
 refine aa (ai (kK b.s1 z5 z6 z7 z8 H1 O) rfl ⟨z5,z6,z7,z8,trivial⟩ fun H2 l2=>?_)
 replace h:=h.le l2
 refine ab _ (len1 h.s1.lib) (ab _ (iC (by omega)) (ab _ (len1 h.s1.hand) (ab _ (iC (by omega)) (ab _ (len1 h.s1.field) (ab _ (iC (by omega)) (ab _ (len1 h.s1.grave) (ab _ (iC (by omega)) ?_)))))))
 have hz:b.s0.lib.length + b.s0.hand.length + b.s0.field.length + b.s0.grave.length + b.s1.lib.length + b.s1.hand.length + b.s1.field.length + b.s1.grave.length=Iy b:=rfl
 have hzb:Iy b≤800000:=by unfold Iy;omega
 rw [hz]
 have hsl:ak .len [v.s]=some (iV b.stack.length):=ItsR.len h.stack
 have stk:=h.stack
 obtain ⟨rows,hrs,hrl,hit⟩:=stk
 have lo:=h.objs.len
 have lob:=h.objs.lenB
 rw [List.length_map] at lo lob
 refine dF b.stack.length (fun i x H' O'=>O'=O∧Heap.le H2 H'∧x=iV ((Iy b + (b.stack.take i).countP tW:Nat):Int)∧b.stack.all (pX b)=(b.stack.drop i).all (pX b)) ⟨rfl,Heap.le_refl _,by simp,rfl⟩ ?_
 rintro i x H' O' hi - ⟨rfl,hle,rfl,hor⟩
 have hci:(b.stack.take i).countP tW≤i:=Nat.le_trans List.countP_le_length (by simp;omega)
 refine aa (ab _ hsl (ab _ (aJ _ _) (aj (fun hb=>?_) (fun hb=>?_))))
 ·have hlt:i < b.stack.length:=by simpa using hb
  obtain ⟨a,h1,h2,_,h3,h4⟩:=(hrs.le hle).idx .i64 i rows[i] (by simp [hrl,hlt])
  obtain ⟨s,hrow,_⟩:=hit i rows[i] b.stack[i] (by simp [hrl,hlt]) (by simp [hlt])
  rw [hrow] at h2 h3 h4
  have hst:(b.stack.drop i).all (pX b)=(pX b b.stack[i] && (b.stack.drop (i + 1)).all (pX b)):=by rw [List.drop_eq_getElem_cons hlt,List.all_cons]
  refine aa (ab _ h1 (ar h2 h3 h4 ?_))
  refine af fun _=>aa (aa (ab _ (fJ _ _) ?_))
  refine aj (fun hb=>?_) (fun hb=>?_)
  ·refine ab _ (aE (by omega)) (aV (by simp [Eqs]) hlt ⟨rfl,hle,?_,?_⟩)
   ·have:tW b.stack[i]=false:=by simp only [tW,hb,Bool.not_true]
    rw [ma hlt,this];rfl
   ·rw [hor,hst]
    have:pX b b.stack[i]=true:=by simp only [pX,hb,Bool.true_or]
    rw [this,Bool.true_and]
  ·refine ab _ (aE (by omega)) (aa (aa (ai (yj (h.le hle) b.stack[i].id) rfl ⟨rfl,trivial⟩ fun H3 l3=>ab _ (aJ _ _) ?_)))
   refine aa (ae (ae (ae ?_)))
   have hpv:∃ pv:Value,pv.oneCell'=true∧(¬ (eX b b.stack[i].id < 0)→ak (.idx 12) [v.o,iV (eX b b.stack[i].id)]=some pv∧IB pv=true∧Reads H3 O' (aU pv 1) 1 [iV (vP b (eX b b.stack[i].id))]):=by
    rcases mB (fun o=>o.id == b.stack[i].id) b.objs 0 (by omega) with ⟨e,_⟩ | ⟨k,o,e1,_,e3⟩
    ·refine ⟨iV 0,rfl,fun hn=>?_⟩
     exfalso;apply hn
     show eX b b.stack[i].id < 0
     unfold eX;omega
    ·have e3:eX b b.stack[i].id=(k:Int):=by unfold eX;omega
     obtain ⟨a,k1,k2,k3,_⟩:=((h.objs.le (Heap.le_trans hle l3))).idx .i64 k (Ob.row o) (by rw [List.getElem?_map,e1];rfl)
     refine ⟨.pointer (some a),rfl,fun _=>⟨by rw [e3];exact k1,rfl,?_⟩⟩
     have:=k3 1 1 (by omega)
     rw [e3]
     have ec:vP b (k:Int)=o.card:=by simp [vP,e1]
     rw [ec];exact this
   obtain ⟨pv,hpone,hpv⟩:=hpv
   have hon:On [((.bool (decide (eX b b.stack[i].id < 0)):Value),false)]→¬ (eX b b.stack[i].id < 0):=fun h=>by
    have:=h.1
    simp at this
    omega
   refine ⟨pv,fun ho=>(hpv (hon ho)).1,.inr hpone,?_⟩
   refine ⟨fun ho=>(hpv (hon ho)).2.1,?_⟩
   refine ae (ae ?_)
   refine ⟨[iV (vP b (eX b b.stack[i].id))],rfl,⟨rfl,trivial⟩,fun ho=>(hpv (hon ho)).2.2,?_⟩
   refine aa (ae (ae (ae (ab _ (bf _ _) (ae (ab _ (aS _ _) ?_))))))
   have hsi:pX b b.stack[i]=!(decide (eX b b.stack[i].id < 0) || (vP b (eX b b.stack[i].id) != b.stack[i].card)):=by simp only [pX,hb,Bool.false_or]
   refine aj (fun hc=>ah ⟨?_,rfl⟩) (fun hc=>?_)
   ·have:b.stack.all (pX b)=false:=by rw [hor,hst,hsi,show (decide (eX b b.stack[i].id < 0) || (vP b (eX b b.stack[i].id) != b.stack[i].card))=true from hc];rfl
    rw [xJ,this];rfl
   ·refine ab _ (aE (by omega)) (aV (by simp [Eqs]) hlt ⟨rfl,Heap.le_trans hle l3,?_,?_⟩)
    ·have:tW b.stack[i]=true:=by simp only [tW,hb,Bool.not_false]
     rw [ma hlt,this];rfl
    ·rw [hor,hst,hsi,show (decide (eX b b.stack[i].id < 0) || (vP b (eX b b.stack[i].id) != b.stack[i].card))=false from hc];rfl
 ·have hge:b.stack.length≤i:=by simpa using hb
  rw [List.take_of_length_le hge] at hci ⊢
  rw [List.drop_of_length_le hge] at hor
  have hfr:xJ b=(qp b none b.objs && (((Iy b + b.stack.countP tW:Nat):Int) == (b.objs.length:Int))):=by rw [xJ,hor];rfl
  replace h:=h.le hle
  refine aT b.objs.length (fun i H'' O''=>O''=O'∧Heap.le H' H''∧qp b none b.objs=qp b (oK b.objs i) (b.objs.drop i)) ⟨rfl,Heap.le_refl _,by simp [oK]⟩ ?_
  rintro j H'' O'' hj - ⟨rfl,hle2,hor2⟩
  refine aa (ab _ lo (ab _ (aJ _ _) (aj (fun hb=>?_) (fun hb=>?_))))
  ·have hlt:j < b.objs.length:=by simpa using hb
   obtain ⟨a,h1,h2,_,h3,h4⟩:=(h.objs.le hle2).idx .i64 j (Ob.row b.objs[j]) (by simp [hlt])
   refine aa (ab _ h1 (ar h2 h3 h4 (af fun r2=>aa (aa (ai (Gp b.objs[j] H'' O'') rfl ⟨rfl,trivial⟩ fun H4 l4=>?_)))))
   have l4':=Heap.le_trans hle2 l4
   have hp:∃ (pv:Value) (x:Int),pv.oneCell'=true∧(0 < j→ak (.idx 12) [v.o,iV ((j:Int) - 1)]=some pv∧IB pv=true∧Reads H4 O'' pv 1 [iV x])∧kM (oK b.objs j) b.objs[j].id=(decide ((j:Int) > 0) && decide (x ≥ b.objs[j].id)):=by
    rcases Nat.eq_zero_or_pos j with rfl | hpos
    ·exact ⟨iV 0,0,rfl,fun h=>absurd h (Nat.lt_irrefl 0),by simp [oK,kM]⟩
    ·obtain ⟨j',rfl⟩:∃ j',j=j' + 1:=⟨j - 1,by omega⟩
     have hj':j' < b.objs.length:=by omega
     obtain ⟨a,k1,k2,k3,_⟩:=(h.objs.le l4').idx .i64 j' (Ob.row b.objs[j']) (by simp [hj'])
     refine ⟨.pointer (some a),b.objs[j'].id,rfl,fun _=>⟨?_,rfl,?_⟩,?_⟩
     ·have e:((j' + 1:Nat):Int) - 1=(j':Int):=by omega
      rw [e];exact k1
     ·have:=k3 0 1 (by omega)
      have e:aU (.pointer (some a)) 0=.pointer (some a):=by simp [aU,Addr.add]
      rwa [e] at this
     ·rw [za hj']
      have:((j' + 1:Nat):Int) > 0:=by omega
      simp only [kM,this,decide_true,Bool.true_and]
   obtain ⟨pv,x,hpone,hpv,hprev⟩:=hp
   have hsub1:ak (.bin .sub .int) [iV j,iV 1]=some (iV ((j:Int) - 1)):=by
    simp only [ak,fC,eP,if_true]
    rw [ij (by omega) (by omega)]
   have hon:∀ {u:Bool},On [((.bool (decide ((j:Int) > 0)):Value),true),(.bool u,false)]→0 < j:=fun h=>by
    have:=h.1
    simp at this
    omega
   refine ab _ (aN _) (ae (ab _ (bG _ _) ?_))
   repeat (first | refine aa ?_ | refine ae ?_ | refine ab _ hsub1 ?_)
   refine ⟨pv,fun ho=>(hpv (hon ho)).1,.inr hpone,?_⟩
   refine ⟨fun ho=>(hpv (hon ho)).2.1,?_⟩
   refine ae (ae (ae (ae ?_)))
   refine ⟨[iV x],rfl,⟨rfl,trivial⟩,fun ho=>(hpv (hon ho)).2.2,?_⟩
   refine aa (ae (ae (ae (ae (ae (ae (ab _ (fJ _ _) (ae (ae (ae (ab _ (aX _ _) (ae (ab _ (aS _ _) ?_)))))))))))))
   have hstep:qp b (oK b.objs j) (b.objs.drop j)=((!(!bc b.objs[j] || kM (oK b.objs j) b.objs[j].id) && (((vA b b.objs[j].owner b.objs[j].id:Nat):Int) == 1)) && qp b (some b.objs[j].id) (b.objs.drop (j + 1))):=by
    rw [List.drop_eq_getElem_cons hlt,qp]
   refine aj (fun hc=>ah ⟨?_,rfl⟩) (fun hc=>?_)
   ·rw [hfr,hor2,hstep,hprev,show (!bc b.objs[j] || (decide ((j:Int) > 0) && decide (x ≥ b.objs[j].id)))=true from hc];rfl
   have hc':(!bc b.objs[j] || (decide ((j:Int) > 0) && decide (x ≥ b.objs[j].id)))=false:=hc
   have hval:bc b.objs[j]=true:=by
    have:=(Bool.or_eq_false_iff.1 hc').1
    simpa using this
   refine aa (aa (aa (ai (S9 (h.le l4') hfit' (pV hval) b.objs[j].id) rfl ⟨rfl,trivial⟩ fun H5 l5=>ab _ (bf _ _) (aj (fun hd=>ah ⟨?_,rfl⟩) (fun hd=>?_)))))
   ·have:(((vA b b.objs[j].owner b.objs[j].id:Nat):Int) == 1)=false:=by simpa using hd
    rw [hfr,hor2,hstep,this];simp
   ·have:(((vA b b.objs[j].owner b.objs[j].id:Nat):Int) == 1)=true:=by simpa using hd
    refine ab _ (aE (by omega)) (aP (by simp [Eqs]) hlt ⟨rfl,Heap.le_trans l4' l5,?_⟩)
    rw [hor2,hstep,hprev,hc',this,za hlt];rfl
  ·have hge:b.objs.length≤j:=by simpa using hb
   rw [List.drop_of_length_le hge] at hor2
   refine aa (ab _ lo (ab _ (aA _ _) (ah ⟨?_,rfl⟩)))
   rw [hfr,hor2];rfl
end Go.Proofs.YtdhobpmnkfmcfaaGreatDoor
namespace Go.Proofs.YtdhobpmnkfmcfaaGreatDoor
open Go Go.Sx
set_option maxRecDepth 100000
set_option maxHeartbeats 1000000
def Gw (own att:List Int) (x:Int):Bool:=((((att.count x:Nat):Int) == 1) && (((own.count x:Nat):Int) == 1))
def lQ (x y:Bl):Bool:=(y.attacker == x.attacker) || (y.blocker == x.blocker)
def tY (att other:List Int) (done:List Bl) (x:Bl):Bool:=(((att.count x.attacker:Nat):Int) == 1) && ((((other.count x.blocker:Nat):Int) == 1) && done.all fun y=>!lQ x y)
def I8 (att other:List Int):List Bl→List Bl→Bool
 | _,[]=>true
 | done,x::r=>tY att other done x && I8 att other (done++[x]) r
def wS (own other att:List Int) (bl:List Bl):Bool:=att.all (Gw own att) && I8 att other [] bl
def iZ (b:Bd):Bool:=if b.active=0 then wS b.s0.field b.s1.field b.att b.blocks else wS b.s1.field b.s0.field b.att b.blocks
theorem kE {l:List Int} {x:Int} {c:Bool} (h:(((l.count x:Nat):Int) != 1)=c):(((l.count x:Nat):Int) == 1)=!c:=by rw [← h,bne,Bool.not_not]
theorem Ta {H:Heap} {O:Own} {v:cP} {b:Bd} (h:BdR H O v b) (ha:b.active=0∨b.active=1):RetO PP mN [.agg (ap v b).toArray] H O (.bool (iZ b)):=by
 refine se (vs:=ap v b) (by kernel_rfl) (ao h) ?_
 simp only [iF]
 have e34:g (ap v b) 34=iV b.active:=rfl
 rw [e34]
 have hs:∀ n:Int,n=0∨n=1→ak (.bin .sub .int) [iV 1,iV n]=some (iV (1 - n)):=by
  rintro n (rfl | rfl) <;> rfl
 have la:=h.att.len
 have laB:=h.att.lenB
 have lb:=h.blocks.len
 have lbB:=h.blocks.lenB
 simp only [aI,List.length_map] at la laB lb lbB
 rcases ha with ha | ha
 ·rw [ha]
  have hF:iZ b=(b.att.all (Gw b.s0.field b.att) && I8 b.att b.s1.field [] b.blocks):=by simp [iZ,wS,ha]
  refine af fun r0=>aT b.att.length (fun i H' O'=>O'=O∧Heap.le H H'∧b.att.all (Gw b.s0.field b.att)=(b.att.drop i).all (Gw b.s0.field b.att)) ⟨rfl,Heap.le_refl H,rfl⟩ ?_
  rintro i H' O' hi - ⟨rfl,hle,hor⟩
  refine aa (ab _ la (ab _ (aJ _ _) (aj (fun hb=>?_) (fun hb=>?_))))
  ·have hlt:i < b.att.length:=by simpa using hb
   have hst:(b.att.drop i).all (Gw b.s0.field b.att)=(Gw b.s0.field b.att b.att[i] && (b.att.drop (i + 1)).all (Gw b.s0.field b.att)):=by rw [List.drop_eq_getElem_cons hlt,List.all_cons]
   obtain ⟨a,h1,h2,_,h3,h4⟩:=(h.att.le hle).idx .i64 i [iV b.att[i]] (by simp [aI,hlt])
   refine aa (aa (ab _ h1 (ar h2 h3 h4 (ai (gw (h.att.le hle) b.att[i]) rfl ⟨rfl,trivial⟩ fun H1 l1=>ab _ (bf _ _) (aj (fun hc=>ah ⟨?_,rfl⟩) (fun hc=>aa ?_))))))
   ·rw [hF,hor,hst,Gw,kE hc];rfl
   refine ⟨.i64,0,rfl,fun _=>?_,fun e=>absurd rfl e⟩
   have l1':=Heap.le_trans hle l1
   obtain ⟨a,h1,h2,_,h3,h4⟩:=(h.att.le l1').idx .i64 i [iV b.att[i]] (by simp [aI,hlt])
   refine aa (aa (ab _ h1 (ar h2 h3 h4 (ai (gw (h.s0.field.le l1') b.att[i]) rfl ⟨rfl,trivial⟩ fun H2 l2=>ab _ (bf _ _) (aj (fun hd=>ah ⟨?_,rfl⟩) (fun hd=>?_))))))
   ·rw [hF,hor,hst,Gw,kE hc,kE hd];rfl
   ·refine ab _ (aE (by omega)) (aP (by simp [Eqs]) hlt ⟨rfl,Heap.le_trans l1' l2,?_⟩)
    rw [hor,hst,Gw,kE hc,kE hd];rfl
  ·have hge:b.att.length≤i:=by simpa using hb
   rw [List.drop_of_length_le hge] at hor
   have hF2:iZ b=I8 b.att b.s1.field [] b.blocks:=by rw [hF,hor];rfl
   refine aT b.blocks.length (fun j H'' O''=>O''=O'∧Heap.le H' H''∧I8 b.att b.s1.field [] b.blocks=I8 b.att b.s1.field (b.blocks.take j) (b.blocks.drop j)) ⟨rfl,Heap.le_refl _,rfl⟩ ?_
   rintro j H'' O'' hj - ⟨rfl,hle2,hor2⟩
   have hle2:=Heap.le_trans hle hle2
   refine aa (ab _ lb (ab _ (aJ _ _) (aj (fun hb=>?_) (fun hb=>?_))))
   ·have hlt:j < b.blocks.length:=by simpa using hb
    obtain ⟨a,h1,h2,_,h3,h4⟩:=(h.blocks.le hle2).idx .i64 j (Bl.row b.blocks[j]) (by simp [hlt])
    have hst:I8 b.att b.s1.field (b.blocks.take j) (b.blocks.drop j)=(tY b.att b.s1.field (b.blocks.take j) b.blocks[j] && I8 b.att b.s1.field (b.blocks.take (j + 1)) (b.blocks.drop (j + 1))):=by
     rw [List.drop_eq_getElem_cons hlt,I8,List.take_add_one,List.getElem?_eq_getElem hlt];rfl
    refine aa (ab _ h1 (ar h2 h3 h4 (af fun r1=>aa (aa (aa (ai (gw (h.att.le hle2) b.blocks[j].attacker) rfl ⟨rfl,trivial⟩ fun H1 l1=>ab _ (bf _ _) (aj (fun hc=>ah ⟨?_,rfl⟩) (fun hc=>aa (ab _ (hs _ (.inl rfl)) ?_)))))))))
    ·rw [hF2,hor2,hst,tY,kE hc];rfl
    refine ⟨.i64,1,rfl,fun e=>absurd e (by omega),fun _=>⟨.i64,1,rfl,fun _=>?_,fun e=>absurd rfl e⟩⟩
    have l1':=Heap.le_trans hle2 l1
    refine aa (aa (ai (gw (h.s1.field.le l1') b.blocks[j].blocker) rfl ⟨rfl,trivial⟩ fun H2 l2=>ab _ (bf _ _) (aj (fun hd=>ah ⟨?_,rfl⟩) (fun hd=>?_))))
    ·rw [hF2,hor2,hst,tY,kE hc,kE hd];rfl
    have l2':=Heap.le_trans l1' l2
    have hone:tY b.att b.s1.field (b.blocks.take j) b.blocks[j]=(b.blocks.take j).all fun y=>!lQ b.blocks[j] y:=by rw [tY,kE hc,kE hd];rfl
    refine aT j (fun k H3 O3=>O3=O''∧Heap.le H2 H3∧((b.blocks.take j).all fun y=>!lQ b.blocks[j] y)=(((b.blocks.take j).drop k).all fun y=>!lQ b.blocks[j] y)) ⟨rfl,Heap.le_refl _,rfl⟩ ?_
    rintro k H3 O3 hk - ⟨rfl,hle3,hor3⟩
    have hle3:=Heap.le_trans l2' hle3
    refine ab _ (aJ _ _) (aj (fun hb=>?_) (fun hb=>?_))
    ·have hltk:k < j:=by simpa using hb
     have hltb:k < b.blocks.length:=by omega
     have hst3:(((b.blocks.take j).drop k).all fun y=>!lQ b.blocks[j] y)=(!lQ b.blocks[j] b.blocks[k] && (((b.blocks.take j).drop (k + 1)).all fun y=>!lQ b.blocks[j] y)):=by
      rw [List.drop_eq_getElem_cons (by simp;omega),List.all_cons,List.getElem_take]
     obtain ⟨a,k1,_,k3,_⟩:=(h.blocks.le hle3).idx .i64 k (Bl.row b.blocks[k]) (by simp [hltb])
     have hr1:Reads H3 O3 (aU (.pointer (some a)) 1) 1 [iV b.blocks[k].attacker]:=k3 1 1 (by omega)
     have hr0:Reads H3 O3 (.pointer (some a)) 1 [iV b.blocks[k].blocker]:=by
      have:=k3 0 1 (by omega)
      have e:aU (.pointer (some a)) 0=.pointer (some a):=by simp [aU,Addr.add]
      rwa [e] at this
     refine aa (ab _ k1 (aC rfl (ar hr1 rfl ⟨rfl,trivial⟩ (aa (ab _ (aA _ _) ?_)))))
     refine aa (ae (ae (ae ?_)))
     refine y9 k1 rfl (aC rfl ?_)
     refine ae (ae ?_)
     refine ⟨[iV b.blocks[k].blocker],rfl,⟨rfl,trivial⟩,fun _=>hr0,?_⟩
     refine aa (ae (ae (ae (ab _ (aA _ _) (ae (ab _ (aS _ _) ?_))))))
     refine aj (fun hx=>ah ⟨?_,rfl⟩) (fun hx=>?_)
     ·rw [hF2,hor2,hst,hone,hor3,hst3,show lQ b.blocks[j] b.blocks[k]=true from hx];rfl
     ·refine ab _ (aE (by omega)) (aP (by simp [Eqs]) hltk ⟨rfl,Heap.le_trans (Heap.le_refl _) ?_,?_⟩)
      ·assumption
      ·rw [hor3,hst3,show lQ b.blocks[j] b.blocks[k]=false from hx];rfl
    ·have hke:(b.blocks.take j).length≤k:=by
      have:j≤k:=by simpa using hb
      simp;omega
     rw [List.drop_of_length_le hke] at hor3
     refine ab _ (aE (by omega)) (aP (by simp [Eqs]) hlt ⟨rfl,?_,?_⟩)
     ·exact Heap.le_trans (by assumption) (Heap.le_trans l1 (Heap.le_trans l2 (by assumption)))
     ·rw [hor2,hst,hone,hor3];rfl
   ·have hge2:b.blocks.length≤j:=by simpa using hb
    refine ah ⟨?_,rfl⟩
    rw [hF2,hor2,List.drop_of_length_le hge2];rfl
 ·rw [ha]
  have hF:iZ b=(b.att.all (Gw b.s1.field b.att) && I8 b.att b.s0.field [] b.blocks):=by simp [iZ,wS,ha]
  refine af fun r0=>aT b.att.length (fun i H' O'=>O'=O∧Heap.le H H'∧b.att.all (Gw b.s1.field b.att)=(b.att.drop i).all (Gw b.s1.field b.att)) ⟨rfl,Heap.le_refl H,rfl⟩ ?_
  rintro i H' O' hi - ⟨rfl,hle,hor⟩
  refine aa (ab _ la (ab _ (aJ _ _) (aj (fun hb=>?_) (fun hb=>?_))))
  ·have hlt:i < b.att.length:=by simpa using hb
   have hst:(b.att.drop i).all (Gw b.s1.field b.att)=(Gw b.s1.field b.att b.att[i] && (b.att.drop (i + 1)).all (Gw b.s1.field b.att)):=by rw [List.drop_eq_getElem_cons hlt,List.all_cons]
   obtain ⟨a,h1,h2,_,h3,h4⟩:=(h.att.le hle).idx .i64 i [iV b.att[i]] (by simp [aI,hlt])
   refine aa (aa (ab _ h1 (ar h2 h3 h4 (ai (gw (h.att.le hle) b.att[i]) rfl ⟨rfl,trivial⟩ fun H1 l1=>ab _ (bf _ _) (aj (fun hc=>ah ⟨?_,rfl⟩) (fun hc=>aa ?_))))))
   ·rw [hF,hor,hst,Gw,kE hc];rfl
   refine ⟨.i64,1,rfl,fun e=>absurd e (by omega),fun _=>⟨.i64,1,rfl,fun _=>?_,fun e=>absurd rfl e⟩⟩
   have l1':=Heap.le_trans hle l1
   obtain ⟨a,h1,h2,_,h3,h4⟩:=(h.att.le l1').idx .i64 i [iV b.att[i]] (by simp [aI,hlt])
   refine aa (aa (ab _ h1 (ar h2 h3 h4 (ai (gw (h.s1.field.le l1') b.att[i]) rfl ⟨rfl,trivial⟩ fun H2 l2=>ab _ (bf _ _) (aj (fun hd=>ah ⟨?_,rfl⟩) (fun hd=>?_))))))
   ·rw [hF,hor,hst,Gw,kE hc,kE hd];rfl
   ·refine ab _ (aE (by omega)) (aP (by simp [Eqs]) hlt ⟨rfl,Heap.le_trans l1' l2,?_⟩)
    rw [hor,hst,Gw,kE hc,kE hd];rfl
  ·have hge:b.att.length≤i:=by simpa using hb
   rw [List.drop_of_length_le hge] at hor
   have hF2:iZ b=I8 b.att b.s0.field [] b.blocks:=by rw [hF,hor];rfl
   refine aT b.blocks.length (fun j H'' O''=>O''=O'∧Heap.le H' H''∧I8 b.att b.s0.field [] b.blocks=I8 b.att b.s0.field (b.blocks.take j) (b.blocks.drop j)) ⟨rfl,Heap.le_refl _,rfl⟩ ?_
   rintro j H'' O'' hj - ⟨rfl,hle2,hor2⟩
   have hle2:=Heap.le_trans hle hle2
   refine aa (ab _ lb (ab _ (aJ _ _) (aj (fun hb=>?_) (fun hb=>?_))))
   ·have hlt:j < b.blocks.length:=by simpa using hb
    obtain ⟨a,h1,h2,_,h3,h4⟩:=(h.blocks.le hle2).idx .i64 j (Bl.row b.blocks[j]) (by simp [hlt])
    have hst:I8 b.att b.s0.field (b.blocks.take j) (b.blocks.drop j)=(tY b.att b.s0.field (b.blocks.take j) b.blocks[j] && I8 b.att b.s0.field (b.blocks.take (j + 1)) (b.blocks.drop (j + 1))):=by
     rw [List.drop_eq_getElem_cons hlt,I8,List.take_add_one,List.getElem?_eq_getElem hlt];rfl
    refine aa (ab _ h1 (ar h2 h3 h4 (af fun r1=>aa (aa (aa (ai (gw (h.att.le hle2) b.blocks[j].attacker) rfl ⟨rfl,trivial⟩ fun H1 l1=>ab _ (bf _ _) (aj (fun hc=>ah ⟨?_,rfl⟩) (fun hc=>aa (ab _ (hs _ (.inr rfl)) ?_)))))))))
    ·rw [hF2,hor2,hst,tY,kE hc];rfl
    refine ⟨.i64,0,rfl,fun _=>?_,fun e=>absurd rfl e⟩
    have l1':=Heap.le_trans hle2 l1
    refine aa (aa (ai (gw (h.s0.field.le l1') b.blocks[j].blocker) rfl ⟨rfl,trivial⟩ fun H2 l2=>ab _ (bf _ _) (aj (fun hd=>ah ⟨?_,rfl⟩) (fun hd=>?_))))
    ·rw [hF2,hor2,hst,tY,kE hc,kE hd];rfl
    have l2':=Heap.le_trans l1' l2
    have hone:tY b.att b.s0.field (b.blocks.take j) b.blocks[j]=(b.blocks.take j).all fun y=>!lQ b.blocks[j] y:=by rw [tY,kE hc,kE hd];rfl
    refine aT j (fun k H3 O3=>O3=O''∧Heap.le H2 H3∧((b.blocks.take j).all fun y=>!lQ b.blocks[j] y)=(((b.blocks.take j).drop k).all fun y=>!lQ b.blocks[j] y)) ⟨rfl,Heap.le_refl _,rfl⟩ ?_
    rintro k H3 O3 hk - ⟨rfl,hle3,hor3⟩
    have hle3:=Heap.le_trans l2' hle3
    refine ab _ (aJ _ _) (aj (fun hb=>?_) (fun hb=>?_))
    ·have hltk:k < j:=by simpa using hb
     have hltb:k < b.blocks.length:=by omega
     have hst3:(((b.blocks.take j).drop k).all fun y=>!lQ b.blocks[j] y)=(!lQ b.blocks[j] b.blocks[k] && (((b.blocks.take j).drop (k + 1)).all fun y=>!lQ b.blocks[j] y)):=by
      rw [List.drop_eq_getElem_cons (by simp;omega),List.all_cons,List.getElem_take]
     obtain ⟨a,k1,_,k3,_⟩:=(h.blocks.le hle3).idx .i64 k (Bl.row b.blocks[k]) (by simp [hltb])
     have hr1:Reads H3 O3 (aU (.pointer (some a)) 1) 1 [iV b.blocks[k].attacker]:=k3 1 1 (by omega)
     have hr0:Reads H3 O3 (.pointer (some a)) 1 [iV b.blocks[k].blocker]:=by
      have:=k3 0 1 (by omega)
      have e:aU (.pointer (some a)) 0=.pointer (some a):=by simp [aU,Addr.add]
      rwa [e] at this
     refine aa (ab _ k1 (aC rfl (ar hr1 rfl ⟨rfl,trivial⟩ (aa (ab _ (aA _ _) ?_)))))
     refine aa (ae (ae (ae ?_)))
     refine y9 k1 rfl (aC rfl ?_)
     refine ae (ae ?_)
     refine ⟨[iV b.blocks[k].blocker],rfl,⟨rfl,trivial⟩,fun _=>hr0,?_⟩
     refine aa (ae (ae (ae (ab _ (aA _ _) (ae (ab _ (aS _ _) ?_))))))
     refine aj (fun hx=>ah ⟨?_,rfl⟩) (fun hx=>?_)
     ·rw [hF2,hor2,hst,hone,hor3,hst3,show lQ b.blocks[j] b.blocks[k]=true from hx];rfl
     ·refine ab _ (aE (by omega)) (aP (by simp [Eqs]) hltk ⟨rfl,Heap.le_trans (Heap.le_refl _) ?_,?_⟩)
      ·assumption
      ·rw [hor3,hst3,show lQ b.blocks[j] b.blocks[k]=false from hx];rfl
    ·have hke:(b.blocks.take j).length≤k:=by
      have:j≤k:=by simpa using hb
      simp;omega
     rw [List.drop_of_length_le hke] at hor3
     refine ab _ (aE (by omega)) (aP (by simp [Eqs]) hlt ⟨rfl,?_,?_⟩)
     ·exact Heap.le_trans (by assumption) (Heap.le_trans l1 (Heap.le_trans l2 (by assumption)))
     ·rw [hor2,hst,hone,hor3];rfl
   ·have hge2:b.blocks.length≤j:=by simpa using hb
    refine ah ⟨?_,rfl⟩
    rw [hF2,hor2,List.drop_of_length_le hge2];rfl
end Go.Proofs.YtdhobpmnkfmcfaaGreatDoor
namespace Go.Proofs.YtdhobpmnkfmcfaaGreatDoor
open Go Go.Sx
set_option maxRecDepth 100000
set_option maxHeartbeats 1000000
def Gq (b:Bd):Bool:=decide ((0≤b.active∧b.active≤1)∧(0≤b.turn∧b.turn≤1000)∧(0≤b.phase∧b.phase≤10)∧(-1≤b.holder∧b.holder≤1)∧(0≤b.passes∧b.passes≤2)∧b.objs.length≤500∧b.stack.length≤200∧b.queue.length≤200)
def rW (b:Bd):Bool:=Gq b && (b.stack.all (fun x=>dz x false) && (b.queue.all (fun x=>dz x true) && (ce b.s0 && (ce b.s1 && (xJ b && iZ b)))))
theorem Qp {H:Heap} {O:Own} {v:cP} {b:Bd} (h:BdR H O v b) (hfit:IW b):RetO PP nz [.agg (ap v b).toArray] H O (.bool (rW b)):=by
 refine um (vs:=ap v b) (by kernel_rfl) (ao h) ?_
 simp only [jq]
 have lo:=h.objs.len
 rw [List.length_map] at lo
 have ls:=ItsR.len h.stack
 have lq:=ItsR.len h.queue
 refine af fun r0=>?_
 repeat (first | refine aa ?_ | refine ae ?_ | refine af fun _=>?_ | refine ab _ (aJ _ _) ?_ | refine ab _ (bG _ _) ?_ | refine ab _ (fJ _ _) ?_ | refine ab _ (di _ _) ?_ | refine ab _ (aA _ _) ?_ | refine ab _ (bf _ _) ?_ | refine ab _ (aX _ _) ?_ | refine ab _ (aS _ _) ?_ | refine ab _ (aN _) ?_ | refine ab _ (yy _ _) ?_ | refine ab _ (sL _ _) ?_)
 refine ab _ lo ?_
 refine ae (ab _ (aJ _ _) (ae (ab _ (aS _ _) (aa (ae (ae ?_))))))
 refine ab _ ls ?_
 refine ae (ab _ (aJ _ _) (ae (ab _ (aS _ _) (aa (ae (ae ?_))))))
 refine ab _ lq ?_
 refine ae (ab _ (aJ _ _) (ae (ab _ (aS _ _) ?_)))
 refine aj (fun hn=>ah ⟨?_,rfl⟩) (fun hn=>?_)
 ·have:Gq b=false:=by
   simp only [Bool.or_eq_true,decide_eq_true_eq] at hn
   simp only [Gq,decide_eq_false_iff_not]
   omega
  rw [rW,this];rfl
 have hnum:Gq b=true:=by
  simp only [Bool.or_eq_false_iff,decide_eq_false_iff_not] at hn
  simp only [Gq,decide_eq_true_eq]
  omega
 have stk:=h.stack
 obtain ⟨rows,hrs,hrl,hit⟩:=stk
 have hsB:=hrs.lenB
 refine aT b.stack.length (fun i H' O'=>O'=O∧Heap.le H H'∧b.stack.all (fun x=>dz x false)=(b.stack.drop i).all (fun x=>dz x false)) ⟨rfl,Heap.le_refl H,rfl⟩ ?_
 rintro i H' O' hi - ⟨rfl,hle,hor⟩
 refine aa (ab _ ls (ab _ (aJ _ _) (aj (fun hb=>?_) (fun hb=>?_))))
 ·have hlt:i < b.stack.length:=by simpa using hb
  obtain ⟨a,h1,h2,_,h3,h4⟩:=(hrs.le hle).idx .i64 i rows[i] (by simp [hrl,hlt])
  have hI:=(hit i rows[i] b.stack[i] (by simp [hrl,hlt]) (by simp [hlt])).le hle
  obtain ⟨s,hrow,hs⟩:=hI
  rw [hrow] at h2 h3 h4
  have hst:(b.stack.drop i).all (fun x=>dz x false)=(dz b.stack[i] false && (b.stack.drop (i + 1)).all (fun x=>dz x false)):=by rw [List.drop_eq_getElem_cons hlt,List.all_cons]
  refine aa (ab _ h1 (ar h2 h3 h4 (ai (Um ⟨s,rfl,hs⟩ false) rfl ⟨rfl,trivial⟩ fun H1 l1=>ab _ (aN _) (aj (fun hc=>ah ⟨?_,rfl⟩) (fun hc=>?_)))))
  ·rw [rW,hor,hst,wR hc];simp
  ·refine ab _ (aE (by omega)) (aP (by simp [Eqs]) hlt ⟨rfl,Heap.le_trans hle l1,?_⟩)
   rw [hor,hst,rx hc];rfl
 ·have hge:b.stack.length≤i:=by simpa using hb
  rw [List.drop_of_length_le hge] at hor
  have hall:b.stack.all (fun x=>dz x false)=true:=by rw [hor];rfl
  have que:=h.queue
  obtain ⟨rows2,hrs2,hrl2,hit2⟩:=que
  have hqB:=hrs2.lenB
  refine aT b.queue.length (fun j H'' O''=>O''=O'∧Heap.le H' H''∧b.queue.all (fun x=>dz x true)=(b.queue.drop j).all (fun x=>dz x true)) ⟨rfl,Heap.le_refl _,rfl⟩ ?_
  rintro j H'' O'' hj - ⟨rfl,hle2,hor2⟩
  have hle2:=Heap.le_trans hle hle2
  refine aa (ab _ lq (ab _ (aJ _ _) (aj (fun hb=>?_) (fun hb=>?_))))
  ·have hlt:j < b.queue.length:=by simpa using hb
   obtain ⟨a,h1,h2,_,h3,h4⟩:=(hrs2.le hle2).idx .i64 j rows2[j] (by simp [hrl2,hlt])
   have hI:=(hit2 j rows2[j] b.queue[j] (by simp [hrl2,hlt]) (by simp [hlt])).le hle2
   obtain ⟨s,hrow,hs⟩:=hI
   rw [hrow] at h2 h3 h4
   have hst:(b.queue.drop j).all (fun x=>dz x true)=(dz b.queue[j] true && (b.queue.drop (j + 1)).all (fun x=>dz x true)):=by rw [List.drop_eq_getElem_cons hlt,List.all_cons]
   refine aa (ab _ h1 (ar h2 h3 h4 (ai (Um ⟨s,rfl,hs⟩ true) rfl ⟨rfl,trivial⟩ fun H1 l1=>ab _ (aN _) (aj (fun hc=>ah ⟨?_,rfl⟩) (fun hc=>?_)))))
   ·rw [rW,hor2,hst,wR hc];simp
   ·refine ab _ (aE (by omega)) (aP (by simp [Eqs]) hlt ⟨rfl,?_,?_⟩)
    ·exact Heap.le_trans (by assumption) l1
    ·rw [hor2,hst,rx hc];rfl
  ·have hge2:b.queue.length≤j:=by simpa using hb
   rw [List.drop_of_length_le hge2] at hor2
   have hall2:b.queue.all (fun x=>dz x true)=true:=by rw [hor2];rfl
   have hF:rW b=(ce b.s0 && (ce b.s1 && (xJ b && iZ b))):=by rw [rW,hnum,hall,hall2];rfl
   replace h:=h.le hle2
   obtain ⟨z1,z2,z3,z4⟩:=fq h.s0
   obtain ⟨z5,z6,z7,z8⟩:=fq h.s1
   refine aa (ai (Ul b.s0 z1 z2 z3 z4 H'' O'') rfl ⟨rfl,trivial⟩ fun H1 l1=>aj (fun k1=>?_) (fun k1=>ah ⟨?_,rfl⟩))
   rotate_left
   ·rw [hF,k1];rfl
   replace h:=h.le l1
   refine aa (ai (Ul b.s1 z5 z6 z7 z8 H1 O'') rfl ⟨rfl,trivial⟩ fun H2 l2=>aj (fun k2=>?_) (fun k2=>ah ⟨?_,rfl⟩))
   rotate_left
   ·rw [hF,k1,k2];rfl
   replace h:=h.le l2
   refine aa (ai (Ve h hfit) rfl ⟨rfl,trivial⟩ fun H3 l3=>aj (fun k3=>?_) (fun k3=>ah ⟨?_,rfl⟩))
   rotate_left
   ·rw [hF,k1,k2,k3];rfl
   replace h:=h.le l3
   have ha:b.active=0∨b.active=1:=by
    simp only [Gq,decide_eq_true_eq] at hnum
    omega
   refine aa (ai (Ta h ha) rfl ⟨rfl,trivial⟩ fun H4 l4=>ah ⟨?_,rfl⟩)
   rw [hF,k1,k2,k3];rfl
end Go.Proofs.YtdhobpmnkfmcfaaGreatDoor
namespace Go.Proofs.YtdhobpmnkfmcfaaGreatDoor
open Go Go.Sx
set_option maxRecDepth 100000
set_option maxHeartbeats 1000000
theorem GZ {α:Type} [DecidableEq α]:∀ {l r:List α},l.Nodup→(∀ x ∈ l,x ∈ r)→r.length≤l.length→r.Perm l
 | [],r,_,_,h=>by
  have:r=[]:=List.eq_nil_of_length_eq_zero (by simpa using h)
  subst this;exact List.Perm.refl _
 | a::l,r,hn,hs,h=>by
  rw [List.nodup_cons] at hn
  have har:a ∈ r:=hs a (by simp)
  have h1:=GZ (l:=l) (r:=r.erase a) hn.2 (fun x hx=>(List.mem_erase_of_ne (fun e=>hn.1 (by subst e;exact hx))).2 (hs x (by simp [hx]))) (by
   rw [List.length_erase_of_mem har];simp only [List.length_cons] at h;omega)
  exact (List.perm_cons_erase har).trans (h1.cons a)
theorem vD {α β:Type} (f:α→β):∀ {l:List α},(l.map f).Nodup→l.Nodup
 | [],_=>List.nodup_nil
 | a::l,h=>by
  rw [List.map_cons,List.nodup_cons] at h
  exact List.nodup_cons.2 ⟨fun hm=>h.1 (List.mem_map.2 ⟨a,hm,rfl⟩),vD f h.2⟩
def I6:Option Int→List Ob→Bool
 | _,[]=>true
 | prev,o::r=>!kM prev o.id && I6 (some o.id) r
def ok1 (ps cs:List (Int × Int)) (o:Ob):Bool:=bc o && ((dX ps o.id).isSome && (((dX ps o.id).getD 0 == o.owner) && !((dX cs o.id).isSome && ((dX cs o.id).getD 0 != o.card))))
def ok2 (b:Bd) (o:Ob):Bool:=bc o && (((vA b o.owner o.id:Nat):Int) == 1)
theorem vC {ps cs:List (Int × Int)}:∀ (l:List Ob) (prev:Option Int),ru bc ps cs prev l=(I6 prev l && l.all (ok1 ps cs))
 | [],_=>rfl
 | o::r,prev=>by
  simp only [ru,GY,I6,List.all_cons,ok1,vC r (some o.id),bne]
  cases bc o <;> cases kM prev o.id <;> cases dX ps o.id <;> cases dX cs o.id <;> simp [Bool.and_assoc,Bool.and_comm,Bool.and_left_comm]
theorem GX {b:Bd}:∀ (l:List Ob) (prev:Option Int),qp b prev l=(I6 prev l && l.all (ok2 b))
 | [],_=>rfl
 | o::r,prev=>by
  simp only [qp,I6,List.all_cons,ok2,GX r (some o.id)]
  cases bc o <;> cases kM prev o.id <;> simp [Bool.and_assoc,Bool.and_comm,Bool.and_left_comm]
theorem oL:∀ {l:List Ob} {prev:Option Int},I6 prev l=true→(∀ o ∈ l,∀ p,prev=some p→p < o.id)∧(l.map (·.id)).Nodup
 | [],_,_=>⟨by simp,by simp⟩
 | o::r,prev,h=>by
  simp only [I6,Bool.and_eq_true,Bool.not_eq_true'] at h
  obtain ⟨k1,k2⟩:=oL h.2
  have hp:∀ p,prev=some p→p < o.id:=by
   rintro p rfl
   have:=h.1
   simp only [kM,decide_eq_false_iff_not] at this
   omega
  refine ⟨fun x hx p e=>?_,?_⟩
  ·rcases List.mem_cons.1 hx with rfl | hx
   ·exact hp p e
   ·have:=k1 x hx _ rfl;have:=hp p e;omega
  ·rw [List.map_cons,List.nodup_cons]
   refine ⟨fun hm=>?_,k2⟩
   obtain ⟨x,hx,e⟩:=List.mem_map.1 hm
   have:=k1 x hx _ rfl
   omega
theorem VM {l:List Ob} (h:(l.map (·.id)).Nodup):∀ {x y:Ob},x ∈ l→y ∈ l→x.id=y.id→x=y:=by
 induction l with
 | nil=>intro x y hx;cases hx
 | cons a l ih =>
  intro x y hx hy e
  rw [List.map_cons,List.nodup_cons] at h
  rcases List.mem_cons.1 hx with k1 | k1 <;> rcases List.mem_cons.1 hy with k2 | k2
  ·rw [k1,k2]
  ·exact absurd (List.mem_map.2 ⟨y,k2,by rw [← e,k1]⟩) h.1
  ·exact absurd (List.mem_map.2 ⟨x,k1,by rw [e,k2]⟩) h.1
  ·exact ih h.2 k1 k2 e
theorem OU (l:List Int) (p q id:Int):(l.map fun i=>(i,p)).count (id,q)=if p=q then l.count id else 0:=by
 induction l with
 | nil=>simp
 | cons a l ih =>
  simp only [List.map_cons,List.count_cons,ih,beq_iff_eq,Prod.mk.injEq]
  by_cases hp:p=q
  ·simp [hp]
  ·simp [hp]
theorem LJ {l:List It} (ht:∀ x ∈ l,x.trig < 0→x.trig=-1) (p id:Int):(iT l).count (id,p)=l.countP (kR p id):=by
 induction l with
 | nil=>rfl
 | cons x l ih =>
  have ih:=ih fun y hy=>ht y (by simp [hy])
  have hx:=ht x (by simp)
  rw [show x::l=[x]++l from rfl,qb,List.count_append,List.countP_append,ih]
  congr 1
  by_cases h:x.trig < 0
  ·rw [JE h,List.count_singleton,List.countP_singleton]
   have h1:=hx h
   have e:((x.id,x.player) == (id,p))=kR p id x:=by
    simp only [kR,h1,beq_self_eq_true,Bool.true_and]
    rw [Bool.eq_iff_iff]
    simp [Prod.ext_iff]
   rw [e]
  ·rw [GV h,List.countP_singleton]
   have:kR p id x=false:=by
    have:x.trig ≠ -1:=by omega
    simp [kR,this]
   rw [this];rfl
theorem QQ (l:List It):(iT l).length=l.countP tW:=by
 rw [iT,List.length_map,fe,List.countP_eq_length_filter]
 congr 2
 funext x
 simp only [tW]
 by_cases h:x.trig < 0
 ·have:¬ x.trig ≥ 0:=by omega
  simp [h,this]
 ·have:x.trig ≥ 0:=by omega
  simp [h,this]
theorem QP (b:Bd):(aZ b).length=Iy b + b.stack.countP tW:=by
 simp only [aZ,fH,List.length_append,List.length_map,QQ,Iy]
 omega
theorem Fj {b:Bd} (ht:∀ x ∈ b.stack,x.trig < 0→x.trig=-1) {p:Int} (hp:p=0∨p=1) (id:Int):(aZ b).count (id,p)=vA b p id:=by
 simp only [aZ,fH,List.count_append,OU,LJ ht,vA,uU]
 rcases hp with rfl | rfl
 ·simp;omega
 ·simp;omega
theorem J8 {b:Bd} (ht:∀ x ∈ b.stack,x.trig < 0→x.trig=-1):xJ b=cE bc b:=by
 simp only [xJ,cE,vC,GX]
 have hl:((((Iy b + b.stack.countP tW:Nat):Int) == (b.objs.length:Int))=decide ((aZ b).length=b.objs.length)):=by
  rw [QP,Bool.eq_iff_iff]
  simp only [beq_iff_eq,decide_eq_true_eq]
  omega
 rw [hl,Bool.eq_iff_iff]
 simp only [Bool.and_eq_true,List.all_eq_true,decide_eq_true_eq]
 constructor
 ·rintro ⟨hst,⟨hord,hok⟩,hlen⟩
  obtain ⟨_,hnd⟩:=oL hord
  have hL:(b.objs.map fun o=>(o.id,o.owner)).Nodup:=by
   have e:(b.objs.map fun o=>(o.id,o.owner)).map (·.1)=b.objs.map (·.id):=by rw [List.map_map];rfl
   exact vD (·.1) (by rw [e];exact hnd)
  have hsub:∀ x ∈ (b.objs.map fun o=>(o.id,o.owner)),x ∈ aZ b:=by
   intro x hx
   obtain ⟨o,ho,rfl⟩:=List.mem_map.1 hx
   have h2:=hok o ho
   simp only [ok2,Bool.and_eq_true,beq_iff_eq] at h2
   have hc:=Fj ht (pV h2.1) o.id
   refine List.count_pos_iff.1 ?_
   rw [hc];omega
  have hperm:=GZ hL hsub (by simp [hlen])
  have hfst:((aZ b).map (·.1)).Perm (b.objs.map (·.id)):=by
   have:=hperm.map (·.1)
   rwa [List.map_map] at this
  have hnp:((aZ b).map (·.1)).Nodup:=hfst.nodup_iff.2 hnd
  refine ⟨hnp,⟨hord,fun o ho=>?_⟩,hlen⟩
  have h2:=hok o ho
  simp only [ok2,Bool.and_eq_true,beq_iff_eq] at h2
  have hlk:dX (aZ b) o.id=some o.owner:=(kC hnp).2 (hsub _ (List.mem_map.2 ⟨o,ho,rfl⟩))
  simp only [ok1,h2.1,hlk,Option.isSome_some,Option.getD_some,beq_self_eq_true,Bool.true_and,Bool.not_eq_true']
  cases hc:dX (bV b.stack) o.id with
  | none=>rfl
  | some c =>
   simp only [Option.isSome_some,Option.getD_some,Bool.true_and,bne_eq_false_iff_eq]
   have hmem:(o.id,c) ∈ bV b.stack:=by
    simp only [dX,Option.map_eq_some_iff] at hc
    obtain ⟨⟨k,c'⟩,hf,rfl⟩:=hc
    have h3:=List.find?_some hf
    have h4:=List.mem_of_find?_eq_some hf
    simp only [beq_iff_eq] at h3
    rw [h3];exact h4
   simp only [bV,fe,List.mem_map,List.mem_filter,decide_eq_true_eq,Prod.mk.injEq] at hmem
   obtain ⟨x,⟨hx,hxt⟩,e1,e2⟩:=hmem
   have hsx:=hst x hx
   have hn:decide (x.trig ≥ 0)=false:=by simp;omega
   simp only [pX,hn,Bool.false_or,Bool.not_eq_true',Bool.or_eq_false_iff,decide_eq_false_iff_not,bne_eq_false_iff_eq] at hsx
   rcases mB (fun o=>o.id == x.id) b.objs 0 (by omega) with ⟨e,_⟩ | ⟨k,o',k1,k2,k3⟩
   ·exfalso;apply hsx.1;show eX b x.id < 0;unfold eX;omega
   ·have k3:eX b x.id=(k:Int):=by unfold eX;omega
    have hca:vP b (eX b x.id)=o'.card:=by rw [k3];simp [vP,k1]
    simp only [beq_iff_eq] at k2
    have:o'=o:=VM hnd (List.mem_of_getElem? k1) ho (by rw [k2,e1])
    rw [← e2,← hsx.2,hca,this]
 ·rintro ⟨hnp,⟨hord,hok⟩,hlen⟩
  obtain ⟨_,hnd⟩:=oL hord
  have hids:=Ha (l:=b.objs.map (·.id)) (r:=(aZ b).map (·.1)) hnd (fun y hy=>by
   obtain ⟨o,ho,rfl⟩:=List.mem_map.1 hy
   have h2:=hok o ho
   simp only [ok1,Bool.and_eq_true] at h2
   rcases Classical.em (o.id ∈ (aZ b).map (·.1)) with h | h
   ·exact h
   ·have h3:=h2.2.1;rw [iW.2 h] at h3;cases h3) (by simp [hlen])
  refine ⟨fun x hx=>?_,⟨hord,fun o ho=>?_⟩,hlen⟩
  ·by_cases hxt:x.trig < 0
   ·have hn:decide (x.trig ≥ 0)=false:=by simp;omega
    have hxp:x.id ∈ (aZ b).map (·.1):=by
     simp only [aZ,List.map_append,List.mem_append]
     right;right
     simp only [iT,fe,List.mem_map,List.mem_filter,decide_eq_true_eq]
     exact ⟨_,⟨x,⟨hx,hxt⟩,rfl⟩,rfl⟩
    obtain ⟨o,ho,hoid⟩:=List.mem_map.1 (hids _ hxp)
    simp only [pX,hn,Bool.false_or,Bool.not_eq_true',Bool.or_eq_false_iff,decide_eq_false_iff_not,bne_eq_false_iff_eq]
    rcases mB (fun o=>o.id == x.id) b.objs 0 (by omega) with ⟨_,e⟩ | ⟨k,o',k1,k2,k3⟩
    ·have:=e o ho;simp [hoid] at this
    ·have k3:eX b x.id=(k:Int):=by unfold eX;omega
     refine ⟨by omega,?_⟩
     rw [k3]
     simp only [beq_iff_eq] at k2
     have h2:=hok o' (List.mem_of_getElem? k1)
     simp only [ok1,Bool.and_eq_true,Bool.not_eq_true'] at h2
     have hcn:((bV b.stack).map (·.1)).Nodup:=by
      have e:(bV b.stack).map (·.1)=(iT b.stack).map (·.1):=by simp only [bV,iT,List.map_map];rfl
      rw [e]
      simp only [aZ,List.map_append] at hnp
      exact (List.nodup_append.1 (List.nodup_append.1 hnp).2.1).2.1
     have hlk:dX (bV b.stack) x.id=some x.card:=(kC hcn).2 (by
      simp only [bV,fe,List.mem_map,List.mem_filter,decide_eq_true_eq]
      exact ⟨x,⟨hx,hxt⟩,rfl⟩)
     have h3:=h2.2.2.2
     rw [k2,hlk] at h3
     simp only [Option.isSome_some,Option.getD_some,Bool.true_and,bne_eq_false_iff_eq] at h3
     simp only [vP,Int.toNat_natCast,k1,Option.map_some,Option.getD_some]
     exact h3.symm
   ·have hn:decide (x.trig ≥ 0)=true:=by simp;omega
    simp only [pX,hn,Bool.true_or]
  ·have h2:=hok o ho
   simp only [ok1,Bool.and_eq_true,beq_iff_eq] at h2
   obtain ⟨v1,v2,v3,_⟩:=h2
   have hlk:dX (aZ b) o.id=some o.owner:=by
    cases e:dX (aZ b) o.id with
    | none=>rw [e] at v2;cases v2
    | some c=>rw [e] at v3;rw [← v3];rfl
   have hmem:=(kC hnp).1 hlk
   have hnp':(aZ b).Nodup:=vD (·.1) hnp
   have hc:=Fj ht (pV v1) o.id
   have h1:(aZ b).count (o.id,o.owner)=1:=by
    have a1:=List.count_pos_iff.2 hmem
    have a2:=List.nodup_iff_count.1 hnp' (o.id,o.owner)
    omega
   simp only [ok2,v1,Bool.true_and,beq_iff_eq]
   rw [hc] at h1;omega
end Go.Proofs.YtdhobpmnkfmcfaaGreatDoor
namespace Go.Proofs.YtdhobpmnkfmcfaaGreatDoor
open Go Go.Sx
set_option maxRecDepth 100000
set_option maxHeartbeats 1000000
theorem Fo {l:List Int} (h:l.Nodup) (x:Int):(((l.count x:Nat):Int) == 1)=l.contains x:=by
 have h1:=List.nodup_iff_count.1 h x
 by_cases hm:x ∈ l
 ·have h2:=List.count_pos_iff.2 hm
  have:l.count x=1:=by omega
  simp [this,hm]
 ·have:l.count x=0:=List.count_eq_zero.2 hm
  simp [this,hm]
theorem W3 {own att:List Int} (ho:own.Nodup):att.all (Gw own att)=(decide att.Nodup && att.all fun x=>own.contains x):=by
 rw [Bool.eq_iff_iff]
 simp only [Bool.and_eq_true,List.all_eq_true,decide_eq_true_eq,Gw,Fo ho,beq_iff_eq]
 constructor
 ·intro h
  refine ⟨List.nodup_iff_count.2 fun x=>?_,fun x hx=>(h x hx).2⟩
  by_cases hm:x ∈ att
  ·have:=(h x hm).1;omega
  ·have:=List.count_eq_zero.2 hm;omega
 ·rintro ⟨h1,h2⟩ x hx
  refine ⟨?_,h2 x hx⟩
  have:=List.nodup_iff_count.1 h1 x
  have:=List.count_pos_iff.2 hx
  omega
theorem UN {att other:List Int} (ha:att.Nodup) (ho:other.Nodup):∀ (l done:List Bl) (ua ub:List Int),(∀ a,a ∈ ua ↔ ∃ y ∈ done,y.attacker=a)→(∀ a,a ∈ ub ↔ ∃ y ∈ done,y.blocker=a)→FG att other ua ub l=I8 att other done l
 | [],_,_,_,_,_=>rfl
 | x::r,done,ua,ub,h1,h2=>by
  rw [FG,I8,UN ha ho r (done++[x]) (x.attacker::ua) (x.blocker::ub)]
  ·congr 1
   rw [tY,Fo ha,Fo ho,Bool.eq_iff_iff]
   simp only [Bool.and_eq_true,Bool.not_eq_true',List.all_eq_true,lQ,Bool.or_eq_false_iff,beq_eq_false_iff_ne,List.contains_iff_mem]
   have e1:ua.contains x.attacker=false ↔ ∀ y ∈ done,y.attacker ≠ x.attacker:=by
    rw [← Bool.not_eq_true,List.contains_iff_mem,h1]
    exact ⟨fun h y hy e=>h ⟨y,hy,e⟩,fun h ⟨y,hy,e⟩=>h y hy e⟩
   have e2:ub.contains x.blocker=false ↔ ∀ y ∈ done,y.blocker ≠ x.blocker:=by
    rw [← Bool.not_eq_true,List.contains_iff_mem,h2]
    exact ⟨fun h y hy e=>h ⟨y,hy,e⟩,fun h ⟨y,hy,e⟩=>h y hy e⟩
   rw [e1,e2]
   exact ⟨fun ⟨⟨a,b⟩,c,d⟩=>⟨b,d,fun y hy=>⟨a y hy,c y hy⟩⟩,fun ⟨b,d,e⟩=>⟨⟨fun y hy=>(e y hy).1,b⟩,fun y hy=>(e y hy).2,d⟩⟩
  ·intro a
   simp only [List.mem_cons,h1,List.mem_append,List.mem_singleton]
   constructor
   ·rintro (rfl | ⟨y,hy,e⟩)
    ·exact ⟨x,.inr (.inl rfl),rfl⟩
    ·exact ⟨y,.inl hy,e⟩
   ·rintro ⟨y,hy | hy,e⟩
    ·exact .inr ⟨y,hy,e⟩
    ·rcases hy with rfl | hy
     ·exact .inl e.symm
     ·cases hy
  ·intro a
   simp only [List.mem_cons,h2,List.mem_append,List.mem_singleton]
   constructor
   ·rintro (rfl | ⟨y,hy,e⟩)
    ·exact ⟨x,.inr (.inl rfl),rfl⟩
    ·exact ⟨y,.inl hy,e⟩
   ·rintro ⟨y,hy | hy,e⟩
    ·exact .inr ⟨y,hy,e⟩
    ·rcases hy with rfl | hy
     ·exact .inl e.symm
     ·cases hy
theorem Kq {own other att:List Int} {bl:List Bl} (ho:own.Nodup) (ht:other.Nodup):wS own other att bl=oS own other att bl:=by
 rw [wS,oS,W3 ho]
 by_cases ha:att.Nodup
 ·rw [UN ha ht bl [] [] [] (by simp) (by simp),Bool.and_assoc]
 ·simp [ha]
theorem vB {b:Bd} (h:cE bc b=true):b.s0.field.Nodup∧b.s1.field.Nodup:=by
 simp only [cE,Bool.and_eq_true,decide_eq_true_eq] at h
 have h1:=h.1
 have e:∀ (l:List Int) (p:Int),(l.map fun i=>(i,p)).map (·.1)=l:=fun l p=>by rw [List.map_map];simp [Function.comp_def]
 simp only [aZ,fH,List.map_append,e] at h1
 have h2:=List.nodup_append.1 h1
 have h3:=List.nodup_append.1 h2.2.1
 have f:∀ {a b c d:List Int},(a++(b++(c++d))).Nodup→c.Nodup:=fun h=>(List.nodup_append.1 (List.nodup_append.1 (List.nodup_append.1 h).2.1).2.1).1
 exact ⟨f h2.1,f h3.1⟩
theorem OQ {b:Bd} (h:cE bc b=true):iZ b=gW b:=by
 obtain ⟨h0,h1⟩:=vB h
 rw [iZ,gW,Kq h0 h1,Kq h1 h0]
theorem Ko {x:It} {q:Bool} (h:dz x q=true):x.trig < 0→x.trig=-1:=by
 simp only [dz,aw,Bool.and_eq_true,decide_eq_true_eq] at h
 omega
theorem Mc (b:Bd):rW b=ay b:=by
 rw [Bool.eq_iff_iff]
 have hall:∀ (l:List It) (q:Bool),l.all (fun x=>dz x q)=!(l.any fun x=>!dz x q):=fun l q=>by
  induction l with
  | nil=>rfl
  | cons a l ih=>simp [ih]
 have hnum:Gq b=(aw b.active 0 1 && (aw b.turn 0 1000 && (aw b.phase 0 10 && (aw b.holder (-1) 1 && !zf b)))):=by
  rw [Bool.eq_iff_iff]
  simp only [Gq,aw,zf,Bool.and_eq_true,Bool.not_eq_true',Bool.or_eq_false_iff,decide_eq_true_eq,decide_eq_false_iff_not,Bool.not_eq_false']
  omega
 have key:∀ (x y:Bool),(b.stack.all (fun x=>dz x false)=true→x=y)→((b.stack.all (fun x=>dz x false) && x)=true ↔ (b.stack.all (fun x=>dz x false) && y)=true):=by
  intro x y h
  cases hs:b.stack.all (fun x=>dz x false) with
  | false=>simp
  | true=>rw [h hs]
 have hf:b.stack.all (fun x=>dz x false)=true→(xJ b && iZ b)=(cE bc b && gW b):=by
  intro hs
  rw [List.all_eq_true] at hs
  rw [J8 fun x hx=>Ko (hs x hx)]
  cases hp:cE bc b with
  | false=>rfl
  | true=>rw [OQ hp]
 have e1:rW b=(Gq b && (b.queue.all (fun x=>dz x true) && (ce b.s0 && (ce b.s1 && (b.stack.all (fun x=>dz x false) && (xJ b && iZ b)))))):=by
  rw [rW]
  cases b.stack.all (fun x=>dz x false) <;> simp
 have e2:ay b=(Gq b && (b.queue.all (fun x=>dz x true) && (ce b.s0 && (ce b.s1 && (b.stack.all (fun x=>dz x false) && (cE bc b && gW b)))))):=by
  rw [ay,hnum,hall,hall]
  cases aw b.active 0 1 <;> cases aw b.turn 0 1000 <;> cases aw b.phase 0 10 <;> cases aw b.holder (-1) 1 <;> cases zf b <;> cases ce b.s0 <;> cases ce b.s1 <;> cases (b.stack.any fun x=>!dz x false) <;> cases (b.queue.any fun x=>!dz x true) <;> rfl
 rw [e1,e2]
 simp only [Bool.and_eq_true]
 have:=key _ _ hf
 simp only [Bool.and_eq_true] at this
 rw [this]
end Go.Proofs.YtdhobpmnkfmcfaaGreatDoor
namespace Go.Proofs.YtdhobpmnkfmcfaaGreatDoor
open Go Go.Sx
set_option maxRecDepth 100000
set_option maxHeartbeats 1000000
end Go.Proofs.YtdhobpmnkfmcfaaGreatDoor
namespace Go.Proofs.YtdhobpmnkfmcfaaGreatDoor
open Go Go.Sx
set_option maxRecDepth 100000
set_option maxHeartbeats 1000000
def im (s:St):Bool:=!decide ((s.lib.length:Int) > 40) && (!decide ((s.hand.length:Int) > 40) && (!decide ((s.field.length:Int) > 40) && !decide ((s.grave.length:Int) > 40)))
def nW (l:List It):Bool:=!decide ((l.length:Int) > 20) && l.all fun x=>!decide ((x.tgs.length:Int) > 6)
def fw (b:Bd):Bool:=im b.s0 && (im b.s1 && (nW b.stack && (nW b.queue && ((decide ((b.objs.length:Int)≤30) && decide ((b.att.length:Int)≤30)) && decide ((b.blocks.length:Int)≤30)))))
theorem RA {H:Heap} {O:Own} {v:cP} {b:Bd} (h:BdR H O v b):RetO PP nH [.agg (ap v b).toArray] H O (.bool (fw b)):=by
 refine ux (vs:=ap v b) (by kernel_rfl) (ao h) ?_
 simp only [jy]
 have len1:∀ {H':Heap} {O':Own} {w:Value} {l:List Int},RSl H' O' 1 w (aI l)→ak .len [w]=some (iV l.length):=fun h=>by have:=h.len;rwa [aI,List.length_map] at this
 have lo:=h.objs.len
 have lb:=h.blocks.len
 rw [List.length_map] at lo lb
 have la:=len1 h.att
 refine af fun r0=>?_
 obtain ⟨s01,s02,s03,s04⟩:=fq h.s0
 refine aa (ai (kK b.s0 s01 s02 s03 s04 _ _) rfl ⟨s01,s02,s03,s04,trivial⟩ fun Hs0 ls0=>?_)
 replace h:=h.le ls0
 refine ab _ (len1 h.s0.lib) (ab _ (bG _ _) (aj (fun ks0lib=>ah ⟨?_,rfl⟩) (fun ks0lib=>?_)))
 ·simp only [fw,im,ks0lib,Bool.not_true,Bool.not_false,Bool.true_and,Bool.false_and,Bool.and_false]
 refine ab _ (len1 h.s0.hand) (ab _ (bG _ _) (aj (fun ks0hand=>ah ⟨?_,rfl⟩) (fun ks0hand=>?_)))
 ·simp only [fw,im,ks0lib,ks0hand,Bool.not_true,Bool.not_false,Bool.true_and,Bool.false_and,Bool.and_false]
 refine ab _ (len1 h.s0.field) (ab _ (bG _ _) (aj (fun ks0field=>ah ⟨?_,rfl⟩) (fun ks0field=>?_)))
 ·simp only [fw,im,ks0lib,ks0hand,ks0field,Bool.not_true,Bool.not_false,Bool.true_and,Bool.false_and,Bool.and_false]
 refine ab _ (len1 h.s0.grave) (ab _ (bG _ _) (aj (fun ks0grave=>ah ⟨?_,rfl⟩) (fun ks0grave=>?_)))
 ·simp only [fw,im,ks0lib,ks0hand,ks0field,ks0grave,Bool.not_true,Bool.not_false,Bool.true_and,Bool.false_and,Bool.and_false]
 obtain ⟨s11,s12,s13,s14⟩:=fq h.s1
 refine aa (ai (kK b.s1 s11 s12 s13 s14 _ _) rfl ⟨s11,s12,s13,s14,trivial⟩ fun Hs1 ls1=>?_)
 replace h:=h.le ls1
 refine ab _ (len1 h.s1.lib) (ab _ (bG _ _) (aj (fun ks1lib=>ah ⟨?_,rfl⟩) (fun ks1lib=>?_)))
 ·simp only [fw,im,ks0lib,ks0hand,ks0field,ks0grave,ks1lib,Bool.not_true,Bool.not_false,Bool.true_and,Bool.false_and,Bool.and_false]
 refine ab _ (len1 h.s1.hand) (ab _ (bG _ _) (aj (fun ks1hand=>ah ⟨?_,rfl⟩) (fun ks1hand=>?_)))
 ·simp only [fw,im,ks0lib,ks0hand,ks0field,ks0grave,ks1lib,ks1hand,Bool.not_true,Bool.not_false,Bool.true_and,Bool.false_and,Bool.and_false]
 refine ab _ (len1 h.s1.field) (ab _ (bG _ _) (aj (fun ks1field=>ah ⟨?_,rfl⟩) (fun ks1field=>?_)))
 ·simp only [fw,im,ks0lib,ks0hand,ks0field,ks0grave,ks1lib,ks1hand,ks1field,Bool.not_true,Bool.not_false,Bool.true_and,Bool.false_and,Bool.and_false]
 refine ab _ (len1 h.s1.grave) (ab _ (bG _ _) (aj (fun ks1grave=>ah ⟨?_,rfl⟩) (fun ks1grave=>?_)))
 ·simp only [fw,im,ks0lib,ks0hand,ks0field,ks0grave,ks1lib,ks1hand,ks1field,ks1grave,Bool.not_true,Bool.not_false,Bool.true_and,Bool.false_and,Bool.and_false]
 refine aa (aa (af fun _=>aa ?_))
 have lstack:=ItsR.len h.stack
 refine ab _ lstack (ab _ (bG _ _) (aj (fun kstack=>ah ⟨?_,rfl⟩) (fun kstack=>?_)))
 ·simp only [fw,im,nW,ks0lib,ks0hand,ks0field,ks0grave,ks1lib,ks1hand,ks1field,ks1grave,kstack,Bool.not_true,Bool.not_false,Bool.true_and,Bool.false_and,Bool.and_false]
 have stkstack:=h.stack
 obtain ⟨rowsstack,hrsstack,hrlstack,hitstack⟩:=stkstack
 have hBstack:=hrsstack.lenB
 refine aT b.stack.length (fun i H' OO=>OO=O∧Heap.le Hs1 H'∧(b.stack.all fun x=>!decide ((x.tgs.length:Int) > 6))=((b.stack.drop i).all fun x=>!decide ((x.tgs.length:Int) > 6))) ⟨rfl,Heap.le_refl _,rfl⟩ ?_
 rintro istack Hstack Ostack histack - ⟨rfl,hlestack,horstack⟩
 replace h:=h.le hlestack
 refine ab _ lstack (ab _ (aJ _ _) (aj (fun hb=>?_) (fun hb=>?_)))
 ·have hlt:istack < b.stack.length:=by simpa using hb
  obtain ⟨a,h1,_,h3,_⟩:=(hrsstack.le hlestack).idx .i64 istack rowsstack[istack] (by simp [hrlstack,hlt])
  obtain ⟨s,hrow,hs⟩:=(hitstack istack rowsstack[istack] b.stack[istack] (by simp [hrlstack,hlt]) (by simp [hlt])).le hlestack
  have hr:=h3 4 1 (by omega)
  rw [hrow] at hr
  have hst:((b.stack.drop istack).all fun x=>!decide ((x.tgs.length:Int) > 6))=(!decide ((b.stack[istack].tgs.length:Int) > 6) && ((b.stack.drop (istack + 1)).all fun x=>!decide ((x.tgs.length:Int) > 6))):=by rw [List.drop_eq_getElem_cons hlt,List.all_cons]
  have lt:=hs.len
  rw [List.length_map] at lt
  refine ab _ h1 (aC rfl (ar hr rfl ⟨hs.one,trivial⟩ (ab _ lt (ab _ (bG _ _) (aj (fun hc=>ah ⟨?_,rfl⟩) (fun hc=>?_))))))
  ·simp only [fw,im,nW,ks0lib,ks0hand,ks0field,ks0grave,ks1lib,ks1hand,ks1field,ks1grave,kstack,horstack,hst,hc,Bool.not_true,Bool.not_false,Bool.true_and,Bool.false_and,Bool.and_false]
  ·refine ab _ (aE (by omega)) (aP (by simp [Eqs]) hlt ⟨rfl,hlestack,?_⟩)
   rw [horstack,hst,hc];rfl
 have hgestack:b.stack.length≤istack:=by simpa using hb
 rw [List.drop_of_length_le hgestack] at horstack
 have kallstack:(b.stack.all fun x=>!decide ((x.tgs.length:Int) > 6))=true:=by rw [horstack];rfl
 clear hb
 refine aa ?_
 have lqueue:=ItsR.len h.queue
 refine ab _ lqueue (ab _ (bG _ _) (aj (fun kqueue=>ah ⟨?_,rfl⟩) (fun kqueue=>?_)))
 ·simp only [fw,im,nW,ks0lib,ks0hand,ks0field,ks0grave,ks1lib,ks1hand,ks1field,ks1grave,kstack,kallstack,kqueue,Bool.not_true,Bool.not_false,Bool.true_and,Bool.false_and,Bool.and_false]
 have stkqueue:=h.queue
 obtain ⟨rowsqueue,hrsqueue,hrlqueue,hitqueue⟩:=stkqueue
 have hBqueue:=hrsqueue.lenB
 refine aT b.queue.length (fun i H' OO=>OO=Ostack∧Heap.le Hstack H'∧(b.queue.all fun x=>!decide ((x.tgs.length:Int) > 6))=((b.queue.drop i).all fun x=>!decide ((x.tgs.length:Int) > 6))) ⟨rfl,Heap.le_refl _,rfl⟩ ?_
 rintro iqueue Hqueue Oqueue hiqueue - ⟨rfl,hlequeue,horqueue⟩
 replace h:=h.le hlequeue
 refine ab _ lqueue (ab _ (aJ _ _) (aj (fun hb=>?_) (fun hb=>?_)))
 ·have hlt:iqueue < b.queue.length:=by simpa using hb
  obtain ⟨a,h1,_,h3,_⟩:=(hrsqueue.le hlequeue).idx .i64 iqueue rowsqueue[iqueue] (by simp [hrlqueue,hlt])
  obtain ⟨s,hrow,hs⟩:=(hitqueue iqueue rowsqueue[iqueue] b.queue[iqueue] (by simp [hrlqueue,hlt]) (by simp [hlt])).le hlequeue
  have hr:=h3 4 1 (by omega)
  rw [hrow] at hr
  have hst:((b.queue.drop iqueue).all fun x=>!decide ((x.tgs.length:Int) > 6))=(!decide ((b.queue[iqueue].tgs.length:Int) > 6) && ((b.queue.drop (iqueue + 1)).all fun x=>!decide ((x.tgs.length:Int) > 6))):=by rw [List.drop_eq_getElem_cons hlt,List.all_cons]
  have lt:=hs.len
  rw [List.length_map] at lt
  refine ab _ h1 (aC rfl (ar hr rfl ⟨hs.one,trivial⟩ (ab _ lt (ab _ (bG _ _) (aj (fun hc=>ah ⟨?_,rfl⟩) (fun hc=>?_))))))
  ·simp only [fw,im,nW,ks0lib,ks0hand,ks0field,ks0grave,ks1lib,ks1hand,ks1field,ks1grave,kstack,kallstack,kqueue,horqueue,hst,hc,Bool.not_true,Bool.not_false,Bool.true_and,Bool.false_and,Bool.and_false]
  ·refine ab _ (aE (by omega)) (aP (by simp [Eqs]) hlt ⟨rfl,hlequeue,?_⟩)
   rw [horqueue,hst,hc];rfl
 have hgequeue:b.queue.length≤iqueue:=by simpa using hb
 rw [List.drop_of_length_le hgequeue] at horqueue
 have kallqueue:(b.queue.all fun x=>!decide ((x.tgs.length:Int) > 6))=true:=by rw [horqueue];rfl
 clear hb
 repeat (first | refine aa ?_ | refine ae ?_ | refine ab _ lo ?_ | refine ab _ la ?_ | refine ab _ lb ?_ | refine ab _ (fJ _ _) ?_ | refine ab _ (aX _ _) ?_)
 refine ah ⟨?_,rfl⟩
 simp only [fw,im,nW,ks0lib,ks0hand,ks0field,ks0grave,ks1lib,ks1hand,ks1field,ks1grave,kstack,kallstack,kqueue,kallqueue,Bool.not_true,Bool.not_false,Bool.true_and,Bool.false_and,Bool.and_false]
end Go.Proofs.YtdhobpmnkfmcfaaGreatDoor
namespace Go.Proofs.YtdhobpmnkfmcfaaGreatDoor
open Go Go.Sx
set_option maxRecDepth 100000
set_option maxHeartbeats 1000000
def tys:Tys:=⟨aO,aM,bm,bg,aD⟩
theorem zz {H:Heap} {v:Value} {l:List (List Value)} (h:Sl H 12 v l) (hb:l.length≤2 ^ 40):Triple PP eo [v] H [] fun v' H' O'=>OSl aM 12 v' l O':=by
 refine iR (vs:=[v]) (by kernel_rfl) ⟨h.one,trivial⟩ ?_
 simp only [cH]
 obtain ⟨a,cap,rfl,h1,h2,h3⟩:=h
 have hev:ak (.bin .eql .slice) [.slice a l.length cap,.slice none 0 0]=some (.bool a.isNone):=by cases a <;> rfl
 refine ab _ hev (aj (fun hn=>ah ?_) (fun hn=>fun r0=>?_))
 ·have hl:l=[]:=by
   by_cases hl:l=[]
   ·exact hl
   ·obtain ⟨ad,rfl,_⟩:=h3 hl;cases hn
  subst hl
  exact OSl.nil aM 12
 ·refine aH (rows:=[]) (news:=l) (O1:=[]) (O2:=[]) (e:=aM) (size:=12) (bytes:=80) (by kernel_rfl) (List.Perm.refl _) (.inl ⟨⟨_,rfl⟩,rfl,rfl⟩) (fun Hf hl _=>Sl.le hl ⟨a,cap,rfl,h1,h2,h3⟩) (by simp;omega) (by simp;omega) ?_
  intro v' O1' H' _ ho
  refine ah ?_
  rw [List.append_nil]
  exact ho
theorem Be {H:Heap} {v:Value} {l:List (List Value)} (h:Sl H 2 v l) (hb:l.length≤2 ^ 40):Triple PP eO [v] H [] fun v' H' O'=>OSl bm 2 v' l O':=by
 refine jH (vs:=[v]) (by kernel_rfl) ⟨h.one,trivial⟩ ?_
 simp only [cM]
 obtain ⟨a,cap,rfl,h1,h2,h3⟩:=h
 have hev:ak (.bin .eql .slice) [.slice a l.length cap,.slice none 0 0]=some (.bool a.isNone):=by cases a <;> rfl
 refine ab _ hev (aj (fun hn=>ah ?_) (fun hn=>fun r0=>?_))
 ·have hl:l=[]:=by
   by_cases hl:l=[]
   ·exact hl
   ·obtain ⟨ad,rfl,_⟩:=h3 hl;cases hn
  subst hl
  exact OSl.nil bm 2
 ·refine aH (rows:=[]) (news:=l) (O1:=[]) (O2:=[]) (e:=bm) (size:=2) (bytes:=16) (by kernel_rfl) (List.Perm.refl _) (.inl ⟨⟨_,rfl⟩,rfl,rfl⟩) (fun Hf hl _=>Sl.le hl ⟨a,cap,rfl,h1,h2,h3⟩) (by simp;omega) (by simp;omega) ?_
  intro v' O1' H' _ ho
  refine ah ?_
  rw [List.append_nil]
  exact ho
theorem Df {H:Heap} {v:Value} {l:List (List Value)} (h:Sl H 5 v l) (hb:l.length≤2 ^ 40):Triple PP fi [v] H [] fun v' H' O'=>OSl bg 5 v' l O':=by
 refine kH (vs:=[v]) (by kernel_rfl) ⟨h.one,trivial⟩ ?_
 simp only [dk]
 obtain ⟨a,cap,rfl,h1,h2,h3⟩:=h
 have hev:ak (.bin .eql .slice) [.slice a l.length cap,.slice none 0 0]=some (.bool a.isNone):=by cases a <;> rfl
 refine ab _ hev (aj (fun hn=>ah ?_) (fun hn=>fun r0=>?_))
 ·have hl:l=[]:=by
   by_cases hl:l=[]
   ·exact hl
   ·obtain ⟨ad,rfl,_⟩:=h3 hl;cases hn
  subst hl
  exact OSl.nil bg 5
 ·refine aH (rows:=[]) (news:=l) (O1:=[]) (O2:=[]) (e:=bg) (size:=5) (bytes:=56) (by kernel_rfl) (List.Perm.refl _) (.inl ⟨⟨_,rfl⟩,rfl,rfl⟩) (fun Hf hl _=>Sl.le hl ⟨a,cap,rfl,h1,h2,h3⟩) (by simp;omega) (by simp;omega) ?_
  intro v' O1' H' _ ho
  refine ah ?_
  rw [List.append_nil]
  exact ho
theorem zy {H:Heap} {v:Value} {l:List (List Value)} (h:Sl H 2 v l) (hb:l.length≤2 ^ 40):Triple PP ek [v] H [] fun v' H' O'=>OSl aD 2 v' l O':=by
 refine iQ (vs:=[v]) (by kernel_rfl) ⟨h.one,trivial⟩ ?_
 simp only [cG]
 obtain ⟨a,cap,rfl,h1,h2,h3⟩:=h
 have hev:ak (.bin .eql .slice) [.slice a l.length cap,.slice none 0 0]=some (.bool a.isNone):=by cases a <;> rfl
 refine ab _ hev (aj (fun hn=>ah ?_) (fun hn=>fun r0=>?_))
 ·have hl:l=[]:=by
   by_cases hl:l=[]
   ·exact hl
   ·obtain ⟨ad,rfl,_⟩:=h3 hl;cases hn
  subst hl
  exact OSl.nil aD 2
 ·refine aH (rows:=[]) (news:=l) (O1:=[]) (O2:=[]) (e:=aD) (size:=2) (bytes:=16) (by kernel_rfl) (List.Perm.refl _) (.inl ⟨⟨_,rfl⟩,rfl,rfl⟩) (fun Hf hl _=>Sl.le hl ⟨a,cap,rfl,h1,h2,h3⟩) (by simp;omega) (by simp;omega) ?_
  intro v' O1' H' _ ho
  refine ah ?_
  rw [List.append_nil]
  exact ho
end Go.Proofs.YtdhobpmnkfmcfaaGreatDoor
namespace Go.Proofs.YtdhobpmnkfmcfaaGreatDoor
open Go Go.Sx
set_option maxRecDepth 100000
set_option maxHeartbeats 1000000
theorem RI {H:Heap} {v:Value} {l:List It} (h:ItsS H v l) (hB:Xg l):Triple PP zZ [v] H [] fun v' H' O'=>OItsS aD bg v' l O':=by
 obtain ⟨rows,hs,hrl,hit⟩:=h
 refine Ep (vs:=[v]) (by kernel_rfl) ⟨hs.one,trivial⟩ ?_
 simp only [tI]
 refine ax (Df hs (by have:=hB.1;omega)) fun v' H1 O1 ho l1=>⟨[v'],rfl,⟨ho.one,trivial⟩,?_⟩
 have hlen:=ho.len
 rw [hrl] at hlen
 refine ab _ hlen ?_
 refine aT l.length (fun i H' O'=>Heap.le H1 H'∧∃ rows' A Ts,O'.Perm (A++List.flatten Ts)∧OSl bg 5 v' rows' A∧rows'.length=l.length∧Ts.length=i ∧
  (∀ (j:Nat) (r:List Value) (x:It) (T:Own),rows'[j]?=some r→l[j]?=some x→Ts[j]?=some T→∃ s,r=[iV x.player,iV x.id,iV x.card,iV x.trig,s]∧OSl aD 2 s (x.tgs.map Tg.row) T)∧∀ j,i≤j→rows'[j]?=rows[j]?)
  ⟨Heap.le_refl _,rows,O1,[],by simp,ho,hrl,rfl,fun j r x T _ _ h=>by simp at h,fun _ _=>rfl⟩ ?_
 rintro i H' O' hi - ⟨hle,rows',A,Ts,hp,hA,hrl',htl,hspec,hrest⟩
 refine ab _ (aJ _ _) (aj (fun hb=>?_) (fun hb=>?_))
 ·have hlt:i < l.length:=by simpa using hb
  have hri:rows'[i]?=some rows[i]:=by rw [hrest i (Nat.le_refl _)];exact List.getElem?_eq_getElem (by omega)
  obtain ⟨s,hrow,hst⟩:=hit i rows[i] l[i] (List.getElem?_eq_getElem (by omega)) (List.getElem?_eq_getElem hlt)
  obtain ⟨a,k1,_,_,k3⟩:=hA.idx (fun p hp'=>hp.mem_iff.2 (List.mem_append_left _ hp')) H' (k:=.i64) hri
  have hr:=k3 4 1 (by omega)
  rw [hrow] at hr
  refine ab _ k1 (aC rfl (ar hr rfl ⟨hst.one,trivial⟩ ?_))
  refine ax (zy (hst.le (Heap.le_trans l1 hle)) (by have:=hB.2 _ (List.getElem_mem hlt);simp;omega)) fun s' H2 T hT l2=>⟨[s'],rfl,⟨hT.one,trivial⟩,?_⟩
  have hp2:(T++O').Perm (A++(T++List.flatten Ts)):=(hp.append_left T).trans (List.perm_append_comm_assoc _ _ _)
  obtain ⟨a2,j1,j2⟩:=hA.store hp2 (k:=.i64) hri
  obtain ⟨A',hst2,hA'⟩:=j2 4 [s'] (by simp) ⟨hT.one,trivial⟩
  refine ab _ j1 (aC rfl (aC rfl ⟨_,hst2,?_⟩))
  have hsp:cB rows[i] 4 [s']=[iV l[i].player,iV l[i].id,iV l[i].card,iV l[i].trig,s']:=by rw [hrow];rfl
  rw [hsp] at hA'
  refine ab _ (aE (by have:=hB.1;omega)) (aP (by simp [Eqs]) hlt ⟨Heap.le_trans hle l2,_,A',Ts++[T],?_,hA',by simp [hrl'],by simp [htl],?_,?_⟩)
  ·refine List.Perm.append_left A' ?_
   rw [List.flatten_append]
   simpa using List.perm_append_comm
  ·intro j r x T' h1 h2 h3
   by_cases hj:j=i
   ·subst hj
    rw [List.getElem?_set_self (by omega)] at h1
    rw [List.getElem?_eq_getElem hlt] at h2
    rw [List.getElem?_append_right (by omega),htl,Nat.sub_self] at h3
    simp only [Option.some.injEq,List.getElem?_cons_zero] at h1 h2 h3
    subst h1;subst h2;subst h3
    exact ⟨s',rfl,hT⟩
   ·rw [List.getElem?_set_ne (by omega)] at h1
    have hjlt:j < Ts.length:=by
     have:=(List.getElem?_eq_some_iff.1 h3).1
     simp at this;omega
    rw [List.getElem?_append_left hjlt] at h3
    exact hspec j r x T' h1 h2 h3
  ·intro j hj
   rw [List.getElem?_set_ne (by omega)]
   exact hrest j (by omega)
 ·have hie:i=l.length:=by
   have:¬ ((i:Int) < (l.length:Int)):=by simpa using hb
   omega
  subst hie
  exact ah ⟨rows',A,Ts,hp,hA,hrl',htl,hspec⟩
theorem OIts.one {te ti:TypeId} {v:Value} {l:List It} {O:Own} (h:OIts te ti v l O):v.oneCell'=true:=by
 obtain ⟨rows,A,Ts,_,h1,_⟩:=h;exact h1.one
theorem RU {H:Heap} {v:cP} {b:Bd} (h:BdS H v b) (hB:bdB b):Triple PP wO [.agg (ap v b).toArray] H [] fun r H' O'=>∃ w,r=.agg (ap w b).toArray∧OwnBS tys w b O':=by
 refine Gn (vs:=ap v b) (by kernel_rfl) (ao (h.r [])) ?_
 simp only [wo]
 obtain ⟨b1,⟨b2,b3,b4,b5⟩,⟨b6,b7,b8,b9⟩,b10,b11,b12,b13⟩:=hB
 have cl:∀ {l:List Int},l.length≤1000000→(aI l).length≤2 ^ 40:=fun h=>by rw [aI,List.length_map];omega
 refine af fun r0=>af fun r1=>?_
 refine aa (aa (aa ?_))
 refine ax (zz h.objs (by rw [List.length_map];omega)) fun xo H1 Oo po l1=>⟨_,rfl,⟨po.one,trivial⟩,?_⟩
 replace h:=h.le l1
 refine ax (fR h.att (cl b12)) fun xa H1 Oa pa l1=>⟨_,rfl,⟨pa.one,trivial⟩,?_⟩
 replace h:=h.le l1
 refine ax (Be h.blocks (by rw [List.length_map];omega)) fun xb H1 Obk pb l1=>⟨_,rfl,⟨pb.one,trivial⟩,?_⟩
 replace h:=h.le l1
 repeat (first | refine aa ?_ | refine ae ?_)
 refine ax (RI h.stack b10) fun xs H1 Os ps l1=>⟨_,rfl,⟨OItsS.one ps,trivial⟩,?_⟩
 replace h:=h.le l1
 refine ax (RI h.queue b11) fun xq H1 Oq pq l1=>⟨_,rfl,⟨OItsS.one pq,trivial⟩,?_⟩
 replace h:=h.le l1
 refine aa (aa ?_)
 refine ai (qw r0 1 _ _) rfl ⟨rfl,rfl,rfl,rfl,trivial⟩ fun H1 l1=>?_
 replace h:=h.le l1
 repeat (first | refine aa ?_ | refine ae ?_)
 refine ax (fR h.s0.lib (cl b2)) fun x1 H1 A0 p1 l1=>⟨_,rfl,⟨p1.one,trivial⟩,?_⟩
 replace h:=h.le l1
 refine aa (aa ?_)
 refine ax (fR h.s0.hand (cl b3)) fun x2 H1 B0 p2 l1=>⟨_,rfl,⟨p2.one,trivial⟩,?_⟩
 replace h:=h.le l1
 refine aa (aa ?_)
 refine ax (fR h.s0.field (cl b4)) fun x3 H1 C0 p3 l1=>⟨_,rfl,⟨p3.one,trivial⟩,?_⟩
 replace h:=h.le l1
 refine aa (aa ?_)
 refine ax (fR h.s0.grave (cl b5)) fun x4 H1 D0 p4 l1=>⟨_,rfl,⟨p4.one,trivial⟩,?_⟩
 replace h:=h.le l1
 refine aa ?_
 refine ai (qw r0 15 _ _) rfl ⟨rfl,rfl,rfl,rfl,trivial⟩ fun H1 l1=>?_
 replace h:=h.le l1
 repeat (first | refine aa ?_ | refine ae ?_)
 refine ax (fR h.s1.lib (cl b6)) fun x5 H1 A1 p5 l1=>⟨_,rfl,⟨p5.one,trivial⟩,?_⟩
 replace h:=h.le l1
 refine aa (aa ?_)
 refine ax (fR h.s1.hand (cl b7)) fun x6 H1 B1 p6 l1=>⟨_,rfl,⟨p6.one,trivial⟩,?_⟩
 replace h:=h.le l1
 refine aa (aa ?_)
 refine ax (fR h.s1.field (cl b8)) fun x7 H1 C1 p7 l1=>⟨_,rfl,⟨p7.one,trivial⟩,?_⟩
 replace h:=h.le l1
 refine aa (aa ?_)
 refine ax (fR h.s1.grave (cl b9)) fun x8 H1 D1 p8 l1=>⟨_,rfl,⟨p8.one,trivial⟩,?_⟩
 refine aa (aa (aa (aa ?_)))
 refine ah ⟨⟨xo,x1,x2,x3,x4,x5,x6,x7,x8,xs,xq,xa,xb⟩,rfl,Os,Oo++(A0++(B0++(C0++(D0++(A1++(B1++(C1++(D1++(Oq++(Oa++Obk)))))))))),?_,ps,fun v' l' A' h'=>⟨Oo,A0,B0,C0,D0,A1,B1,C1,D1,A',Oq,Oa,Obk,?_,⟨po,p1,p2,p3,p4,p5,p6,p7,p8,h',pq.weak,pa,pb⟩⟩⟩
 ·refine bb fun a _ _=>?_
  simp only [List.count_append,List.count_nil]
  omega
 ·refine bb fun a _ _=>?_
  simp only [List.count_append]
  omega
theorem KD {H:Heap} {v:cP} {b:Bd} (h:BdS H v b) (hB:bdB b):Triple PP wO [.agg (ap v b).toArray] H [] fun r H' O'=>∃ w,r=.agg (ap w b).toArray∧OwnB tys w b O' :=
 Triple.mono (RU h hB) fun _ _ _ _ ⟨w,e,h⟩=>⟨w,e,OwnBS.weak h⟩
end Go.Proofs.YtdhobpmnkfmcfaaGreatDoor
