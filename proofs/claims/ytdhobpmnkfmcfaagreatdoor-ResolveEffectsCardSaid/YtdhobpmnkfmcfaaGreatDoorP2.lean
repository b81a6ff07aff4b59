/- The least free id: in plain Lean. -/
import Derived.Test.YtdhobpmnkfmcfaaGreatDoorC51
import Derived.Test.YtdhobpmnkfmcfaaGreatDoorC32
import Derived.Test.YtdhobpmnkfmcfaaGreatDoorC21
namespace Go.Proofs.YtdhobpmnkfmcfaaGreatDoor
open Go Go.Sx
set_option maxRecDepth 100000
set_option maxHeartbeats 1000000
def GO:List Ob→Nat→Nat
 | [],m=>m
 | o::l,m=>if o.id=(m:Int) + 1 then GO l (m + 1) else m
def cz (b:Bd):Nat:=GO b.objs 0
theorem EC:∀ (l:List Ob) (m:Nat),(l.map (·.id)).Pairwise (· < ·)→(∀ o ∈ l,(m:Int) < o.id)→m≤GO l m∧GO l m≤m + l.length∧(∀ j,m≤j→j < GO l m→(l[j - m]?).map (·.id)=some ((j:Int) + 1))∧∀ o ∈ l,o.id ≠ (GO l m:Int) + 1
 | [],m,_,_=>⟨Nat.le_refl _,Nat.le_refl _,fun j h1 h2=>absurd h2 (by simp only [GO];omega),fun o ho=>by simp at ho⟩
 | o::l,m,hp,hm=>by
  rw [List.map_cons,List.pairwise_cons] at hp
  have hl:∀ x ∈ l,o.id < x.id:=fun x hx=>hp.1 _ (List.mem_map_of_mem hx)
  rw [GO]
  by_cases e:o.id=(m:Int) + 1
  ·rw [if_pos e]
   obtain ⟨h1,h2,h3,h4⟩:=EC l (m + 1) hp.2 fun x hx=>by have:=hl x hx;omega
   refine ⟨by omega,by rw [List.length_cons];omega,fun j hj1 hj2=>?_,fun x hx=>?_⟩
   ·rcases Nat.eq_or_lt_of_le hj1 with rfl | hlt
    ·rw [Nat.sub_self];show some o.id=_;rw [e]
    ·have:=h3 j hlt hj2
     rw [show j - m=(j - (m + 1)) + 1 by omega,List.getElem?_cons_succ]
     exact this
   ·rcases List.mem_cons.1 hx with rfl | hx
    ·omega
    ·exact h4 x hx
  ·rw [if_neg e]
   refine ⟨Nat.le_refl _,by omega,fun j hj1 hj2=>by omega,fun x hx=>?_⟩
   have h0:=hm o List.mem_cons_self
   rcases List.mem_cons.1 hx with rfl | hx
   ·exact e
   ·have:=hl x hx;omega
theorem qq {b:Bd} (h:ax b=true):cz b≤b.objs.length∧(∀ j,j < cz b→(b.objs[j]?).map (·.id)=some ((j:Int) + 1))∧∀ o ∈ b.objs,o.id ≠ (cz b:Int) + 1:=by
 obtain ⟨_,h2,h3,h4⟩:=EC b.objs 0 (lL (gQ (aW h).1).1) fun o ho=>by have:=((xj h).1 o ho).1;omega
 exact ⟨by simpa [cz] using h2,fun j hj=>h3 j (Nat.zero_le _) hj,h4⟩
def LT (l:List Ob) (m:Nat):Bool:=l.any fun o=>o.id == (m:Int) + 1
theorem LS {b:Bd} (h:ax b=true) {m:Nat} (h1:LT b.objs m=false) (h2:∀ j,j < m→LT b.objs j=true):m=cz b:=by
 obtain ⟨_,f2,f3⟩:=qq h
 have hno:∀ o ∈ b.objs,¬ o.id=(m:Int) + 1:=by simpa [LT] using h1
 rcases Nat.lt_trichotomy m (cz b) with hlt | e | hgt
 ·have:=f2 m hlt
  simp only [Option.map_eq_some_iff] at this
  obtain ⟨o,ho,he⟩:=this
  exact absurd he (hno o (List.mem_of_getElem? ho))
 ·exact e
 ·have:=h2 _ hgt
  simp only [LT,List.any_eq_true,beq_iff_eq] at this
  obtain ⟨o,ho,he⟩:=this
  exact absurd he (f3 o ho)
theorem LR {l:List Ob} {i:Nat} (h:i < l.length) (m:Nat):LT (l.take (i + 1)) m=(LT (l.take i) m || (l[i].id == (m:Int) + 1)):=by
 rw [LT,List.take_add_one,List.getElem?_eq_getElem h,Option.toList_some,List.any_append]
 simp [LT]
def QF (b:Bd) (m:Nat) (p pw tn:Int):Bd:=ss { b with objs:=b.objs.take m++[KL ((m:Int) + 1) p pw tn true]++b.objs.drop m } p 2 ((m:Int) + 1)
def AB (b:Bd) (p pw tn most:Int):Bd × Int × Int :=
 if (!ax b || !ar p 0 1)=true then (zBd,0,2) else if (b.objs.length:Int) ≥ most then (b,0,0) else if 500≤cz b then (b,0,0) else (QF b (cz b) p pw tn,(cz b:Int) + 1,0)
end Go.Proofs.YtdhobpmnkfmcfaaGreatDoor
namespace Go.Proofs.YtdhobpmnkfmcfaaGreatDoor
open Go Go.Sx
set_option maxRecDepth 100000
set_option maxHeartbeats 1000000
theorem Km {P:Program} {f:FuncId} {args:List Value} {H:Heap} {O O1 O2:Own} {frz:List BV} {shp:Shp} {K:List Value→List (List Value)→Heap→Own→Prop} {R:Value→Heap→Own→Prop}
  (hO:O.Perm (O1++O2)) (h:∀ Hf,Heap.le H Hf→(∀ b ∈ frz,Hf b.r=some b.obj.2)→Triple P f args Hf O1 R) (hk:∀ v H' O3,R v H' O3→Heap.le H H'→∃ vs,shp.open v=some vs∧Ones vs∧K vs [] H' (O3++O2)) :
  dT (fun H1 O1 R=>Triple P f args H1 O1 R) false frz [] shp K H O:=by
 intro hc
 have hf:=ip hc
 refine ⟨H.insAll frz,O1,O2,R,Ghost.perm hO,by simpa using h _ (Heap.le_insAll frz H) hf,?_⟩
 intro v H' O' hr hle
 obtain ⟨vs,h1,h2,h3⟩:=hk v H' O' hr (Heap.le_trans (Heap.le_insAll frz H) hle)
 exact ⟨vs,[],O',h1,h2,trivial,rfl,h3⟩
theorem NM {n:Int} (h1:1≤n) (h2:n≤500):∃ q r:Nat,r < 64∧64 * q + r < 500∧n=((64 * q + r:Nat):Int) + 1 :=
 ⟨(n - 1).toNat / 64,(n - 1).toNat % 64,by omega,by omega,by omega⟩
theorem Jy {ws:List Nat} {f g:Nat→Bool} (h:BitsOk ws f) (e:∀ m,f m=g m):BitsOk ws g:=by
 rwa [← (funext e:f=g)]
def SO (b:Bd) (p pw tn most:Int) (v:Value) (O':Own):Prop :=
 ∃ w OB X,O'.Perm (OB++X)∧v=.tuple #[.agg (ap w (AB b p pw tn most).1).toArray,iV (AB b p pw tn most).2.1,iV (AB b p pw tn most).2.2]∧OwnB tys w (AB b p pw tn most).1 OB
theorem Mx {H:Heap} (hgl:GlobOk CL H) {v:cX} {b:Bd} (h:BdS H v b) (hB:bdB b) {p pw tn most:Int} (h1:pw < 9223372036854775808) (h2:tn < 9223372036854775808) :
    Triple PP yO [.agg (ap v b).toArray,iV p,iV pw,iV tn,iV most] H [] fun r _ O'=>SO b p pw tn most r O':=by
  refine Cc (vs:=ap v b++[iV p,iV pw,iV tn,iV most]) (by kernel_rfl) (ay (ao (h.r [])) ⟨rfl,rfl,rfl,rfl,trivial⟩) ?_
  simp only [sk]
  refine af fun r0=>af fun r1=>?_
  refine aa ?_
  refine ai (dN (h.r [])) rfl ⟨rfl,trivial⟩ fun H1 l1=>ab _ (aM _) (aj (fun hb=>?_) (fun hb=>?_))
  · have e:AB b p pw tn most=(zBd,0,2):=by rw [AB,if_pos (by rw [show ax b=false from vp hb];rfl)]
    refine aa (aa ?_)
    exact ah ⟨zV,[],[],by simp,by rw [e];rfl,by rw [e];exact OwnB.zero tys⟩
  have hval:ax b=true:=qW hb
  refine ai (dj p 0 1 H1 []) rfl ⟨rfl,trivial⟩ fun H2 l2=>ab _ (aM _) (aj (fun hb=>?_) (fun hb=>?_))
  · have e:AB b p pw tn most=(zBd,0,2):=by rw [AB,if_pos (by rw [show ar p 0 1=false from vp hb];simp)]
    refine aa (aa ?_)
    exact ah ⟨zV,[],[],by simp,by rw [e];rfl,by rw [e];exact OwnB.zero tys⟩
  have hw:ar p 0 1=true:=qW hb
  have hcond:¬ ((!ax b || !ar p 0 1)=true):=by rw [hval,hw];simp
  have hp01:p=0∨p=1:=by simp only [ar,decide_eq_true_eq] at hw;omega
  have l12:=Heap.le_trans l1 l2
  refine aa ?_
  refine aw (Hj (h.le l12) hB) ?_
  rintro _ H3 OB ⟨w,rfl,ho⟩ l3
  refine ⟨ap w b,rfl,bo H3 ho,?_⟩
  rw [List.append_nil]
  have hlen:al .len [w.o]=some (iV b.objs.length):=by have:=(ho.r (fun p hp=>hp) H3).objs.len;rwa [List.length_map] at this
  have hol:=xi hval
  refine aa (aa ?_)
  refine ab _ hlen ?_
  refine ab _ (cZ _ _) (aj (fun hb=>?_) (fun hb=>?_))
  · have e:AB b p pw tn most=(b,0,0):=by rw [AB,if_neg hcond,if_pos (by simpa using hb)]
    refine aa (aa (aa ?_))
    exact ah ⟨w,OB,[],by simp,by rw [e];rfl,by rw [e];exact ho⟩
  have hmost:¬ ((b.objs.length:Int) ≥ most):=by simpa using hb
  refine aw NV ?_
  rintro _ H4 A0 ⟨pv,rfl,hA0⟩ l4
  have hpv:pv.oneCell'=true:=by obtain ⟨r,s,A,rfl,_⟩:=hA0;rfl
  refine ⟨[pv,iV 0],rfl,⟨hpv,rfl,trivial⟩,?_⟩
  refine aa ?_
  refine ab _ hlen ?_
  refine aS b.objs.length (fun i H' O'=>Heap.le H4 H'∧∃ A ws,O'.Perm (A++OB)∧Rm pv ws A∧BitsOk ws (LT (b.objs.take i))) ⟨Heap.le_refl _,A0,_,List.Perm.refl _,hA0,Jy N6 fun m=>by simp [LT]⟩ ?_
  rintro i H' O' hi - ⟨hle,A,ws,hperm,hA,hbits⟩
  have hR:BdR H' O' w b:=ho.r (fun p hp=>hperm.mem_iff.2 (List.mem_append_right _ hp)) H'
  refine ab _ (aI _ _) (aj (fun hb=>?_) (fun hb=>?_))
  · have hlt:i < b.objs.length:=by simpa using hb
    obtain ⟨a,i1,i2,_,i3,i4⟩:=hR.objs.idx .i64 i (Ob.row b.objs[i]) (by rw [List.getElem?_map,List.getElem?_eq_getElem hlt];rfl)
    obtain ⟨d1,d2⟩:=(xj hval).1 b.objs[i] (List.getElem_mem hlt)
    obtain ⟨q,rr,hr,h5,hid⟩:=NM d1 d2
    refine ab _ i1 (aq i2 i3 i4 ?_)
    refine af fun r2=>?_
    refine aa (aa ?_)
    have hcl:=Qp (H:=H') hA hbits.len hbits.lt hr h5
    rw [idV,← hid] at hcl
    refine yg (O1:=A) (O2:=OB) hperm hcl ?_
    rintro _ H5 A5 ⟨⟨e5,rfl⟩,hA5⟩ l5
    refine ⟨[iV e5],rfl,⟨rfl,trivial⟩,?_⟩
    refine ab _ (aD (by omega)) (aO (by simp [Eqs]) hlt ⟨Heap.le_trans hle l5,A5,_,List.Perm.refl _,hA5,Jy (hbits.claim (by omega) hr) fun m=>?_⟩)
    rw [LR hlt]
    congr 1
    rw [Bool.eq_iff_iff]
    simp only [beq_iff_eq]
    omega
  have hil:i=b.objs.length:=by have:¬ i < b.objs.length:=by simpa using hb
                                     omega
  subst hil
  rw [List.take_length] at hbits
  have hle4:Heap.le H H':=Heap.le_trans l12 (Heap.le_trans l3 (Heap.le_trans l4 hle))
  refine yg (O1:=A) (O2:=OB) hperm (Rb (hgl.le hle4) hA hbits) ?_
  rintro tv H6 X htv l6
  rcases htv with ⟨m,hm5,hmf,hmb,rfl⟩ | ⟨hall,rfl⟩
  · obtain rfl:=LS hval hmf hmb
    have e:AB b p pw tn most=(QF b (cz b) p pw tn,(cz b:Int) + 1,0):=by rw [AB,if_neg hcond,if_neg hmost,if_neg (by omega)]
    have hfl:=(qq hval).1
    refine ⟨[iV ((cz b:Int) + 1),iV 0],rfl,⟨rfl,rfl,trivial⟩,?_⟩
    refine ab _ (bd _ _) (aj (fun hb=>by cases hb) (fun _=>?_))
    refine ai (DV h1 h2) rfl (vs:=(KL ((cz b:Int) + 1) p pw tn false).row) (bA _) fun H7 l7=>?_
    refine af fun r3=>?_
    refine aa (aa (aa ?_))
    refine ab (iV (cz b:Int)) (by rw [show (iV (cz b:Int))=iV ((cz b:Int) + 1 - 1) by congr 1;omega];exact EX (by omega) (by omega)) ?_
    refine aa ?_
    refine af fun r4=>?_
    obtain ⟨Ao,Ro,po,hAo,backo⟩:=OwnB.pick_objs ho
    refine Km (O1:=Ao) (O2:=Ro++X) (by
      refine List.perm_append_comm.trans ?_
      rw [← List.append_assoc]
      exact po.append_right X) (fun Hf lf hf=>N1 (k:=cz b) (row:=(KL ((cz b:Int) + 1) p pw tn true).row) hAo (by rw [List.length_map];exact hfl) (by rw [List.length_map];exact hol) rfl (bA _) (hf _ List.mem_cons_self)) ?_
    rintro v' H8 _ ⟨A8,X8,rfl,hA8⟩ l8
    refine ⟨[v'],rfl,⟨hA8.one,trivial⟩,?_⟩
    have hA9:OSl tys.ob 12 v' (List.map Ob.row (b.objs.take (cz b)++[KL ((cz b:Int) + 1) p pw tn true]++b.objs.drop (cz b))) A8:=by
      rw [List.map_append,List.map_append,List.map_take,List.map_drop]
      exact hA8
    have ho2:=backo _ _ _ hA9
    obtain ⟨_,⟨_,_,bf0,_⟩,⟨_,_,bf1,_⟩,_⟩:=hB
    rcases hp01 with rfl | rfl
    · refine aa ?_
      refine ⟨.i64,0,rfl,fun _=>?_,fun e=>absurd rfl e⟩
      refine aa ?_
      refine af fun r5=>?_
      obtain ⟨A,R,hp,hA,back⟩:=OwnB.pick_f0 ho2
      refine aG (rows:=aH b.s0.field) (news:=[[iV ((cz b:Int) + 1)]]) (O1:=A) (O2:=R++(X8++X)) (e:=aN) (size:=1) (bytes:=8) (by kernel_rfl) (by
        have:(A8++X8++(Ro++X)).Perm (A8++Ro++(X8++X)):=by
          rw [List.append_assoc,List.append_assoc]
          exact (List.perm_append_comm_assoc X8 Ro X).append_left A8
        refine this.trans ?_
        rw [← List.append_assoc A R]
        exact hp.append_right _) hA (fun Hf _ hf=>Sl.block1 (hf _ List.mem_cons_self) rfl ⟨rfl,trivial⟩) (by simp [aH];omega) (by simp [aH];omega) ?_
      intro v2 A2 H9 l9 hA2
      have hA3:OSl aN 1 v2 (aH (b.s0.field++[(cz b:Int) + 1])) A2:=by rw [aH,List.map_append];exact hA2
      have hfin:=back _ _ _ hA3
      refine ⟨.i64,0,rfl,fun _=>?_,fun e=>absurd rfl e⟩
      refine aa (aa (aa (aa ?_)))
      refine ah ⟨{ w with o:=v',f0:=v2 },A2++R,X8++X,by rw [List.append_assoc],?_,?_⟩
      · rw [e];rfl
      · rw [e];exact hfin
    · refine aa ?_
      refine ⟨.i64,1,rfl,fun e=>absurd e (by omega),fun _=>⟨.i64,1,rfl,fun _=>?_,fun e=>absurd rfl e⟩⟩
      refine aa ?_
      refine af fun r5=>?_
      obtain ⟨A,R,hp,hA,back⟩:=OwnB.pick_f1 ho2
      refine aG (rows:=aH b.s1.field) (news:=[[iV ((cz b:Int) + 1)]]) (O1:=A) (O2:=R++(X8++X)) (e:=aN) (size:=1) (bytes:=8) (by kernel_rfl) (by
        have:(A8++X8++(Ro++X)).Perm (A8++Ro++(X8++X)):=by
          rw [List.append_assoc,List.append_assoc]
          exact (List.perm_append_comm_assoc X8 Ro X).append_left A8
        refine this.trans ?_
        rw [← List.append_assoc A R]
        exact hp.append_right _) hA (fun Hf _ hf=>Sl.block1 (hf _ List.mem_cons_self) rfl ⟨rfl,trivial⟩) (by simp [aH];omega) (by simp [aH];omega) ?_
      intro v2 A2 H9 l9 hA2
      have hA3:OSl aN 1 v2 (aH (b.s1.field++[(cz b:Int) + 1])) A2:=by rw [aH,List.map_append];exact hA2
      have hfin:=back _ _ _ hA3
      refine ⟨.i64,1,rfl,fun e=>absurd e (by omega),fun _=>⟨.i64,1,rfl,fun _=>?_,fun e=>absurd rfl e⟩⟩
      refine aa (aa (aa (aa ?_)))
      refine ah ⟨{ w with o:=v',f1:=v2 },A2++R,X8++X,by rw [List.append_assoc],?_,?_⟩
      · rw [e];rfl
      · rw [e];exact hfin
  · have hge:500≤cz b:=by
      refine Nat.le_of_not_lt fun hlt=>?_
      have h3:=hall _ hlt
      simp only [LT,List.any_eq_true,beq_iff_eq] at h3
      obtain ⟨o,ho',he⟩:=h3
      exact (qq hval).2.2 o ho' he
    have e:AB b p pw tn most=(b,0,0):=by rw [AB,if_neg hcond,if_neg hmost,if_pos hge]
    refine ⟨[iV 0,iV 7],rfl,⟨rfl,rfl,trivial⟩,?_⟩
    refine ab _ (bd _ _) (aj (fun _=>?_) (fun hb=>by cases hb))
    refine aa (aa (aa ?_))
    exact ah ⟨w,OB,X,List.perm_append_comm,by rw [e];rfl,by rw [e];exact ho⟩
end Go.Proofs.YtdhobpmnkfmcfaaGreatDoor
namespace Go.Proofs.YtdhobpmnkfmcfaaGreatDoor
open Go Go.Sx
set_option maxRecDepth 100000
set_option maxHeartbeats 1000000
def OL (l:List Int) (e:Eff):Bool:=((l.contains e.target && e.n == 0) && e.m == 0) && e.colour == 0
def inR (n lo hi:Int):Bool:=decide (n ≥ lo) && max 0 (min n hi) == n
def NQ (l:List Int) (most:Int) (e:Eff):Bool:=inR e.n 1 most && OL l { e with n:=0 }
def NP (l:List Int) (NI:Int) (e:Eff):Bool:=((inR e.n 0 9 && inR e.m NI 9) && decide (e.n + e.m > 0)) && OL l { e with n:=0,m:=0 }
def OK (l:List Int) (most:Int) (e:Eff):Bool:=inR e.colour 0 3 && NQ l most { e with colour:=0 }
inductive Rl where
 | no
 | bare (l:List Int)
 | cnt (l:List Int) (m:Int)
 | par (l:List Int) (m:Int)
 | col (l:List Int) (m:Int)
def vP (c:Int):Rl :=
 if c=1 then .cnt [1,2,3,4,5] 99 else if c=2 then .cnt [0,4] 7 else if c=3∨c=4 then .cnt [0,4] 99
 else if c=5∨c=6∨c=11 then .bare [1,2,3] else if c=7 then .bare [6] else if c=8 then .par [1,2,3,0] 0
 else if c=9 then .cnt [1,2,3,0] 9 else if c=10 then .par [0] 1 else if c=12 then .col [0] 9 else .no
def Rl.fits:Rl→Eff→Bool
 | .no,_=>false
 | .bare l,e=>OL l e
 | .cnt l m,e=>NQ l m e
 | .par l m,e=>NP l m e
 | .col l m,e=>OK l m e
def EG (e:Eff):Bool:=(vP e.code).fits e
def oA (a b:Int):Int:=min 99 (max 0 a + max 0 b)
def ck (n most:Int):Int:=max 0 (min n most)
def PS (cs:List CdX):List Int:=CG (cs.map CdX.base)
def onB (cs:List CdX) (b:Bd) (id:Int):Bool:=bc b id == 0 && (eo (PS cs) (dl b id) && (au b (dl b id).owner).field.contains id)
def de (b:Bd) (id:Int) (f:Ob→Ob):Bd:=if (DH b (f (dl b id))).2=0 then (DH b (f (dl b id))).1 else b
def nM (b:Bd) (p x:Int):Bd:=bO b p { au b p with life:=x }
def fX (s:St) (c n:Int):St:=if c=0 then { s with p0:=ck (s.p0 + n) 99 } else if c=1 then { s with p1:=ck (s.p1 + n) 99 } else if c=2 then { s with p2:=ck (s.p2 + n) 99 } else { s with p3:=ck (s.p3 + n) 99 }
def tG (e:Eff) (o:Ob):Ob :=
 if e.code=5 then { o with doom:=true } else if e.code=11 then { o with tap:=true }
 else if e.code=8 then { o with pp:=oA o.pp e.n,pt:=oA o.pt e.m } else if e.code=9 then { o with cnt:=oA o.cnt e.n } else o
def aL (cs:List CdX) (b:Bd) (p who id:Int) (e:Eff) (most:Int):Bd :=
 if e.code=1 then (if id > 0 then de b id fun o=>{ o with dmg:=oA o.dmg e.n } else nM b who (ck ((au b who).life - e.n) 9999))
 else if e.code=2 then (tc b who e.n).1
 else if e.code=3 then nM b who (ck ((au b who).life + e.n) 9999)
 else if e.code=4 then nM b who (ck ((au b who).life - e.n) 9999)
 else if e.code=6 then (fL b id 1).1
 else if e.code=7 then (bK b id).1
 else if e.code=10 then (AB b p e.n e.m most).1
 else if e.code=12 then bO b who (fX (au b who) e.colour e.n)
 else if onB cs b id=true then de b id (tG e) else b
def FN (p:Int) (e:Eff) (t:Tg):Int:=if e.target=0 then p else t.player
def idE (src:Int) (e:Eff) (t:Tg):Int:=if e.target=0 then src else t.id
def OV (cs:List CdX) (b:Bd) (p:Int) (e:Eff) (t:Tg):Prop:=e.target ≠ 0∧ut (cs.map CdX.base) b p e.target t=false
instance (cs:List CdX) (b:Bd) (p:Int) (e:Eff) (t:Tg):Decidable (OV cs b p e t):=by unfold OV;infer_instance
def wK (cs:List CdX) (b:Bd) (p src:Int) (e:Eff) (t:Tg) (most:Int):Bd :=
 if OV cs b p e t then b else aL cs b p (FN p e t) (idE src e t) e most
end Go.Proofs.YtdhobpmnkfmcfaaGreatDoor
namespace Go.Sx
open Go
def Heap.insO (H:Heap) (O:Own):Heap:=⟨fun b=>match H b with
 | some x=>some x
 | none=>(O.find? fun p=>p.1 == b).map (·.2),H.env⟩
def Heap.minus (H:Heap) (O:Own):Heap:=⟨fun b=>if O.any (fun p=>p.1 == b) then none else H b,H.env⟩
theorem LQ (H:Heap) (O:Own):Heap.le H (H.insO O):=⟨fun b o h=>by simp only [Heap.insO];rw [h],rfl⟩
theorem Jk:∀ {O:Own},(O.map (·.1)).Nodup→∀ {p:Nat × Obj},p ∈ O→(O.find? fun q=>q.1 == p.1)=some p
 | [],_,p,h=>by simp at h
 | a::O,hn,p,h=>by
  simp only [List.map_cons,List.nodup_cons] at hn
  rw [List.find?_cons]
  by_cases e:a.1=p.1
  ·rcases List.mem_cons.1 h with rfl | hm
   ·simp
   ·exact absurd (e ▸ List.mem_map_of_mem hm) hn.1
  ·have:(a.1 == p.1)=false:=by simpa using e
   rw [this]
   rcases List.mem_cons.1 h with rfl | hm
   ·exact absurd rfl e
   ·exact Jk hn.2 hm
theorem NJ {H:Heap} {O:Own} (hc:Cons H O) {p:Nat × Obj} (hp:p ∈ O):H.insO O p.1=some p.2:=by
 simp only [Heap.insO]
 rw [hc.none hp]
 simp only []
 rw [Jk hc.nodup hp];rfl
theorem HW {w:World} {H:Heap} {O F:Own} (h:Models w H (O++F)):Models w (H.insO O) F:=by
 have hc:Cons H O:=⟨w,F,h⟩
 have hn:=h.nodup
 rw [List.map_append,List.nodup_append] at hn
 refine ⟨fun b x hb=>?_,fun p hp=>?_,hn.2.1,h.env⟩
 ·simp only [Heap.insO] at hb
  split at hb
  ·rename_i y hy;cases hb;exact h.pers b _ hy
  ·obtain ⟨q,hq,rfl⟩:=Option.map_eq_some_iff.1 hb
   have e:q.1=b:=by simpa using List.find?_some hq
   rw [← e]
   exact (h.own q (List.mem_append_left _ (List.mem_of_find?_eq_some hq))).1
 ·obtain ⟨h1,h2⟩:=h.own p (List.mem_append_right _ hp)
  refine ⟨h1,?_⟩
  simp only [Heap.insO]
  rw [h2]
  simp only []
  cases hf:O.find? fun q=>q.1 == p.1 with
  | none=>rfl
  | some q =>
   exfalso
   have e:q.1=p.1:=by simpa using List.find?_some hf
   exact hn.2.2 q.1 (List.mem_map_of_mem (List.mem_of_find?_eq_some hf)) p.1 (List.mem_map_of_mem hp) e
theorem NK {H H':Heap} {O:Own} (hc:Cons H O) (hg:Ghost H O H' []):Heap.le H' (H.insO O):=by
 obtain ⟨w,F,hm⟩:=hc
 obtain ⟨hm',hle⟩:=hg w F hm
 have hm':Models w H' F:=by simpa using hm'
 refine ⟨fun b o hb=>?_,hle.2.symm⟩
 simp only [Heap.insO]
 cases hH:H b with
 | some x =>
  have:=hle.1 b x hH
  rw [hb] at this
  simp only []
  exact this.symm
 | none =>
  simp only []
  have hw:=hm'.pers b o hb
  cases hf:O.find? fun q=>q.1 == b with
  | some q =>
   have e:q.1=b:=by simpa using List.find?_some hf
   have h1:=(hm.own q (List.mem_append_left _ (List.mem_of_find?_eq_some hf))).1
   rw [e,hw] at h1
   rw [Option.map_some,Option.some.inj h1]
  | none =>
   exfalso
   obtain ⟨o',ho'⟩:∃ o':Obj,o' ≠ o:=by
    by_cases h:(Obj.cells #[] 0 (0,0))=o
    ·exact ⟨Obj.cells #[] 1 (0,0),fun e=>by rw [← h] at e;cases e⟩
    ·exact ⟨_,h⟩
   have hlt:b < w.heap.size:=by
    rcases Nat.lt_or_ge b w.heap.size with h | h
    ·exact h
    ·simp [Array.getElem?_eq_none h] at hw
   have hO:∀ p ∈ O,p.1 ≠ b:=fun p hp e=>by
    have:=List.find?_eq_none.1 hf p hp
    simp [e] at this
   have hF:∀ p ∈ F,p.1 ≠ b:=fun p hp e=>by
    have:=(hm'.own p hp).2
    rw [e,hb] at this
    cases this
   have hset:∀ c,c ≠ b→(w.heap.set b o' hlt)[c]?=w.heap[c]?:=fun c hne=>by
    rw [Array.getElem?_set]
    rw [if_neg (fun h=>hne h.symm)]
   have hm2:Models { w with heap:=w.heap.set b o' hlt } H (O++F):=by
    refine ⟨fun c x hcx=>?_,fun p hp=>?_,hm.nodup,hm.env⟩
    ·have hne:c ≠ b:=fun e=>by rw [e,hH] at hcx;cases hcx
     show (w.heap.set b o' hlt)[c]?=some x
     rw [hset c hne];exact hm.pers c x hcx
    ·have hne:p.1 ≠ b:=by
      rcases List.mem_append.1 hp with h | h
      ·exact hO p h
      ·exact hF p h
     obtain ⟨h1,h2⟩:=hm.own p hp
     refine ⟨?_,h2⟩
     show (w.heap.set b o' hlt)[p.1]?=some p.2
     rw [hset _ hne];exact h1
   have h3:=(hg _ F hm2).1.pers b o hb
   have h4:(w.heap.set b o' hlt)[b]?=some o':=by simp
   have h5:(w.heap.set b o' hlt)[b]?=some o:=h3
   rw [h4] at h5
   exact ho' (Option.some.inj h5)
theorem RetO.thaw {P:Program} {f:FuncId} {args:List Value} {H:Heap} {O:Own} {r:Value} {S:Heap→Prop} (hS:∀ H H',Heap.le H H'→S H→S H') (hf:Cons H O→∃ H',Ghost H O H' []∧S H')
  (h:∀ Hf,Heap.le H Hf→S Hf→RetO P f args Hf [] r):RetO P f args H O r:=by
 intro w F hm
 have hc:Cons H O:=⟨w,F,hm⟩
 obtain ⟨H',g,s⟩:=hf hc
 have s2:=hS _ _ (NK hc g) s
 refine (h (H.insO O) (LQ H O) s2 w F (by simpa using HW hm)).mono ?_
 rintro e w' ⟨v,H1,O1,rfl,⟨rfl,rfl⟩,hle,hm'⟩
 have hm':Models w' H1 F:=by simpa using hm'
 have hno:∀ b o,H b=some o→O.any (fun p=>p.1 == b)=false:=fun b o hb=>by
  rw [List.any_eq_false]
  intro p hp e
  have e:p.1=b:=by simpa using e
  have:=hc.none hp
  rw [e,hb] at this
  cases this
 refine ⟨_,H1.minus O,O,rfl,⟨rfl,rfl⟩,⟨fun b o hb=>?_,?_⟩,⟨fun b o hb=>?_,fun p hp=>?_,hm.nodup,hm'.env⟩⟩
 ·simp only [Heap.minus]
  rw [hno b o hb]
  exact hle.1 b o ((LQ H O).1 b o hb)
 ·exact hle.2
 ·simp only [Heap.minus] at hb
  split at hb
  ·cases hb
  ·exact hm'.pers b o hb
 ·rcases List.mem_append.1 hp with hp | hp
  ·refine ⟨hm'.pers _ _ (hle.1 _ _ (NJ hc hp)),?_⟩
   simp only [Heap.minus]
   rw [if_pos (List.any_eq_true.2 ⟨p,hp,by simp⟩)]
  ·obtain ⟨h1,h2⟩:=hm'.own p hp
   refine ⟨h1,?_⟩
   simp only [Heap.minus]
   split
   ·rfl
   ·exact h2
theorem OwnB.thaw {P:Program} {f:FuncId} {args:List Value} {H:Heap} {O:Own} {r:Value} {t:Tys} {w:cX} {b:Bd} (ho:OwnB t w b O) (h:∀ Hf,Heap.le H Hf→BdS Hf w b→RetO P f args Hf [] r):RetO P f args H O r :=
 RetO.thaw (S:=fun Hf=>BdS Hf w b) (fun _ _ hl h=>h.le hl) (fun hc=>by
  obtain ⟨H',g,k,_⟩:=ho.freeze (X:=[]) (by simpa using hc)
  exact ⟨H',by simpa using g,k⟩) h
end Go.Sx
namespace Go.Proofs.YtdhobpmnkfmcfaaGreatDoor
open Go Go.Sx
set_option maxRecDepth 100000
set_option maxHeartbeats 1000000
theorem mf {P:Program} {t ty e:TypeId} {size:Nat} (ha:Hn P t e size=true) {ad:Addr} {rows news:List (List Value)} {x:Value} {H:Heap} {O:Own} {frz:List BV} {K:List Value→List (List Value)→Heap→Own→Prop}
  (hr:Sl H size (.slice (some ad) rows.length rows.length) rows) (hx:∀ Hf,Heap.le H Hf→(∀ b ∈ frz,Hf b.r=some b.obj.2)→Sl Hf size x news)
  (hb:(rows.length + news.length) * kj P e≤140737488355328) (h63:rows.length + news.length < 2 ^ 63) (hk:∀ v' H',Heap.le H H'→Sl H' size v' (rows++news)→K [v'] [] H' O) :
  dT (fun H1 O1 R=>bZ P ((PrimOp.bi .append #[t,t] ty).sem [.slice (some ad) rows.length rows.length,x]) H1 O1 R) false frz [] .one K H O:=by
 intro hc
 have hf:=ip hc
 have hl:=Heap.le_insAll frz H
 refine ⟨H.insAll frz,[],O,_,Ghost.refl _ _,by simpa using EQ (ty:=ty) ha (hr.le hl) (hx _ hl hf) hb h63,?_⟩
 rintro v' H' O' ⟨rfl,hle,hs⟩ _
 exact ⟨[v'],[],[],rfl,⟨hs.one,trivial⟩,trivial,rfl,hk v' H' (Heap.le_trans hl hle) hs⟩
theorem nx {P:Program} {t:TypeId} {d:TypeDesc} (hu:P.underlying t=some d) (hni:∀ m,d ≠ .interface m) {b:Bool} {args:List Value} {x:Value} (hx:(b=true∧x=.agg args.toArray)∨(b=false∧args=[x])) {frz:List BV} {H:Heap} {O:Own}
  {K:List Value→List (List Value)→Heap→Own→Prop} (hk:∀ H',Heap.le H H'→(∀ b ∈ frz,H' b.r=some b.obj.2)→K [.iface t x] [] H' O) :
  dT (fun H1 O1 R=>bZ P ((PrimOp.mkIface t b).sem args) H1 O1 R) false frz [] .one K H O:=by
 intro hc
 have hf:=ip hc
 have hl:=Heap.le_insAll frz H
 have hrun:∀ w,((PrimOp.mkIface t b).sem args).run P w=.ok (.value (.iface t x)) w:=fun w=>by
  rcases hx with ⟨rfl,rfl⟩ | ⟨rfl,rfl⟩
  ·simp only [PrimOp.sem,Instr.makeInterface,Sem.run_bind,aJ hu,Result.andThen_ok]
   cases d <;> first | rfl | exact absurd rfl (hni _)
  ·simp only [PrimOp.sem,Instr.makeInterface,Sem.run_bind,aJ hu,Result.andThen_ok]
   cases d <;> first | rfl | exact absurd rfl (hni _)
 refine ⟨H.insAll frz,[],O,fun v H' O'=>v=.iface t x∧H'=H.insAll frz∧O'=[],Ghost.refl _ _,fun w F hm=>⟨_,w,H.insAll frz,[],hrun w,⟨rfl,rfl,rfl⟩,Heap.le_refl _,by simpa using hm⟩,?_⟩
 rintro v' H' O' ⟨rfl,rfl,rfl⟩ _
 exact ⟨[_],[],[],rfl,⟨rfl,trivial⟩,trivial,rfl,hk _ hl hf⟩
theorem Ir (r:Nat) (H:Heap):Ret PP dh [.slice (some ⟨r,0,none⟩) 3 3] H (.slice (some ⟨r,0,none⟩) 3 3):=by
 refine fJ (vs:=[.slice (some ⟨r,0,none⟩) 3 3]) (by kernel_rfl) ⟨rfl,trivial⟩ ?_
 simp only [bM]
 exact ab (iV 3) rfl (ab (iV 3) rfl (ab (.slice (some ⟨r,0,none⟩) 3 3) rfl (ah ⟨rfl,rfl⟩)))
def Rk (H:Heap):Rl→Value→Prop
 | .no,r=>r=.nilIface
 | .bare l,r=>∃ s,r=.iface 151 s∧Sl H 1 s (aH l)
 | .cnt l m,r=>∃ s,r=.iface 154 (.agg #[s,iV m])∧Sl H 1 s (aH l)
 | .par l m,r=>∃ s,r=.iface 156 (.agg #[s,iV m])∧Sl H 1 s (aH l)
 | .col l m,r=>∃ s,r=.iface 158 (.agg #[s,iV m])∧Sl H 1 s (aH l)
def OfQ (c:Int) (r:Value) (H':Heap) (O':Own):Prop:=Rk H' (vP c) r∧O'=[]
theorem Rx {H:Heap} {r:Nat} {T:TypeId} (h:H r=some (.cells [iV 1,iV 2,iV 3].toArray T (0,0))):Sl H 1 (.slice (some ⟨r,0,none⟩) 3 3) (aH [1,2,3]):=Sl.block h ⟨rfl,rfl,rfl,trivial⟩ rfl (by decide)
theorem Sa {H:Heap} {r:Nat} {T:TypeId} {a b:Int} (h:H r=some (.cells [iV a,iV b].toArray T (0,0))):Sl H 1 (.slice (some ⟨r,0,none⟩) 2 2) (aH [a,b]):=Sl.block h ⟨rfl,rfl,trivial⟩ rfl (by decide)
theorem Rg {H:Heap} {r:Nat} {T:TypeId} {a:Int} (h:H r=some (.cells [iV a].toArray T (0,0))):Sl H 1 (.slice (some ⟨r,0,none⟩) 1 1) (aH [a]):=Sl.block h ⟨rfl,trivial⟩ rfl (by decide)
def Nw:Option TypeDesc→Bool
 | none=>false
 | some (.interface _)=>false
 | some _=>true
theorem na {o:Option TypeDesc} (h:Nw o=true):∃ d,o=some d∧∀ m,d ≠ .interface m:=by
 cases o with
 | none=>cases h
 | some d=>exact ⟨d,rfl,fun m e=>by rw [e] at h;cases h⟩
theorem Sb:∃ d,PP.underlying 151=some d∧∀ m,d ≠ .interface m:=na (by kernel_rfl)
theorem So:∃ d,PP.underlying 154=some d∧∀ m,d ≠ .interface m:=na (by kernel_rfl)
theorem SE:∃ d,PP.underlying 156=some d∧∀ m,d ≠ .interface m:=na (by kernel_rfl)
theorem SI:∃ d,PP.underlying 158=some d∧∀ m,d ≠ .interface m:=na (by kernel_rfl)
theorem RM {c:Int} {k:Bool} {r2 r0:Nat} {H:Heap} (h1:k=true→c=5∨c=6∨c=11) (h2:k=false→¬ (c=1∨c=2∨c=3∨c=4∨c=5∨c=6∨c=11)):(kG (.bool k) r2 [iV c] r0).den PP (OfQ c) H []:=by
 simp only [kG]
 obtain ⟨d1,u1,n1⟩:=Sb
 obtain ⟨d3,u3,n3⟩:=SE
 obtain ⟨d4,u4,n4⟩:=SI
 refine aj (fun hk=>?_) (fun hk=>?_)
 ·refine nx u1 n1 (.inr ⟨rfl,rfl⟩) fun H1 l1 hf=>?_
  refine ah ⟨?_,rfl⟩
  rw [vP,if_neg (by have:=h1 hk;omega),if_neg (by have:=h1 hk;omega),if_neg (by have:=h1 hk;omega),if_pos (h1 hk)]
  exact ⟨_,rfl,Rx (hf _ List.mem_cons_self)⟩
 have hn:=h2 hk
 refine ab _ (az _ _) (aj (fun h=>?_) (fun h=>?_))
 ·have h:c=7:=by simpa using h
  subst h
  refine af fun r4=>?_
  refine nx u1 n1 (.inr ⟨rfl,rfl⟩) fun H1 l1 hf=>?_
  exact ah ⟨⟨_,rfl,Rg (hf _ List.mem_cons_self)⟩,rfl⟩
 have n7:c ≠ 7:=by simpa using h
 refine ab _ (az _ _) (aj (fun h=>?_) (fun h=>?_))
 ·have h:c=8:=by simpa using h
  subst h
  refine De _ (fun Hf _ _=>Ir r2 Hf) rfl ⟨rfl,trivial⟩ fun H1 l1 hf=>?_
  refine af fun r5=>?_
  refine mf (ad:=⟨r2,0,none⟩) (rows:=aH [1,2,3]) (news:=aH [0]) (size:=1) (e:=36) (by kernel_rfl) (Rx (hf _ List.mem_cons_self)) (fun Hf _ hf2=>Rg (hf2 _ List.mem_cons_self)) (by rw [show kj PP 36=8 by kernel_rfl];decide) (by decide) fun v' H2 l2 hs=>?_
  exact ah ⟨⟨_,rfl,hs⟩,rfl⟩
 have n8:c ≠ 8:=by simpa using h
 refine ab _ (az _ _) (aj (fun h=>?_) (fun h=>?_))
 ·have h:c=9:=by simpa using h
  subst h
  refine De _ (fun Hf _ _=>Ir r2 Hf) rfl ⟨rfl,trivial⟩ fun H1 l1 hf=>?_
  refine af fun r5=>?_
  refine mf (ad:=⟨r2,0,none⟩) (rows:=aH [1,2,3]) (news:=aH [0]) (size:=1) (e:=36) (by kernel_rfl) (Rx (hf _ List.mem_cons_self)) (fun Hf _ hf2=>Rg (hf2 _ List.mem_cons_self)) (by rw [show kj PP 36=8 by kernel_rfl];decide) (by decide) fun v' H2 l2 hs=>?_
  exact ah ⟨⟨_,rfl,hs⟩,rfl⟩
 have n9:c ≠ 9:=by simpa using h
 refine ab _ (az _ _) (aj (fun h=>?_) (fun h=>?_))
 ·have h:c=10:=by simpa using h
  subst h
  refine nx u3 n3 (.inl ⟨rfl,rfl⟩) fun H1 l1 hf=>?_
  exact ah ⟨⟨_,rfl,Rg (hf _ List.mem_cons_self)⟩,rfl⟩
 have n10:c ≠ 10:=by simpa using h
 refine ab _ (az _ _) (aj (fun h=>?_) (fun h=>?_))
 ·have h:c=12:=by simpa using h
  subst h
  refine nx u4 n4 (.inl ⟨rfl,rfl⟩) fun H1 l1 hf=>?_
  exact ah ⟨⟨_,rfl,Rg (hf _ List.mem_cons_self)⟩,rfl⟩
 have n12:c ≠ 12:=by simpa using h
 refine ah ⟨?_,rfl⟩
 rw [vP,if_neg (by omega),if_neg (by omega),if_neg (by omega),if_neg (by omega),if_neg n7,if_neg n8,if_neg n9,if_neg n10,if_neg n12]
 rfl
theorem Sn {c:Int} {k:Bool} {r1 r2 r0:Nat} {H:Heap} (h1:k=true→c=3∨c=4) (h2:k=false→¬ (c=1∨c=2∨c=3∨c=4)):(nq (.bool k) r1 [iV c] r2 r0).den PP (OfQ c) H []:=by
  simp only [nq]
  obtain ⟨d2,u2,n2⟩:=So
  refine aj (fun hk=>?_) (fun hk=>?_)
  · refine nx u2 n2 (.inl ⟨rfl,rfl⟩) fun H1 l1 hf=>?_
    refine ah ⟨?_,rfl⟩
    rw [vP,if_neg (by have:=h1 hk;omega),if_neg (by have:=h1 hk;omega),if_pos (h1 hk)]
    exact ⟨_,rfl,Sa (hf _ List.mem_cons_self)⟩
  have hn:=h2 hk
  refine ab _ (az _ _) (aj (fun h=>?_) (fun h=>?_))
  · have h':c=5:=by simpa using h
    exact RM (fun _=>.inl h') (fun e=>by rw [h] at e;cases e)
  have n5:c ≠ 5:=by simpa using h
  refine ab _ (az _ _) (aj (fun h=>?_) (fun h=>?_))
  · have h':c=6:=by simpa using h
    exact RM (fun _=>.inr (.inl h')) (fun e=>by rw [h] at e;cases e)
  have n6:c ≠ 6:=by simpa using h
  refine ab _ (az _ _) ?_
  exact RM (fun e=>.inr (.inr (by simpa using e))) (fun e=>by have:c ≠ 11:=by simpa using e
                                                                    omega)
theorem SL (c:Int) (H:Heap):Triple PP DC [iV c] H [] (OfQ c):=by
  refine E7 (vs:=[iV c]) (by kernel_rfl) ⟨rfl,trivial⟩ ?_
  simp only [w7]
  obtain ⟨d2,u2,n2⟩:=So
  refine af fun r0=>af fun r1=>af fun r2=>?_
  refine ab _ (az _ _) (aj (fun h=>?_) (fun h=>?_))
  · have h:c=1:=by simpa using h
    subst h
    refine De _ (fun Hf _ _=>Ir r2 Hf) rfl ⟨rfl,trivial⟩ fun H1 l1 hf=>?_
    refine af fun r5=>?_
    refine mf (ad:=⟨r2,0,none⟩) (rows:=aH [1,2,3]) (news:=aH [4,5]) (size:=1) (e:=36) (by kernel_rfl) (Rx (hf _ List.mem_cons_self)) (fun Hf _ hf2=>Sa (hf2 _ List.mem_cons_self)) (by rw [show kj PP 36=8 by kernel_rfl];decide) (by decide) fun v' H2 l2 hs=>?_
    exact ah ⟨⟨_,rfl,hs⟩,rfl⟩
  have n1:c ≠ 1:=by simpa using h
  refine ab _ (az _ _) (aj (fun h=>?_) (fun h=>?_))
  · have h:c=2:=by simpa using h
    subst h
    refine nx u2 n2 (.inl ⟨rfl,rfl⟩) fun H1 l1 hf=>?_
    exact ah ⟨⟨_,rfl,Sa (hf _ List.mem_cons_self)⟩,rfl⟩
  have n2':c ≠ 2:=by simpa using h
  refine ab _ (az _ _) (aj (fun h=>?_) (fun h=>?_))
  · have h':c=3:=by simpa using h
    exact Sn (fun _=>.inl h') (fun e=>by rw [h] at e;cases e)
  have n3:c ≠ 3:=by simpa using h
  refine ab _ (az _ _) ?_
  exact Sn (fun e=>.inr (by simpa using e)) (fun e=>by have:c ≠ 4:=by simpa using e
                                                             omega)
theorem NZ {H:Heap} {O:Own} {v:Value} {l:List Int} (h:RSl H O 1 v (l.map fun n=>[I n])) (x:Int):RetO PP dc [v,I x] H O (I (nh l x 0)):=by
 refine fj (vs:=[v,I x]) (by kernel_rfl) ⟨h.one,rfl,trivial⟩ ?_
 simp only [bI]
 refine ab _ h.len ?_
 refine aS l.length (fun i H' O'=>O'=O∧Heap.le H H'∧nh l x 0=nh (l.drop i) x i) ⟨rfl,Heap.le_refl H,by simp⟩ ?_
 rintro i H' O' hi - ⟨rfl,hle,hor⟩
 refine ab _ (aI _ _) (aj (fun hb=>?_) (fun hb=>?_))
 ·have hlt:i < l.length:=by simpa using hb
  obtain ⟨a,h1,h2,_,h3,h4⟩:=(h.le hle).idx .i64 i [I l[i]] (by simp [hlt])
  refine ab _ h1 (aq h2 h3 h4 (ab _ (az _ _) (aj (fun hb=>?_) (fun hb=>?_))))
  ·refine ah ⟨?_,rfl⟩
   rw [hor,List.drop_eq_getElem_cons hlt,nh,if_pos hb];rfl
  ·refine ab _ (aD (by have:=h.lenB;simp at this;omega)) (aO (by simp [Eqs,E]) hlt ⟨rfl,hle,?_⟩)
   rw [hor,List.drop_eq_getElem_cons hlt,nh,if_neg (by rw [hb];simp)];rfl
 ·have hge:l.length≤i:=by simpa using hb
  refine ah ⟨?_,rfl⟩
  rw [hor,List.drop_of_length_le hge];rfl
theorem In {H:Heap} {O:Own} {v:Value} {l:List Int} (h:RSl H O 1 v (l.map fun n=>[I n])) (x:Int):RetO PP cI [v,I x] H O (.bool (l.contains x)):=by
 refine eR (vs:=[v,I x]) (by kernel_rfl) ⟨h.one,rfl,trivial⟩ ?_
 simp only [bB]
 refine ai (NZ h x) rfl ⟨rfl,trivial⟩ fun H1 _=>ab _ (cZ _ _) (ah ⟨?_,rfl⟩)
 rw [← Fq l x 0 (by omega)]
theorem yh (n lo hi:Int) (H:Heap) (O:Own):RetO PP ve [iV n,iV lo,iV hi] H O (.bool (inR n lo hi)):=by
 refine yX (vs:=[iV n,iV lo,iV hi]) (by kernel_rfl) ⟨rfl,rfl,rfl,trivial⟩ ?_
 simp only [nZ]
 refine ab _ (cZ _ _) (aj (fun h=>?_) (fun h=>?_))
 ·refine ai (Is n hi) rfl ⟨rfl,trivial⟩ fun H1 _=>ab _ (az _ _) (ah ⟨?_,rfl⟩)
  rw [inR,h,Bool.true_and]
 ·refine ah ⟨?_,rfl⟩
  rw [inR,h,Bool.false_and]
theorem zo {H:Heap} {O:Own} {s:Value} {l:List Int} (h:RSl H O 1 s (aH l)) (e:Eff):RetO PP kM [s,.agg e.row.toArray] H O (.bool (OL l e)):=by
 refine vF (vs:=s::e.row) (by kernel_rfl) ⟨h.one,js e⟩ ?_
 simp only [kA]
 refine af fun r0=>?_
 refine aa ?_
 refine ai (In h e.target) rfl ⟨rfl,trivial⟩ fun H1 _=>?_
 refine aa (ae (ae ?_))
 refine ab _ (az _ _) ?_
 refine ae ?_
 refine ab _ (aX _ _) ?_
 refine aa (ae (ae ?_))
 refine ab _ (az _ _) ?_
 refine ae ?_
 refine ab _ (aX _ _) ?_
 refine aa (ae (ae ?_))
 refine ab _ (az _ _) ?_
 refine ae ?_
 refine ab _ (aX _ _) ?_
 exact ah ⟨rfl,rfl⟩
theorem He {H:Heap} {O:Own} {s:Value} {l:List Int} (h:RSl H O 1 s (aH l)) (m:Int) (e:Eff):RetO PP ig [.agg #[s,iV m],.agg e.row.toArray] H O (.bool (NQ l m e)):=by
 refine qS (vs:=s::iV m::e.row) (by kernel_rfl) ⟨h.one,rfl,js e⟩ ?_
 simp only [ie]
 refine af fun r0=>af fun r1=>?_
 refine aa (aa (aa ?_))
 refine ai (yh e.n 1 m _ _) rfl ⟨rfl,trivial⟩ fun H1 l1=>aj (fun hb=>?_) (fun hb=>?_)
 ·refine aa (aa ?_)
  refine ai (zo (h.le l1) { e with n:=0 }) rfl ⟨rfl,trivial⟩ fun H2 _=>ah ⟨?_,rfl⟩
  rw [NQ,hb,Bool.true_and];rfl
 ·refine ah ⟨?_,rfl⟩
  rw [NQ,hb,Bool.false_and]
theorem Mp {H:Heap} {O:Own} {s:Value} {l:List Int} (h:RSl H O 1 s (aH l)) {m:Int} (hm:0≤m) (e:Eff):RetO PP jb [.agg #[s,iV m],.agg e.row.toArray] H O (.bool (NP l m e)):=by
 refine s8 (vs:=s::iV m::e.row) (by kernel_rfl) ⟨h.one,rfl,js e⟩ ?_
 simp only [iY]
 refine af fun r0=>af fun r1=>?_
 refine aa (aa (aa (aa ?_)))
 refine ai (yh e.n 0 9 _ _) rfl ⟨rfl,trivial⟩ fun H1 l1=>aj (fun hb=>?_) (fun hb=>?_)
 rotate_left
 ·refine ah ⟨?_,rfl⟩
  rw [NP,hb];rfl
 refine aa ?_
 refine ai (yh e.m m 9 _ _) rfl ⟨rfl,trivial⟩ fun H2 l2=>?_
 refine ae (ae ?_)
 have hw:∃ z,al (.bin .add .int) [iV e.n,iV e.m]=some (iV z)∧(inR e.m m 9=true→z=e.n + e.m):=by
  refine ⟨IntKind.i64.wrap (e.n + e.m),rfl,fun hm9=>?_⟩
  simp only [inR,Bool.and_eq_true,decide_eq_true_eq,beq_iff_eq] at hb hm9
  exact gJ (by omega) (by omega)
 obtain ⟨z,hz,hze⟩:=hw
 refine ab _ hz ?_
 refine ae ?_
 refine ab _ (bH _ _) ?_
 refine ae ?_
 refine ab _ (aX _ _) (aj (fun hc=>?_) (fun hc=>?_))
 ·rw [Bool.and_eq_true] at hc
  refine aa (aa ?_)
  refine ai (zo (h.le (Heap.le_trans l1 l2)) { e with n:=0,m:=0 }) rfl ⟨rfl,trivial⟩ fun H3 _=>ah ⟨?_,rfl⟩
  rw [NP,hb,hc.1,← hze hc.1,hc.2];rfl
 ·refine ah ⟨?_,rfl⟩
  rw [NP,hb,Bool.true_and]
  by_cases hm9:inR e.m m 9=true
  ·rw [hm9,Bool.true_and] at hc
   rw [hm9,← hze hm9,Bool.true_and,hc];rfl
  ·rw [show inR e.m m 9=false by simpa using hm9];rfl
theorem Ms {H:Heap} {O:Own} {s:Value} {l:List Int} (h:RSl H O 1 s (aH l)) (m:Int) (e:Eff):RetO PP gq [.agg #[s,iV m],.agg e.row.toArray] H O (.bool (OK l m e)):=by
 refine qd (vs:=s::iV m::e.row) (by kernel_rfl) ⟨h.one,rfl,js e⟩ ?_
 simp only [gm]
 refine af fun r0=>af fun r1=>?_
 refine aa (aa ?_)
 refine ai (yh e.colour 0 3 _ _) rfl ⟨rfl,trivial⟩ fun H1 l1=>aj (fun hb=>?_) (fun hb=>?_)
 ·refine aa (aa ?_)
  refine ai (He (h.le l1) m { e with colour:=0 }) rfl ⟨rfl,trivial⟩ fun H2 _=>ah ⟨?_,rfl⟩
  rw [OK,hb,Bool.true_and];rfl
 ·refine ah ⟨?_,rfl⟩
  rw [OK,hb,Bool.false_and]
end Go.Proofs.YtdhobpmnkfmcfaaGreatDoor
namespace Go.Proofs.YtdhobpmnkfmcfaaGreatDoor
open Go Go.Sx
set_option maxRecDepth 100000
set_option maxHeartbeats 1000000
def sm (n:Int):Prop:=-1000000000≤n∧n≤1000000000
theorem MI {x y:Int} (hx:sm x) (hy:sm y):al (.bin .add .int) [iV x,iV y]=some (iV (x + y)):=by
 obtain ⟨a,b⟩:=hx
 obtain ⟨c,d⟩:=hy
 exact rv (by omega) (by omega)
theorem SG {x:Int} (hx:sm x):al .neg [iV x]=some (iV (-x)):=by
 obtain ⟨a,b⟩:=hx
 have h:IntKind.i64.wrap (0 - x)=-x:=by rw [gJ (by omega) (by omega)];omega
 simp only [al,h]
theorem Mo {H:Heap} {O:Own} {a b:Int} (ha:sm a) (hb:sm b):RetO PP zK [iV a,iV b] H O (iV (a + b)):=by
 refine zS (vs:=[iV a,iV b]) (by kernel_rfl) ⟨rfl,rfl,trivial⟩ ?_
 simp only [vx]
 refine ab _ (MI ha hb) ?_
 refine ab _ (bH _ _) ?_
 refine ae ?_
 refine ab _ (bH _ _) ?_
 refine ae ?_
 refine ab _ (aX _ _) ?_
 refine ae ?_
 refine ab _ (fh _ _) ?_
 refine ae ?_
 refine ab _ (aX _ _) (aj (fun h=>?_) (fun h=>?_))
 ·exfalso
  have h:((decide (a > 0) && decide (b > 0)) && decide (a + b≤0))=true:=h
  simp only [Bool.and_eq_true,decide_eq_true_eq] at h
  omega
 refine ab _ (aI _ _) ?_
 refine ae ?_
 refine ab _ (aI _ _) ?_
 refine ae ?_
 refine ab _ (aX _ _) ?_
 refine ae ?_
 refine ab _ (cZ _ _) ?_
 refine ae ?_
 refine ab _ (aX _ _) (aj (fun h=>?_) (fun h=>?_))
 ·exfalso
  have h:((decide (a < 0) && decide (b < 0)) && decide (a + b ≥ 0))=true:=h
  simp only [Bool.and_eq_true,decide_eq_true_eq] at h
  omega
 exact ah ⟨rfl,rfl⟩
theorem jk {H:Heap} {O:Own} {a b:Int} (ha:sm a) (hb:sm b) (m:Int):RetO PP DA [iV a,iV b,iV m] H O (iV (ck (a + b) m)):=by
 refine BP (vs:=[iV a,iV b,iV m]) (by kernel_rfl) ⟨rfl,rfl,rfl,trivial⟩ ?_
 simp only [yu]
 refine ai (Mo ha hb) rfl ⟨rfl,trivial⟩ fun H1 l1=>?_
 refine ai (Is (a + b) m) rfl ⟨rfl,trivial⟩ fun H2 l2=>?_
 exact ah ⟨rfl,rfl⟩
theorem Js {H:Heap} {O:Own} {a b:Int} (ha:sm a) (hb:sm b) (m:Int):RetO PP Ht [iV a,iV b,iV m] H O (iV (ck (a - b) m)):=by
 refine HE (vs:=[iV a,iV b,iV m]) (by kernel_rfl) ⟨rfl,rfl,rfl,trivial⟩ ?_
 simp only [Dp]
 refine ab _ (az _ _) (aj (fun h=>?_) (fun h=>?_))
 ·exfalso
  have h:b=-9223372036854775808:=by simpa using h
  obtain ⟨c,d⟩:=hb
  omega
 refine ab _ (SG hb) ?_
 refine ai (jk ha (show sm (-b) by obtain ⟨c,d⟩:=hb;constructor <;> omega) m) rfl ⟨rfl,trivial⟩ fun H1 l1=>?_
 rw [show a - b=a + -b by omega]
 exact ah ⟨rfl,rfl⟩
theorem FA {H:Heap} {O:Own} {a b:Int} (ha:sm a) (hb:sm b):RetO PP sn [iV a,iV b] H O (iV (oA a b)):=by
 refine t8 (vs:=[iV a,iV b]) (by kernel_rfl) ⟨rfl,rfl,trivial⟩ ?_
 simp only [nn]
 obtain ⟨c,d⟩:=ha
 obtain ⟨e,f⟩:=hb
 refine ab _ (ln _ _) (ab _ (ln _ _) ?_)
 refine ai (jk (a:=max 0 a) (b:=max 0 b) (by constructor <;> omega) (by constructor <;> omega) 99) rfl ⟨rfl,trivial⟩ fun H1 l1=>?_
 refine ah ⟨?_,rfl⟩
 show iV (ck (max 0 a + max 0 b) 99)=iV (oA a b)
 rw [ck,oA]
 congr 1
 omega
def smO (o:Ob):Prop:=sm o.dmg∧sm o.cnt∧sm o.pp∧sm o.pt
theorem RZ {H:Heap} {O:Own} {o:Ob} (ho:smO o) {n:Int} (hn:sm n):RetO PP Av [.agg o.row.toArray,iV n] H O (.agg (Ob.row { o with dmg:=oA o.dmg n }).toArray):=by
 refine DK (vs:=o.row++[iV n]) (by kernel_rfl) (ay (bA o) ⟨rfl,trivial⟩) ?_
 simp only [uO]
 refine af fun r0=>af fun r1=>?_
 refine aa ?_
 refine ai (FA ho.1 hn) rfl ⟨rfl,trivial⟩ fun H1 l1=>?_
 refine aa (aa (aa (aa ?_)))
 exact ah ⟨rfl,rfl⟩
theorem N2 {H:Heap} {O:Own} {o:Ob} (ho:smO o) {n:Int} (hn:sm n):RetO PP wh [.agg o.row.toArray,iV n] H O (.agg (Ob.row { o with cnt:=oA o.cnt n }).toArray):=by
 refine AI (vs:=o.row++[iV n]) (by kernel_rfl) (ay (bA o) ⟨rfl,trivial⟩) ?_
 simp only [pu]
 refine af fun r0=>af fun r1=>?_
 refine aa ?_
 refine ai (FA ho.2.1 hn) rfl ⟨rfl,trivial⟩ fun H1 l1=>?_
 refine aa (aa (aa (aa ?_)))
 exact ah ⟨rfl,rfl⟩
theorem Re {H:Heap} {O:Own} {o:Ob} (ho:smO o) {n m:Int} (hn:sm n) (hm:sm m):RetO PP yG [.agg o.row.toArray,iV n,iV m] H O (.agg (Ob.row { o with pp:=oA o.pp n,pt:=oA o.pt m }).toArray):=by
 refine BS (vs:=o.row++[iV n,iV m]) (by kernel_rfl) (ay (bA o) ⟨rfl,rfl,trivial⟩) ?_
 simp only [rV]
 refine af fun r0=>af fun r1=>?_
 refine aa (aa ?_)
 refine ai (FA ho.2.2.1 hn) rfl ⟨rfl,trivial⟩ fun H1 l1=>?_
 refine ai (FA ho.2.2.2 hm) rfl ⟨rfl,trivial⟩ fun H2 l2=>?_
 refine aa (aa (aa (aa (aa ?_))))
 exact ah ⟨rfl,rfl⟩
theorem Mt {H:Heap} {O:Own} {o:Ob} (ho:smO o) {e:Eff} (hn:sm e.n) (hm:sm e.m):RetO PP qC [.agg o.row.toArray,.agg e.row.toArray] H O (.agg (tG e o).row.toArray):=by
 refine wm (vs:=o.row++e.row) (by kernel_rfl) (ay (bA o) (js e)) ?_
 simp only [lB]
 refine af fun r0=>af fun r1=>af fun r2=>?_
 refine aa ?_
 refine ab _ (az _ _) (aj (fun h=>?_) (fun h=>?_))
 ·refine aa (aa (aa (aa ?_)))
  refine ah ⟨?_,rfl⟩
  rw [tG,if_pos (by simpa using h)];rfl
 have n5:e.code ≠ 5:=by simpa using h
 refine ab _ (az _ _) (aj (fun h=>?_) (fun h=>?_))
 ·refine aa (aa (aa (aa ?_)))
  refine ah ⟨?_,rfl⟩
  rw [tG,if_neg n5,if_pos (by simpa using h)];rfl
 have n11:e.code ≠ 11:=by simpa using h
 refine ab _ (az _ _) (aj (fun h=>?_) (fun h=>?_))
 ·refine aa (aa (aa ?_))
  refine ai (Re ho hn hm) rfl (vs:=Ob.row { o with pp:=oA o.pp e.n,pt:=oA o.pt e.m }) (bA _) fun H1 l1=>?_
  refine aa (aa ?_)
  refine ah ⟨?_,rfl⟩
  rw [tG,if_neg n5,if_neg n11,if_pos (by simpa using h)];rfl
 have n8:e.code ≠ 8:=by simpa using h
 refine ab _ (az _ _) (aj (fun h=>?_) (fun h=>?_))
 ·refine aa (aa ?_)
  refine ai (N2 ho hn) rfl (vs:=Ob.row { o with cnt:=oA o.cnt e.n }) (bA _) fun H1 l1=>?_
  refine aa (aa ?_)
  refine ah ⟨?_,rfl⟩
  rw [tG,if_neg n5,if_neg n11,if_neg n8,if_pos (by simpa using h)];rfl
 have n9:e.code ≠ 9:=by simpa using h
 refine aa (aa (aa ?_))
 refine ah ⟨?_,rfl⟩
 rw [tG,if_neg n5,if_neg n11,if_neg n8,if_neg n9];rfl
end Go.Proofs.YtdhobpmnkfmcfaaGreatDoor
namespace Go.Proofs.YtdhobpmnkfmcfaaGreatDoor
open Go Go.Sx
set_option maxRecDepth 100000
set_option maxHeartbeats 1000000
theorem Ja {t:TypeId} {v:Value}:∀ w,((PrimOp.eqv .neq 113 true).sem [.iface t v,.nilIface]).run PP w=.ok (.value (.bool true)) w:=fun w=>by kernel_rfl
theorem PF:∀ w,((PrimOp.eqv .neq 113 true).sem [.nilIface,.nilIface]).run PP w=.ok (.value (.bool false)) w:=fun w=>by kernel_rfl
theorem NA (v:Value):Aq PP "zeitnot/effect.fits" (.iface 151 v) kM v:=⟨_,_,rfl,fun w=>by kernel_rfl⟩
theorem PK (v:Value):Aq PP "zeitnot/effect.fits" (.iface 154 v) ig v:=⟨_,_,rfl,fun w=>by kernel_rfl⟩
theorem PI (v:Value):Aq PP "zeitnot/effect.fits" (.iface 156 v) jb v:=⟨_,_,rfl,fun w=>by kernel_rfl⟩
theorem PJ (v:Value):Aq PP "zeitnot/effect.fits" (.iface 158 v) gq v:=⟨_,_,rfl,fun w=>by kernel_rfl⟩
theorem Lc {H:Heap} {R:Rl} {r:Value} (h:Rk H R r):r.oneCell'=true:=by
 cases R with
 | no=>rw [show r=.nilIface from h];rfl
 | bare l=>obtain ⟨s,rfl,_⟩:=h;rfl
 | cnt l m=>obtain ⟨s,rfl,_⟩:=h;rfl
 | par l m=>obtain ⟨s,rfl,_⟩:=h;rfl
 | col l m=>obtain ⟨s,rfl,_⟩:=h;rfl
theorem Pw {c:Int} {l:List Int} {m:Int} (h:vP c=.par l m):0≤m:=by
 rw [vP] at h
 repeat' (split at h)
 all_goals first | (injection h with h1 h2;omega) | cases h
theorem EM (e:Eff) (H:Heap):RetO PP pJ [.agg e.row.toArray] H [] (.bool (EG e)):=by
 refine AJ (vs:=e.row) (by kernel_rfl) (js e) ?_
 simp only [pz]
 refine af fun r0=>?_
 refine aa ?_
 refine aw (SL e.code H) ?_
 rintro r H1 _ ⟨hr,rfl⟩ l1
 refine ⟨[r],rfl,⟨Lc hr,trivial⟩,?_⟩
 have hpp:=@Pw e.code
 rw [EG]
 generalize vP e.code=R at hr hpp
 cases R with
 | no =>
  rw [show r=.nilIface from hr]
  refine ⟨_,fun _=>PF,rfl,aj (fun hd=>by cases hd) (fun _=>?_)⟩
  exact ah ⟨rfl,rfl⟩
 | bare l =>
  obtain ⟨s,rfl,hs⟩:=hr
  refine ⟨_,fun _=>Ja,rfl,aj (fun _=>?_) (fun hd=>by cases hd)⟩
  refine aa ?_
  exact yf (NA s) (jn aA (by decide)) (zo (hs.rsl []) e) rfl ⟨rfl,trivial⟩ fun H2 l2=>ah ⟨rfl,rfl⟩
 | cnt l m =>
  obtain ⟨s,rfl,hs⟩:=hr
  refine ⟨_,fun _=>Ja,rfl,aj (fun _=>?_) (fun hd=>by cases hd)⟩
  refine aa ?_
  exact yf (PK _) (jn aA (by decide)) (He (hs.rsl []) m e) rfl ⟨rfl,trivial⟩ fun H2 l2=>ah ⟨rfl,rfl⟩
 | par l m =>
  obtain ⟨s,rfl,hs⟩:=hr
  refine ⟨_,fun _=>Ja,rfl,aj (fun _=>?_) (fun hd=>by cases hd)⟩
  refine aa ?_
  exact yf (PI _) (jn aA (by decide)) (Mp (hs.rsl []) (hpp rfl) e) rfl ⟨rfl,trivial⟩ fun H2 l2=>ah ⟨rfl,rfl⟩
 | col l m =>
  obtain ⟨s,rfl,hs⟩:=hr
  refine ⟨_,fun _=>Ja,rfl,aj (fun _=>?_) (fun hd=>by cases hd)⟩
  refine aa ?_
  exact yf (PJ _) (jn aA (by decide)) (Ms (hs.rsl []) m e) rfl ⟨rfl,trivial⟩ fun H2 l2=>ah ⟨rfl,rfl⟩
theorem SK {H:Heap} {O:Own} {cv:Value} {cs:List CdX} (hk:CardsX H cv cs) {v:cX} {b:Bd} (h:BdR H O v b) {id:Int} (hid:i64 id):RetO PP Au [cv,.agg (ap v b).toArray,iV id] H O (.bool (onB cs b id)):=by
 refine DJ (vs:=cv::(ap v b++[iV id])) (by kernel_rfl) ⟨hk.one,ay (ao h) ⟨rfl,trivial⟩⟩ ?_
 simp only [uL]
 refine af fun r0=>?_
 refine aa ?_
 refine ai (OS h hid) rfl (vs:=(dl b id).row++[iV (bc b id)]) (ay (bA _) ⟨rfl,trivial⟩) fun H1 l1=>af fun r1=>?_
 refine aa ?_
 refine ab _ (az _ _) (aj (fun hi=>?_) (fun hi=>?_))
 rotate_left
 ·refine ah ⟨?_,rfl⟩
  rw [onB,show (bc b id == 0)=false from hi,Bool.false_and]
 have hi:(bc b id == 0)=true:=hi
 have hb:(bc b id != 0)=false:=by rw [bne,hi];rfl
 obtain ⟨hval,k,o,e1,e2,e3,e4⟩:=nN hb
 have hfo:=rn hb e1 e3
 have hown:=(d9 (aW hval).1 e1).2.2.2
 rw [hfo]
 refine aa ?_
 refine ai (EN (hk.le l1).base.kinds o) rfl ⟨rfl,trivial⟩ fun H2 l2=>aj (fun hc=>?_) (fun hc=>?_)
 rotate_left
 ·refine ah ⟨?_,rfl⟩
  rw [onB,hi,Bool.true_and,hfo,show eo (PS cs) o=false from hc,Bool.false_and]
 have h2:=h.le (Heap.le_trans l1 l2)
 have hr:onB cs b id=(au b o.owner).field.contains id:=by rw [onB,hi,Bool.true_and,hfo,show eo (PS cs) o=true from hc,Bool.true_and]
 rw [hr]
 rcases hown with hown | hown
 ·rw [hown]
  refine aa ?_
  refine ⟨.i64,o.owner,rfl,fun _=>?_,fun e=>absurd hown e⟩
  refine aa ?_
  exact ai (eN h2.s0.field id) rfl ⟨rfl,trivial⟩ fun H3 l3=>ah ⟨rfl,rfl⟩
 ·rw [hown]
  refine aa ?_
  refine ⟨.i64,o.owner,rfl,fun e=>absurd e (by omega),fun _=>⟨.i64,o.owner,rfl,fun _=>?_,fun e=>absurd hown e⟩⟩
  refine aa ?_
  exact ai (eN h2.s1.field id) rfl ⟨rfl,trivial⟩ fun H3 l3=>ah ⟨rfl,rfl⟩
def MA (r:Nat) (e:Eff):BV:=⟨r,39,e.row⟩
theorem Hk {r:Nat} {e:Eff} {H:Heap} {O:Own} (off m:Nat) (hm:off + m≤5):Reads H ((MA r e).obj::O) (.pointer (some ⟨r,off,none⟩)) m ((e.row.drop off).take m) :=
 .inr ⟨⟨r,off,none⟩,e.row.toArray,39,rfl,rfl,List.mem_cons_self,rfl,by simp [Eff.row];omega⟩
theorem Q9 {H:Heap} {o:Ob} (ho:smO o) {e:Eff} (hn:sm e.n) (r:Nat):RetO PP kL [.agg o.row.toArray,.pointer (some ⟨r,0,none⟩)] H [(MA r e).obj] (.agg (Ob.row { o with dmg:=oA o.dmg e.n }).toArray):=by
 refine vE (vs:=o.row++[.pointer (some ⟨r,0,none⟩)]) (by kernel_rfl) (ay (bA o) ⟨rfl,trivial⟩) ?_
 simp only [kw]
 refine af fun r0=>af fun r1=>?_
 refine aa (aB rfl ?_)
 refine aq (vs:=[iV e.n]) (Hk 2 1 (by omega)) rfl ⟨rfl,trivial⟩ ?_
 refine ai (RZ ho hn) rfl (vs:=Ob.row { o with dmg:=oA o.dmg e.n }) (bA _) fun H1 l1=>?_
 refine aa (aa ?_)
 exact ah ⟨rfl,rfl⟩
theorem Q8 {H:Heap} {o:Ob} (ho:smO o) {e:Eff} (hn:sm e.n) (hm:sm e.m) (r:Nat):RetO PP oR [.agg o.row.toArray,.pointer (some ⟨r,0,none⟩)] H [(MA r e).obj] (.agg (tG e o).row.toArray):=by
 refine vD (vs:=o.row++[.pointer (some ⟨r,0,none⟩)]) (by kernel_rfl) (ay (bA o) ⟨rfl,trivial⟩) ?_
 simp only [kv]
 refine af fun r0=>af fun r1=>?_
 refine aa ?_
 refine aq (vs:=e.row) (Hk 0 5 (by omega)) rfl (js e) ?_
 refine ai (Mt ho hn hm) rfl (vs:=(tG e o).row) (bA _) fun H1 l1=>?_
 refine aa (aa ?_)
 exact ah ⟨rfl,rfl⟩
theorem Jt {H:Heap} {v:cX} {b:Bd} (h:BdS H v b) (hB:bdB b) {id:Int} (hid:i64 id) {f:FuncId} {r:Nat} {e:Eff} {g:Ob→Ob} (hok:vM PP f)
  (hf:∀ H',RetO PP f [.agg (dl b id).row.toArray,.pointer (some ⟨r,0,none⟩)] H' [(MA r e).obj] (.agg (g (dl b id)).row.toArray)) (hg:i64 (g (dl b id)).id) (hz:(DH b (g (dl b id))).2=0) :
  Triple PP sE [.agg (ap v b).toArray,iV id,.func (.func f) #[] #[.pointer (some ⟨r,0,none⟩)]] H [(MA r e).obj] fun x _ O'=>∃ X,O'=(MA r e).obj::X∧∃ w,x=.agg (ap w (de b id g)).toArray∧OwnB tys w (de b id g) X:=by
 refine xv (vs:=ap v b++[iV id,.func (.func f) #[] #[.pointer (some ⟨r,0,none⟩)]]) (by kernel_rfl) (ay (ao (h.r [])) ⟨rfl,rfl,trivial⟩) ?_
 simp only [mi]
 refine af fun r0=>af fun r1=>?_
 refine aa ?_
 refine ai (OS (h.r _) hid) rfl (vs:=(dl b id).row++[iV (bc b id)]) (ay (bA _) ⟨rfl,trivial⟩) fun H1 l1=>af fun r2=>?_
 have h:=h.le l1
 refine aa (aa (aa ?_))
 refine gV rfl hok (hf H1) rfl (vs:=(g (dl b id)).row) (bA _) fun H2 l2=>?_
 have h:=h.le l2
 refine aw (RV h hB hg) ?_
 rintro _ H3 O3 ⟨w,rfl,ho⟩ l3
 refine ⟨ap w (DH b (g (dl b id))).1++[iV (DH b (g (dl b id))).2],rfl,ay (bo H3 ho) ⟨rfl,trivial⟩,af fun r3=>?_⟩
 have ec:de b id g=(DH b (g (dl b id))).1:=by rw [de,if_pos hz]
 rw [ec,hz]
 refine aa ?_
 refine ab _ (bd _ _) (aj (fun hd=>by cases hd) (fun _=>?_))
 refine aa (aa (aa ?_))
 intro hc
 exact ⟨H3,(MA r e).obj::O3,Ghost.perm (List.perm_append_comm (l₁:=O3) (l₂:=[(MA r e).obj])),O3,rfl,w,rfl,ho⟩
end Go.Proofs.YtdhobpmnkfmcfaaGreatDoor
namespace Go.Proofs.YtdhobpmnkfmcfaaGreatDoor
open Go Go.Sx
set_option maxRecDepth 100000
set_option maxHeartbeats 1000000
theorem ER (a b:Int):ar (oA a b) 0 99=true:=by
 have h:0≤oA a b∧oA a b≤99:=by simp only [oA];omega
 simp only [ar,decide_eq_true_eq];exact h
theorem BM {b:Bd} (hv:ax b=true) (q:Int):bW (au b q)=true:=by
 simp only [ax,Bool.and_eq_true] at hv
 rw [au]
 split
 ·exact hv.2.2.2.2.2.1
 ·exact hv.2.2.2.2.2.2.1
theorem pT {b:Bd} (hv:ax b=true) (q:Int):0≤(au b q).life∧(au b q).life≤9999:=by
 have h:=BM hv q
 simp only [bW,Bool.and_eq_true,ar,decide_eq_true_eq] at h
 exact h.1
theorem dE {b:Bd} (hv:ax b=true) (q:Int):sm (au b q).p0∧sm (au b q).p1∧sm (au b q).p2∧sm (au b q).p3:=by
 have h:=BM hv q
 simp only [bW,Bool.and_eq_true,ar,decide_eq_true_eq,List.all_cons,List.all_nil] at h
 obtain ⟨_,⟨⟨a1,a2⟩,⟨a3,a4⟩,⟨a5,a6⟩,⟨a7,a8⟩,_⟩,_⟩:=h
 refine ⟨?_,?_,?_,?_⟩ <;> constructor <;> omega
theorem ny {o:Ob} (h:ba o=true):smO o:=by
 simp only [ba,Bool.and_eq_true,List.all_cons,List.all_nil,ar,decide_eq_true_eq] at h
 obtain ⟨⟨⟨_,_,a,b,c,d,_⟩,_⟩,_⟩:=h
 refine ⟨?_,?_,?_,?_⟩ <;> constructor <;> omega
theorem eW {b:Bd} {id:Int} (hi:bc b id=0):∃ k,b.objs[k]?=some (dl b id)∧(dl b id).id=id∧eH b id=(k:Nat)∧ba (dl b id)=true∧((dl b id).owner=0∨(dl b id).owner=1):=by
 have hb:(bc b id != 0)=false:=by rw [hi];rfl
 obtain ⟨hval,k,o,e1,e2,e3,_⟩:=nN hb
 have hfo:=rn hb e1 e3
 obtain ⟨h1,_,_,h4⟩:=d9 (aW hval).1 e1
 rw [hfo]
 exact ⟨k,e1,e2,e3,h1,h4⟩
theorem KX {b:Bd} {id:Int} (hi:bc b id=0) {o:Ob} (h1:o.id=id) (h2:o.card=(dl b id).card) (h3:o.owner=(dl b id).owner) (hvo:ba o=true):DH b o=(dD b (eH b id).toNat o,0):=by
 rw [DH,if_pos hvo,h1,if_neg (by rw [hi];simp),if_neg (by rw [h2,h3];simp)]
theorem lP (e:Eff) (o:Ob):(tG e o).id=o.id∧(tG e o).card=o.card∧(tG e o).owner=o.owner:=by
 simp only [tG]
 repeat' split
 all_goals exact ⟨rfl,rfl,rfl⟩
theorem lO {e:Eff} {o:Ob} (h:ba o=true):ba (tG e o)=true:=by
 have ha:=ER
 simp only [ba,Bool.and_eq_true,List.all_cons,List.all_nil] at h ⊢
 simp only [tG]
 obtain ⟨⟨⟨a,b,c,d,f,g,k⟩,q⟩,r⟩:=h
 repeat' split
 all_goals first
  | exact ⟨⟨⟨a,b,c,d,f,g,k⟩,q⟩,r⟩
  | exact ⟨⟨⟨a,b,c,d,ha _ _,ha _ _,k⟩,q⟩,r⟩
  | exact ⟨⟨⟨a,b,c,ha _ _,f,g,k⟩,q⟩,r⟩
theorem CY {o:Ob} (h:ba o=true) (n:Int):ba { o with dmg:=oA o.dmg n }=true:=by
 have ha:=ER
 simp only [ba,Bool.and_eq_true,List.all_cons,List.all_nil] at h ⊢
 obtain ⟨⟨⟨a,b,c,d,f,g,k⟩,q⟩,r⟩:=h
 exact ⟨⟨⟨a,b,ha _ _,d,f,g,k⟩,q⟩,r⟩
theorem oL {e:Eff} (h:EG e=true):0≤e.n∧e.n≤99∧0≤e.m∧e.m≤99∧0≤e.colour∧e.colour≤3:=by
 have hB:∀ {l:List Int} {e:Eff},OL l e=true→e.n=0∧e.m=0∧e.colour=0:=fun h=>by
  simp only [OL,Bool.and_eq_true,beq_iff_eq] at h
  exact ⟨h.1.1.2,h.1.2,h.2⟩
 have hC:∀ {l:List Int} {k:Int} {e:Eff},k≤99→NQ l k e=true→0≤e.n∧e.n≤99∧e.m=0∧e.colour=0:=fun hk h=>by
  simp only [NQ,inR,Bool.and_eq_true,beq_iff_eq,decide_eq_true_eq] at h
  obtain ⟨_,h2,h3⟩:=hB h.2
  exact ⟨by omega,by omega,h2,h3⟩
 rw [EG] at h
 have hR:∀ {R:Rl},(match R with | .cnt _ m=>m≤99 | .col _ m=>m≤99 | .par _ m=>0≤m | _=>True)→R.fits e=true→0≤e.n∧e.n≤99∧0≤e.m∧e.m≤99∧0≤e.colour∧e.colour≤3:=by
  intro R hm h
  cases R with
  | no=>cases h
  | bare l=>obtain ⟨a,b,c⟩:=hB h;omega
  | cnt l m=>obtain ⟨a,b,c,d⟩:=hC hm h;omega
  | par l m =>
   have h:NP l m e=true:=h
   have hm:0≤m:=hm
   simp only [NP,inR,Bool.and_eq_true,beq_iff_eq,decide_eq_true_eq] at h
   have h3:e.colour=0:=(hB h.2).2.2
   omega
  | col l m =>
   have h:OK l m e=true:=h
   simp only [OK,inR,Bool.and_eq_true,beq_iff_eq,decide_eq_true_eq] at h
   obtain ⟨a,b,c,_⟩:=hC hm h.2
   have a:0≤e.n:=a
   have b:e.n≤99:=b
   have c:e.m=0:=c
   omega
 refine hR ?_ h
 rw [vP]
 repeat' split
 all_goals first | trivial | (rename_i hh;revert hh;repeat' split) 
 all_goals first | (intro hh;cases hh;omega) | (intro hh;injection hh;omega) | (intro hh;cases hh) | trivial
end Go.Proofs.YtdhobpmnkfmcfaaGreatDoor
namespace Go.Proofs.YtdhobpmnkfmcfaaGreatDoor
open Go Go.Sx
set_option maxRecDepth 100000
set_option maxHeartbeats 1000000
theorem dF {P:Program} {f:FuncId} {args:List Value} {H:Heap} {O:Own} {tt:Tys} {w:cX} {b:Bd} {R:Value→Heap→Own→Prop} {shp:Shp} {K:List Value→List (List Value)→Heap→Own→Prop}
  (ho:OwnB tt w b O) (h:∀ Hf,Heap.le H Hf→BdS Hf w b→Triple P f args Hf [] R) (hk:∀ v H' O1,R v H' O1→Heap.le H H'→∃ vs,shp.open v=some vs∧Ones vs∧K vs [] H' O1) :
  dT (fun H1 O1 R=>Triple P f args H1 O1 R) false [] [] shp K H O:=by
 intro hc
 obtain ⟨Hf,g,k,lf⟩:=ho.freeze (X:=[]) (by simpa using hc)
 refine ⟨Hf,[],[],R,(by rw [List.append_nil] at g;exact g:Ghost H O Hf []),h Hf lf k,fun v H' O' hr hle=>?_⟩
 obtain ⟨vs,h1,h2,h3⟩:=hk v H' O' hr (Heap.le_trans lf hle)
 exact ⟨vs,[],O',h1,h2,trivial,rfl,by rw [List.append_nil];exact h3⟩
theorem EJ {P:Program} {f:FuncId} {args:List Value} {H:Heap} {O:Own} {tt:Tys} {w:cX} {b:Bd} {R:Value→Heap→Own→Prop} {bv:BV} (hbv:Ones bv.vs) {shp:Shp} {K:List Value→List (List Value)→Heap→Own→Prop}
  (ho:OwnB tt w b O) (h:∀ Hf,Heap.le H Hf→BdS Hf w b→Triple P f args Hf [bv.obj] fun r H' O'=>∃ X,O'=bv.obj::X∧R r H' X) (hk:∀ v H' O1,R v H' O1→Heap.le H H'→∃ vs,shp.open v=some vs∧Ones vs∧K vs [bv.vs] H' O1) :
  dT (fun H1 O1 R=>Triple P f args H1 O1 R) false [] [bv] shp K H O:=by
 intro hc
 have hc:Cons H ([bv.obj]++O):=hc
 have hcO:Cons H (O++[]):=by
  obtain ⟨w0,F,hm⟩:=hc
  exact ⟨w0,F,hm.sub (by rw [List.append_nil];exact (List.sublist_append_right [bv.obj] O).append_right F)⟩
 obtain ⟨Hf,g,k,lf⟩:=ho.freeze (X:=[]) hcO
 refine ⟨Hf,[],[],_,(by rw [List.append_nil] at g;exact g:Ghost H O Hf []),h Hf lf k,?_⟩
 rintro v H' O' ⟨X,rfl,hr⟩ hle
 obtain ⟨vs,h1,h2,h3⟩:=hk v H' X hr (Heap.le_trans lf hle)
 exact ⟨vs,[bv.vs],X,h1,h2,⟨rfl,hbv,trivial⟩,rfl,by rw [List.append_nil];exact h3⟩
theorem ct {v:cX} {b:Bd} {O:Own} (ho:OwnB tys v b O) {q:Int} {s:St} (h1:s.lib=(au b q).lib) (h2:s.hand=(au b q).hand) (h3:s.field=(au b q).field) (h4:s.grave=(au b q).grave):OwnB tys v (bO b q s) O:=by
 obtain ⟨Oo,A0,B0,C0,D0,A1,B1,C1,D1,Os,Oq,Oa,Obk,hp,h⟩:=ho
 refine ⟨Oo,A0,B0,C0,D0,A1,B1,C1,D1,Os,Oq,Oa,Obk,hp,?_⟩
 by_cases hq:q=0
 ·rw [au,if_pos hq] at h1 h2 h3 h4
  rw [bO,if_pos hq]
  exact ⟨h.objs,by rw [h1];exact h.l0,by rw [h2];exact h.h0,by rw [h3];exact h.f0,by rw [h4];exact h.g0,h.l1,h.h1,h.f1,h.g1,h.stack,h.queue,h.att,h.blocks⟩
 ·rw [au,if_neg hq] at h1 h2 h3 h4
  rw [bO,if_neg hq]
  exact ⟨h.objs,h.l0,h.h0,h.f0,h.g0,by rw [h1];exact h.l1,by rw [h2];exact h.h1,by rw [h3];exact h.f1,by rw [h4];exact h.g1,h.stack,h.queue,h.att,h.blocks⟩
def OW (x:Bd) (r:Value) (_:Heap) (O':Own):Prop:=∃ w,r=.agg (ap w x).toArray∧OwnB tys w x O'
theorem GM {H:Heap} {O:Own} {cv:Value} {v:cX} {b:Bd} (ho:OwnB tys v b O) (hv:ax b=true) {p src most:Int} {e:Eff} {t:Tg} (hev:EG e=true) {l:List Value} (hl:l=(cv::(ap v b++(iV p::iV src::(e.row++(t.row++[iV most])))))) {ra rb rc:Nat} :
  (gw ra rb l rc).den PP (OW (nM b 0 (ck ((au b 0).life - e.n) 9999))) H O:=by
 obtain ⟨n0,n99,m0,m99,c0,c3⟩:=oL hev
 simp only [gw]
 subst hl
 refine aa (aa ?_)
 refine ai (Js (a:=(au b 0).life) (b:=e.n) (by have:=pT hv 0;constructor <;> omega) (by constructor <;> omega) 9999) rfl ⟨rfl,trivial⟩ fun H1 l1=>?_
 refine aa (aa (aa (aa ?_)))
 exact ah ⟨v,rfl,ct ho rfl rfl rfl rfl⟩
theorem GL {H:Heap} {O:Own} {cv:Value} {v:cX} {b:Bd} (ho:OwnB tys v b O) (hv:ax b=true) {p src most:Int} {e:Eff} {t:Tg} (hev:EG e=true) {l:List Value} (hl:l=(cv::(ap v b++(iV p::iV src::(e.row++(t.row++[iV most])))))) {ra rb rc:Nat} :
  (fG ra rb l rc).den PP (OW (nM b 1 (ck ((au b 1).life - e.n) 9999))) H O:=by
 obtain ⟨n0,n99,m0,m99,c0,c3⟩:=oL hev
 simp only [fG]
 subst hl
 refine aa (aa ?_)
 refine ai (Js (a:=(au b 1).life) (b:=e.n) (by have:=pT hv 1;constructor <;> omega) (by constructor <;> omega) 9999) rfl ⟨rfl,trivial⟩ fun H1 l1=>?_
 refine aa (aa (aa (aa ?_)))
 exact ah ⟨v,rfl,ct ho rfl rfl rfl rfl⟩
theorem LZ {H:Heap} {O:Own} {cv:Value} {v:cX} {b:Bd} (ho:OwnB tys v b O) (hB:bdB b) {p src most:Int} {e:Eff} {t:Tg} (hev:EG e=true) {l:List Value} (hl:l=(cv::(ap v b++(iV p::iV src::(e.row++(t.row++[iV most])))))) {ra rb rc m:Nat} {id:Int} (qm:g l m=iV id) (hid:i64 id) (hi:bc b id=0) :
  (gA ra l m rb rc).den PP (OW (de b id fun o=>{ o with dmg:=oA o.dmg e.n })) H O:=by
 obtain ⟨n0,n99,m0,m99,c0,c3⟩:=oL hev
 obtain ⟨k,f1,f2,f3,f4,f5⟩:=eW hi
 have q5:G5 l 41=e.row:=by rw [hl];rfl
 have q38:ag (G38 l 1)=.agg (ap v b).toArray:=by rw [hl];rfl
 simp only [gA]
 rw [qm,q5,q38]
 generalize hg:(fun o:Ob=>{ o with dmg:=oA o.dmg e.n })=gg
 have g1:∀ o,(gg o).id=o.id∧(gg o).card=o.card∧(gg o).owner=o.owner:=fun o=>by rw [← hg];exact ⟨rfl,rfl,rfl⟩
 have g2:ba (gg (dl b id))=true:=by rw [← hg];exact CY f4 _
 have g3:∀ H',RetO PP kL [.agg (dl b id).row.toArray,.pointer (some ⟨rb,0,none⟩)] H' [(MA rb e).obj] (.agg (gg (dl b id)).row.toArray):=fun H'=>by
  rw [← hg];exact Q9 (ny f4) (by constructor <;> omega) rb
 clear hg
 refine aa ?_
 refine EJ (bv:=MA rb e) (R:=fun r _ X=>∃ w,r=.agg (ap w (de b id gg)).toArray∧OwnB tys w (de b id gg) X) (js e) ho (fun Hf lf hf=>Jt hf hB hid (jn aA (by decide)) g3 (by rw [(g1 _).1,f2];exact hid) (by rw [KX hi ((g1 _).1.trans f2) (g1 _).2.1 (g1 _).2.2 g2])) ?_
 rintro _ H2 O2 ⟨w2,rfl,h2⟩ l2
 refine ⟨ap w2 _,rfl,bo H2 h2,?_⟩
 refine aa (aa ?_)
 exact ah ⟨w2,rfl,h2⟩
theorem L7 {H:Heap} {O:Own} {cv:Value} {cs:List CdX} (hk:CardsX H cv cs) {v:cX} {b:Bd} (ho:OwnB tys v b O) (hB:bdB b) {p src most:Int} {e:Eff} {t:Tg} (hev:EG e=true) {l:List Value} (hl:l=(cv::(ap v b++(iV p::iV src::(e.row++(t.row++[iV most])))))) {ra rb rc m:Nat} {id:Int} (qm:g l m=iV id) (hid:i64 id) :
  (gC ra l m rc rb).den PP (OW (if onB cs b id=true then de b id (tG e) else b)) H O:=by
 obtain ⟨n0,n99,m0,m99,c0,c3⟩:=oL hev
 have q5:G5 l 41=e.row:=by rw [hl];rfl
 have q38:ag (G38 l 1)=.agg (ap v b).toArray:=by rw [hl];rfl
 have q0:g l 0=cv:=by rw [hl];rfl
 simp only [gC]
 rw [qm,q5,q38,q0]
 refine aa ?_
 refine ai (SK hk (ho.r (fun p hp=>hp) H) hid) rfl ⟨rfl,trivial⟩ fun H1 l1=>?_
 refine ab _ (aM _) (aj (fun h=>?_) (fun h=>?_))
 ·have h:onB cs b id=false:=vp h
  rw [if_neg (by rw [h];simp)]
  refine aa (aa (aa ?_))
  exact ah ⟨v,rfl,ho⟩
 have h:onB cs b id=true:=qW h
 rw [if_pos h]
 have hi:bc b id=0:=by
  rw [onB,Bool.and_eq_true] at h
  simpa using h.1
 obtain ⟨k,f1,f2,f3,f4,f5⟩:=eW hi
 obtain ⟨a1,a2,a3⟩:=lP e (dl b id)
 refine aa ?_
 refine EJ (bv:=MA rb e) (R:=fun r _ X=>∃ w,r=.agg (ap w (de b id (tG e))).toArray∧OwnB tys w (de b id (tG e)) X) (js e) ho (fun Hf lf hf=>Jt hf hB hid (jn aA (by decide)) (fun H'=>Q8 (ny f4) (by constructor <;> omega) (by constructor <;> omega) rb) (by rw [a1,f2];exact hid) (by rw [KX hi (a1.trans f2) a2 a3 (lO f4)])) ?_
 rintro _ H2 O2 ⟨w2,rfl,h2⟩ l2
 refine ⟨ap w2 _,rfl,bo H2 h2,?_⟩
 refine aa (aa ?_)
 exact ah ⟨w2,rfl,h2⟩
section
variable {H:Heap} {O:Own} {cv:Value} {cs:List CdX} (hgl:GlobOk CL H) (hk:CardsX H cv cs) {v:cX} {b:Bd} (ho:OwnB tys v b O) (hv:ax b=true) (hB:bdB b) {p src most:Int} {e:Eff} {t:Tg} (hev:EG e=true) {l:List Value} (hl:l=(cv::(ap v b++(iV p::iV src::(e.row++(t.row++[iV most]))))))
 {r1 r0 r3 n m:Nat} {who id:Int}
include hgl hk ho hv hB hev hl
theorem L6 (hw:who=0) (qn:g l n=iV who) (qm:g l m=iV id) (hid:i64 id) (hD:e.code=1→id > 0→bc b id=0) :
  (cT l n r1 m r0 r3).den PP (OW (aL cs b p who id e most)) H O:=by
 obtain ⟨n0,n99,m0,m99,c0,c3⟩:=oL hev
 have nsm:sm e.n:=by constructor <;> omega
 have msm:sm e.m:=by constructor <;> omega
 have lsm:sm (au b 0).life:=by have:=pT hv 0;constructor <;> omega
 have q41:g l 41=iV e.code:=by rw [hl];rfl
 simp only [cT]
 refine ⟨.i64,who,qn,fun _=>?_,fun h=>absurd hw h⟩
 subst hw
 refine aa ?_
 rw [q41,qm]
 refine ab _ (az _ _) (aj (fun h=>?_) (fun h=>?_))
 ·have hc:e.code=1:=by simpa using h
  refine ab _ (bH _ _) (aj (fun hp=>?_) (fun hp=>?_))
  ·have hp:id > 0:=of_decide_eq_true hp
   have ec:aL cs b p 0 id e most=de b id fun o=>{ o with dmg:=oA o.dmg e.n }:=by rw [aL,if_pos hc,if_pos hp]
   rw [ec]
   exact LZ ho hB hev hl qm hid (hD hc hp)
  ·have ec:aL cs b p 0 id e most=nM b 0 (ck ((au b 0).life - e.n) 9999):=by rw [aL,if_pos hc,if_neg (of_decide_eq_false hp)]
   rw [ec]
   exact GM ho hv hev hl
 have k1:e.code ≠ 1:=by simpa using h
 refine ab _ (az _ _) (aj (fun h=>?_) (fun h=>?_))
 ·have hc:e.code=2:=by simpa using h
  have ec:aL cs b p 0 id e most=(tc b 0 e.n).1:=by rw [aL,if_neg k1,if_pos hc]
  rw [ec]
  simp only [gz]
  rw [qn]
  subst hl
  refine aa (aa ?_)
  refine dF ho (fun Hf lf hf=>OT hf hB 0 e.n (by omega)) ?_
  rintro _ H2 O2 ⟨w2,rfl,h2⟩ l2
  refine ⟨ap w2 (tc b 0 e.n).1++[iV (tc b 0 e.n).2],rfl,ay (bo H2 h2) ⟨rfl,trivial⟩,?_⟩
  refine aa (aa (aa (aa ?_)))
  exact ah ⟨w2,rfl,h2⟩
 have k2:e.code ≠ 2:=by simpa using h
 refine ab _ (az _ _) (aj (fun h=>?_) (fun h=>?_))
 ·have hc:e.code=3:=by simpa using h
  have ec:aL cs b p 0 id e most=nM b 0 (ck ((au b 0).life + e.n) 9999):=by rw [aL,if_neg k1,if_neg k2,if_pos hc]
  rw [ec]
  subst hl
  refine aa (aa ?_)
  refine ai (jk lsm nsm 9999) rfl ⟨rfl,trivial⟩ fun H1 l1=>?_
  refine aa (aa (aa (aa ?_)))
  exact ah ⟨v,rfl,ct ho rfl rfl rfl rfl⟩
 have k3:e.code ≠ 3:=by simpa using h
 refine ab _ (az _ _) (aj (fun h=>?_) (fun h=>?_))
 ·have hc:e.code=4:=by simpa using h
  have ec:aL cs b p 0 id e most=nM b 0 (ck ((au b 0).life - e.n) 9999):=by rw [aL,if_neg k1,if_neg k2,if_neg k3,if_pos hc]
  rw [ec]
  exact GM ho hv hev hl
 have k4:e.code ≠ 4:=by simpa using h
 refine ab _ (az _ _) (aj (fun h=>?_) (fun h=>?_))
 ·have hc:e.code=6:=by simpa using h
  have ec:aL cs b p 0 id e most=(fL b id 1).1:=by rw [aL,if_neg k1,if_neg k2,if_neg k3,if_neg k4,if_pos hc]
  rw [ec]
  simp only [gy]
  rw [qm]
  subst hl
  refine aa ?_
  refine dF ho (fun Hf lf hf=>Ju hf hB hid 1) ?_
  rintro _ H2 O2 ⟨w2,rfl,h2⟩ l2
  refine ⟨ap w2 (fL b id 1).1++[iV (fL b id 1).2],rfl,ay (bo H2 h2) ⟨rfl,trivial⟩,?_⟩
  refine aa (aa (aa (aa ?_)))
  exact ah ⟨w2,rfl,h2⟩
 have k6:e.code ≠ 6:=by simpa using h
 refine ab _ (az _ _) (aj (fun h=>?_) (fun h=>?_))
 ·have hc:e.code=7:=by simpa using h
  have ec:aL cs b p 0 id e most=(bK b id).1:=by rw [aL,if_neg k1,if_neg k2,if_neg k3,if_neg k4,if_neg k6,if_pos hc]
  rw [ec]
  simp only [gx]
  rw [qm]
  subst hl
  refine aa ?_
  refine dF ho (fun Hf lf hf=>Hi hf hB hid) ?_
  rintro _ H2 O2 ⟨w2,rfl,h2⟩ l2
  refine ⟨ap w2 (bK b id).1++[iV (bK b id).2],rfl,ay (bo H2 h2) ⟨rfl,trivial⟩,?_⟩
  refine aa (aa (aa (aa ?_)))
  exact ah ⟨w2,rfl,h2⟩
 have k7:e.code ≠ 7:=by simpa using h
 refine ab _ (az _ _) (aj (fun h=>?_) (fun h=>?_))
 ·have hc:e.code=10:=by simpa using h
  have ec:aL cs b p 0 id e most=(AB b p e.n e.m most).1:=by rw [aL,if_neg k1,if_neg k2,if_neg k3,if_neg k4,if_neg k6,if_neg k7,if_pos hc]
  rw [ec]
  simp only [gB]
  subst hl
  refine aa (aa (aa ?_))
  refine dF ho (fun Hf lf hf=>Mx (hgl.le lf) hf hB (p:=p) (pw:=e.n) (tn:=e.m) (most:=most) (by omega) (by omega)) ?_
  rintro _ H2 O2 ⟨w2,OB,X,hp2,rfl,h2⟩ l2
  refine ⟨ap w2 (AB b p e.n e.m most).1++[iV (AB b p e.n e.m most).2.1,iV (AB b p e.n e.m most).2.2],rfl,ay (bo H2 h2) ⟨rfl,rfl,trivial⟩,?_⟩
  refine aa (aa (aa (aa ?_)))
  exact y3 hp2 ⟨w2,rfl,h2⟩
 have k10:e.code ≠ 10:=by simpa using h
 refine ab _ (az _ _) (aj (fun h=>?_) (fun h=>?_))
 ·have hc:e.code=12:=by simpa using h
  have ec:aL cs b p 0 id e most=bO b 0 (fX (au b 0) e.colour e.n):=by rw [aL,if_neg k1,if_neg k2,if_neg k3,if_neg k4,if_neg k6,if_neg k7,if_neg k10,if_pos hc]
  rw [ec]
  subst hl
  refine aa (aa ?_)
  obtain hc | hc | hc | hc:e.colour=0∨e.colour=1∨e.colour=2∨e.colour=3:=by omega
  ·refine ⟨.i64,e.colour,rfl,fun _=>?_,fun h=>absurd hc h⟩
   refine aa (aa ?_)
   refine ai (jk (dE hv 0).1 nsm 99) rfl ⟨rfl,trivial⟩ fun H1 l1=>?_
   simp only [aV]
   refine ⟨.i64,e.colour,rfl,fun _=>?_,fun h=>absurd hc h⟩
   refine aa (aa (aa (aa ?_)))
   refine ah ⟨v,?_,?_⟩
   ·rw [fX,if_pos hc];rfl
   ·rw [fX,if_pos hc];exact ct ho rfl rfl rfl rfl
  ·refine ⟨.i64,e.colour,rfl,fun h=>absurd (hc.symm.trans h) (by omega),fun _=>⟨.i64,e.colour,rfl,fun _=>?_,fun h=>absurd hc h⟩⟩
   refine aa (aa ?_)
   refine ai (jk (dE hv 0).2.1 nsm 99) rfl ⟨rfl,trivial⟩ fun H1 l1=>?_
   simp only [aV]
   refine ⟨.i64,e.colour,rfl,fun h=>absurd (hc.symm.trans h) (by omega),fun _=>⟨.i64,e.colour,rfl,fun _=>?_,fun h=>absurd hc h⟩⟩
   refine aa (aa (aa (aa ?_)))
   refine ah ⟨v,?_,?_⟩
   ·rw [fX,if_neg (by omega),if_pos hc];rfl
   ·rw [fX,if_neg (by omega),if_pos hc];exact ct ho rfl rfl rfl rfl
  ·refine ⟨.i64,e.colour,rfl,fun h=>absurd (hc.symm.trans h) (by omega),fun _=>⟨.i64,e.colour,rfl,fun h=>absurd (hc.symm.trans h) (by omega),fun _=>⟨.i64,e.colour,rfl,fun _=>?_,fun h=>absurd hc h⟩⟩⟩
   refine aa (aa ?_)
   refine ai (jk (dE hv 0).2.2.1 nsm 99) rfl ⟨rfl,trivial⟩ fun H1 l1=>?_
   simp only [aV]
   refine ⟨.i64,e.colour,rfl,fun h=>absurd (hc.symm.trans h) (by omega),fun _=>⟨.i64,e.colour,rfl,fun h=>absurd (hc.symm.trans h) (by omega),fun _=>⟨.i64,e.colour,rfl,fun _=>?_,fun h=>absurd hc h⟩⟩⟩
   refine aa (aa (aa (aa ?_)))
   refine ah ⟨v,?_,?_⟩
   ·rw [fX,if_neg (by omega),if_neg (by omega),if_pos hc];rfl
   ·rw [fX,if_neg (by omega),if_neg (by omega),if_pos hc];exact ct ho rfl rfl rfl rfl
  ·refine ⟨.i64,e.colour,rfl,fun h=>absurd (hc.symm.trans h) (by omega),fun _=>⟨.i64,e.colour,rfl,fun h=>absurd (hc.symm.trans h) (by omega),fun _=>⟨.i64,e.colour,rfl,fun h=>absurd (hc.symm.trans h) (by omega),fun _=>⟨.i64,e.colour,rfl,fun _=>?_,fun h=>absurd hc h⟩⟩⟩⟩
   refine aa (aa ?_)
   refine ai (jk (dE hv 0).2.2.2 nsm 99) rfl ⟨rfl,trivial⟩ fun H1 l1=>?_
   simp only [aV]
   refine ⟨.i64,e.colour,rfl,fun h=>absurd (hc.symm.trans h) (by omega),fun _=>⟨.i64,e.colour,rfl,fun h=>absurd (hc.symm.trans h) (by omega),fun _=>⟨.i64,e.colour,rfl,fun h=>absurd (hc.symm.trans h) (by omega),fun _=>⟨.i64,e.colour,rfl,fun _=>?_,fun h=>absurd hc h⟩⟩⟩⟩
   refine aa (aa (aa (aa ?_)))
   refine ah ⟨v,?_,?_⟩
   ·rw [fX,if_neg (by omega),if_neg (by omega),if_neg (by omega)];rfl
   ·rw [fX,if_neg (by omega),if_neg (by omega),if_neg (by omega)];exact ct ho rfl rfl rfl rfl
 have k12:e.code ≠ 12:=by simpa using h
 have ec:aL cs b p 0 id e most=if onB cs b id=true then de b id (tG e) else b:=by rw [aL,if_neg k1,if_neg k2,if_neg k3,if_neg k4,if_neg k6,if_neg k7,if_neg k10,if_neg k12]
 rw [ec]
 exact L7 hk ho hB hev hl qm hid
include hgl hk ho hv hB hev hl
theorem L5 (hw:who=1) (qn:g l n=iV who) (qm:g l m=iV id) (hid:i64 id) (hD:e.code=1→id > 0→bc b id=0) :
  (cT l n r1 m r0 r3).den PP (OW (aL cs b p who id e most)) H O:=by
 obtain ⟨n0,n99,m0,m99,c0,c3⟩:=oL hev
 have nsm:sm e.n:=by constructor <;> omega
 have msm:sm e.m:=by constructor <;> omega
 have lsm:sm (au b 1).life:=by have:=pT hv 1;constructor <;> omega
 have q41:g l 41=iV e.code:=by rw [hl];rfl
 simp only [cT]
 refine ⟨.i64,who,qn,fun h=>absurd (hw.symm.trans h) (by omega),fun _=>⟨.i64,who,qn,fun _=>?_,fun h=>absurd hw h⟩⟩
 subst hw
 refine aa ?_
 rw [q41,qm]
 refine ab _ (az _ _) (aj (fun h=>?_) (fun h=>?_))
 ·have hc:e.code=1:=by simpa using h
  refine ab _ (bH _ _) (aj (fun hp=>?_) (fun hp=>?_))
  ·have hp:id > 0:=of_decide_eq_true hp
   have ec:aL cs b p 1 id e most=de b id fun o=>{ o with dmg:=oA o.dmg e.n }:=by rw [aL,if_pos hc,if_pos hp]
   rw [ec]
   exact LZ ho hB hev hl qm hid (hD hc hp)
  ·have ec:aL cs b p 1 id e most=nM b 1 (ck ((au b 1).life - e.n) 9999):=by rw [aL,if_pos hc,if_neg (of_decide_eq_false hp)]
   rw [ec]
   exact GL ho hv hev hl
 have k1:e.code ≠ 1:=by simpa using h
 refine ab _ (az _ _) (aj (fun h=>?_) (fun h=>?_))
 ·have hc:e.code=2:=by simpa using h
  have ec:aL cs b p 1 id e most=(tc b 1 e.n).1:=by rw [aL,if_neg k1,if_pos hc]
  rw [ec]
  simp only [gz]
  rw [qn]
  subst hl
  refine aa (aa ?_)
  refine dF ho (fun Hf lf hf=>OT hf hB 1 e.n (by omega)) ?_
  rintro _ H2 O2 ⟨w2,rfl,h2⟩ l2
  refine ⟨ap w2 (tc b 1 e.n).1++[iV (tc b 1 e.n).2],rfl,ay (bo H2 h2) ⟨rfl,trivial⟩,?_⟩
  refine aa (aa (aa (aa ?_)))
  exact ah ⟨w2,rfl,h2⟩
 have k2:e.code ≠ 2:=by simpa using h
 refine ab _ (az _ _) (aj (fun h=>?_) (fun h=>?_))
 ·have hc:e.code=3:=by simpa using h
  have ec:aL cs b p 1 id e most=nM b 1 (ck ((au b 1).life + e.n) 9999):=by rw [aL,if_neg k1,if_neg k2,if_pos hc]
  rw [ec]
  subst hl
  refine aa (aa ?_)
  refine ai (jk lsm nsm 9999) rfl ⟨rfl,trivial⟩ fun H1 l1=>?_
  refine aa (aa (aa (aa ?_)))
  exact ah ⟨v,rfl,ct ho rfl rfl rfl rfl⟩
 have k3:e.code ≠ 3:=by simpa using h
 refine ab _ (az _ _) (aj (fun h=>?_) (fun h=>?_))
 ·have hc:e.code=4:=by simpa using h
  have ec:aL cs b p 1 id e most=nM b 1 (ck ((au b 1).life - e.n) 9999):=by rw [aL,if_neg k1,if_neg k2,if_neg k3,if_pos hc]
  rw [ec]
  exact GL ho hv hev hl
 have k4:e.code ≠ 4:=by simpa using h
 refine ab _ (az _ _) (aj (fun h=>?_) (fun h=>?_))
 ·have hc:e.code=6:=by simpa using h
  have ec:aL cs b p 1 id e most=(fL b id 1).1:=by rw [aL,if_neg k1,if_neg k2,if_neg k3,if_neg k4,if_pos hc]
  rw [ec]
  simp only [gy]
  rw [qm]
  subst hl
  refine aa ?_
  refine dF ho (fun Hf lf hf=>Ju hf hB hid 1) ?_
  rintro _ H2 O2 ⟨w2,rfl,h2⟩ l2
  refine ⟨ap w2 (fL b id 1).1++[iV (fL b id 1).2],rfl,ay (bo H2 h2) ⟨rfl,trivial⟩,?_⟩
  refine aa (aa (aa (aa ?_)))
  exact ah ⟨w2,rfl,h2⟩
 have k6:e.code ≠ 6:=by simpa using h
 refine ab _ (az _ _) (aj (fun h=>?_) (fun h=>?_))
 ·have hc:e.code=7:=by simpa using h
  have ec:aL cs b p 1 id e most=(bK b id).1:=by rw [aL,if_neg k1,if_neg k2,if_neg k3,if_neg k4,if_neg k6,if_pos hc]
  rw [ec]
  simp only [gx]
  rw [qm]
  subst hl
  refine aa ?_
  refine dF ho (fun Hf lf hf=>Hi hf hB hid) ?_
  rintro _ H2 O2 ⟨w2,rfl,h2⟩ l2
  refine ⟨ap w2 (bK b id).1++[iV (bK b id).2],rfl,ay (bo H2 h2) ⟨rfl,trivial⟩,?_⟩
  refine aa (aa (aa (aa ?_)))
  exact ah ⟨w2,rfl,h2⟩
 have k7:e.code ≠ 7:=by simpa using h
 refine ab _ (az _ _) (aj (fun h=>?_) (fun h=>?_))
 ·have hc:e.code=10:=by simpa using h
  have ec:aL cs b p 1 id e most=(AB b p e.n e.m most).1:=by rw [aL,if_neg k1,if_neg k2,if_neg k3,if_neg k4,if_neg k6,if_neg k7,if_pos hc]
  rw [ec]
  simp only [gB]
  subst hl
  refine aa (aa (aa ?_))
  refine dF ho (fun Hf lf hf=>Mx (hgl.le lf) hf hB (p:=p) (pw:=e.n) (tn:=e.m) (most:=most) (by omega) (by omega)) ?_
  rintro _ H2 O2 ⟨w2,OB,X,hp2,rfl,h2⟩ l2
  refine ⟨ap w2 (AB b p e.n e.m most).1++[iV (AB b p e.n e.m most).2.1,iV (AB b p e.n e.m most).2.2],rfl,ay (bo H2 h2) ⟨rfl,rfl,trivial⟩,?_⟩
  refine aa (aa (aa (aa ?_)))
  exact y3 hp2 ⟨w2,rfl,h2⟩
 have k10:e.code ≠ 10:=by simpa using h
 refine ab _ (az _ _) (aj (fun h=>?_) (fun h=>?_))
 ·have hc:e.code=12:=by simpa using h
  have ec:aL cs b p 1 id e most=bO b 1 (fX (au b 1) e.colour e.n):=by rw [aL,if_neg k1,if_neg k2,if_neg k3,if_neg k4,if_neg k6,if_neg k7,if_neg k10,if_pos hc]
  rw [ec]
  subst hl
  refine aa (aa ?_)
  obtain hc | hc | hc | hc:e.colour=0∨e.colour=1∨e.colour=2∨e.colour=3:=by omega
  ·refine ⟨.i64,e.colour,rfl,fun _=>?_,fun h=>absurd hc h⟩
   refine aa (aa ?_)
   refine ai (jk (dE hv 1).1 nsm 99) rfl ⟨rfl,trivial⟩ fun H1 l1=>?_
   simp only [aV]
   refine ⟨.i64,e.colour,rfl,fun _=>?_,fun h=>absurd hc h⟩
   refine aa (aa (aa (aa ?_)))
   refine ah ⟨v,?_,?_⟩
   ·rw [fX,if_pos hc];rfl
   ·rw [fX,if_pos hc];exact ct ho rfl rfl rfl rfl
  ·refine ⟨.i64,e.colour,rfl,fun h=>absurd (hc.symm.trans h) (by omega),fun _=>⟨.i64,e.colour,rfl,fun _=>?_,fun h=>absurd hc h⟩⟩
   refine aa (aa ?_)
   refine ai (jk (dE hv 1).2.1 nsm 99) rfl ⟨rfl,trivial⟩ fun H1 l1=>?_
   simp only [aV]
   refine ⟨.i64,e.colour,rfl,fun h=>absurd (hc.symm.trans h) (by omega),fun _=>⟨.i64,e.colour,rfl,fun _=>?_,fun h=>absurd hc h⟩⟩
   refine aa (aa (aa (aa ?_)))
   refine ah ⟨v,?_,?_⟩
   ·rw [fX,if_neg (by omega),if_pos hc];rfl
   ·rw [fX,if_neg (by omega),if_pos hc];exact ct ho rfl rfl rfl rfl
  ·refine ⟨.i64,e.colour,rfl,fun h=>absurd (hc.symm.trans h) (by omega),fun _=>⟨.i64,e.colour,rfl,fun h=>absurd (hc.symm.trans h) (by omega),fun _=>⟨.i64,e.colour,rfl,fun _=>?_,fun h=>absurd hc h⟩⟩⟩
   refine aa (aa ?_)
   refine ai (jk (dE hv 1).2.2.1 nsm 99) rfl ⟨rfl,trivial⟩ fun H1 l1=>?_
   simp only [aV]
   refine ⟨.i64,e.colour,rfl,fun h=>absurd (hc.symm.trans h) (by omega),fun _=>⟨.i64,e.colour,rfl,fun h=>absurd (hc.symm.trans h) (by omega),fun _=>⟨.i64,e.colour,rfl,fun _=>?_,fun h=>absurd hc h⟩⟩⟩
   refine aa (aa (aa (aa ?_)))
   refine ah ⟨v,?_,?_⟩
   ·rw [fX,if_neg (by omega),if_neg (by omega),if_pos hc];rfl
   ·rw [fX,if_neg (by omega),if_neg (by omega),if_pos hc];exact ct ho rfl rfl rfl rfl
  ·refine ⟨.i64,e.colour,rfl,fun h=>absurd (hc.symm.trans h) (by omega),fun _=>⟨.i64,e.colour,rfl,fun h=>absurd (hc.symm.trans h) (by omega),fun _=>⟨.i64,e.colour,rfl,fun h=>absurd (hc.symm.trans h) (by omega),fun _=>⟨.i64,e.colour,rfl,fun _=>?_,fun h=>absurd hc h⟩⟩⟩⟩
   refine aa (aa ?_)
   refine ai (jk (dE hv 1).2.2.2 nsm 99) rfl ⟨rfl,trivial⟩ fun H1 l1=>?_
   simp only [aV]
   refine ⟨.i64,e.colour,rfl,fun h=>absurd (hc.symm.trans h) (by omega),fun _=>⟨.i64,e.colour,rfl,fun h=>absurd (hc.symm.trans h) (by omega),fun _=>⟨.i64,e.colour,rfl,fun h=>absurd (hc.symm.trans h) (by omega),fun _=>⟨.i64,e.colour,rfl,fun _=>?_,fun h=>absurd hc h⟩⟩⟩⟩
   refine aa (aa (aa (aa ?_)))
   refine ah ⟨v,?_,?_⟩
   ·rw [fX,if_neg (by omega),if_neg (by omega),if_neg (by omega)];rfl
   ·rw [fX,if_neg (by omega),if_neg (by omega),if_neg (by omega)];exact ct ho rfl rfl rfl rfl
 have k12:e.code ≠ 12:=by simpa using h
 have ec:aL cs b p 1 id e most=if onB cs b id=true then de b id (tG e) else b:=by rw [aL,if_neg k1,if_neg k2,if_neg k3,if_neg k4,if_neg k6,if_neg k7,if_neg k10,if_neg k12]
 rw [ec]
 exact L7 hk ho hB hev hl qm hid
end
end Go.Proofs.YtdhobpmnkfmcfaaGreatDoor
namespace Go.Proofs.YtdhobpmnkfmcfaaGreatDoor
open Go Go.Sx
set_option maxRecDepth 100000
set_option maxHeartbeats 1000000
theorem I6 {b:Bd} (hv:ax b=true) {k:Nat} {o:Ob} (hk:b.objs[k]?=some o):bc b o.id=0∧dl b o.id=o∧eH b o.id=(k:Nat):=by
 have e3:=(d9 (aW hv).1 hk).2.2.1
 have hE0:bc b o.id=0:=by
  have:¬ eH b o.id < 0:=by omega
  simp [bc,hv,this]
 exact ⟨hE0,rn (by rw [hE0];rfl) hk e3,e3⟩
theorem IZ {cs:List CdX} {b:Bd} (hv:ax b=true) {q x:Int} (hq:q=0∨q=1) (h:x ∈ tF (cs.map CdX.base) b q):onB cs b x=true:=by
 obtain ⟨o,ho,rfl,ho2,hc,hf⟩:=(LE hv hq).1 h
 obtain ⟨k,hk⟩:=List.mem_iff_getElem?.1 ho
 obtain ⟨h1,h2,_⟩:=I6 hv hk
 rw [onB,h1,h2,ho2]
 have hc:eo (PS cs) o=true:=hc
 rw [hc]
 simpa using hf
theorem MC {cs:List CdX} {b:Bd} (hv:ax b=true) {q x:Int} (hq:q=0∨q=1) (h:x ∈ yn (cs.map CdX.base) b q):onB cs b x=true:=by
 rcases N5.1 h with h | h
 ·exact IZ hv hq h
 ·exact IZ hv (by omega) h
theorem mZ {cs:List CdX} {b:Bd} {x:Int} (h:onB cs b x=true):1≤x∧x≤500∧bc b x=0:=by
 have hi:bc b x=0:=by
  rw [onB,Bool.and_eq_true] at h
  simpa using h.1
 obtain ⟨k,f1,f2,f3,f4,f5⟩:=eW hi
 have:=xk f4
 rw [f2] at this
 exact ⟨this.1,this.2,hi⟩
theorem qj {cs:List CdX} {b:Bd} {p k:Int} {t:Tg} (h:ut (cs.map CdX.base) b p k t=true):(p=0∨p=1)∧ax b=true∧(t.player=0∨t.player=1) ∧
  ((k ≠ 6∧t.player=0∧onB cs b t.id=true∧k ≠ 4)∨(t.id=0∧(k=4∨k=5))∨(k=6∧t.player=0∧∃ x ∈ b.stack,x.id=t.id∧x.trig < 0)):=by
 obtain ⟨y,hy,he⟩:=List.any_eq_true.1 h
 have hty:t=y:=by simpa using he
 subst hty
 rw [zJ] at hy
 split at hy
 case isFalse=>cases hy
 rename_i hc
 rw [Bool.and_eq_true] at hc
 obtain ⟨hw,hv⟩:=hc
 have hp:p=0∨p=1:=by simp only [ar,decide_eq_true_eq] at hw;omega
 refine ⟨hp,hv,?_⟩
 have htg:∀ {l:List Int},t ∈ tgs l→t.player=0∧t.id ∈ l:=fun hm=>by
  obtain ⟨x,hx,rfl⟩:=List.mem_map.1 hm
  exact ⟨rfl,hx⟩
 have hpl:t ∈ plT p→t.id=0∧(t.player=0∨t.player=1):=fun hm=>by
  simp only [plT,List.mem_cons,List.not_mem_nil,or_false] at hm
  rcases hm with rfl | rfl
  ·exact ⟨rfl,by show 1 - p=0∨1 - p=1;omega⟩
  ·exact ⟨rfl,hp⟩
 rw [Fl] at hy
 split at hy
 ·obtain ⟨a,c⟩:=htg hy
  exact ⟨.inl a,.inl ⟨by omega,a,MC hv hp c,by omega⟩⟩
 split at hy
 ·obtain ⟨a,c⟩:=htg hy
  exact ⟨.inl a,.inl ⟨by omega,a,IZ hv (by omega) c,by omega⟩⟩
 split at hy
 ·obtain ⟨a,c⟩:=htg hy
  exact ⟨.inl a,.inl ⟨by omega,a,IZ hv hp c,by omega⟩⟩
 split at hy
 ·obtain ⟨a,c⟩:=hpl hy
  exact ⟨c,.inr (.inl ⟨a,.inl (by assumption)⟩)⟩
 split at hy
 ·rcases List.mem_append.1 hy with hy | hy
  ·obtain ⟨a,c⟩:=hpl hy
   exact ⟨c,.inr (.inl ⟨a,.inr (by assumption)⟩)⟩
  ·obtain ⟨a,c⟩:=htg hy
   exact ⟨.inl a,.inl ⟨by omega,a,MC hv hp c,by omega⟩⟩
 split at hy
 ·obtain ⟨a,c⟩:=htg hy
  obtain ⟨x,hx,hxe⟩:=List.mem_map.1 c
  obtain ⟨hx1,hx2⟩:=List.mem_filter.1 hx
  refine ⟨.inl a,.inr (.inr ⟨by assumption,a,x,List.mem_reverse.1 hx1,hxe,?_⟩)⟩
  simp only [nC,Bool.and_eq_true,decide_eq_true_eq] at hx2
  omega
 ·cases hy
theorem xZ {e:Eff} (h:EG e=true):(e.code=1→e.target=1∨e.target=2∨e.target=3∨e.target=4∨e.target=5)∧(e.code=2∨e.code=3∨e.code=4→e.target=0∨e.target=4) ∧
  (e.code=5∨e.code=6∨e.code=11→e.target=1∨e.target=2∨e.target=3)∧(e.code=7→e.target=6)∧(e.code=8∨e.code=9→e.target=0∨e.target=1∨e.target=2∨e.target=3)∧(e.code=10∨e.code=12→e.target=0)∧1≤e.code∧e.code≤12:=by
 have hB:∀ {l:List Int} {e:Eff},OL l e=true→e.target ∈ l:=fun h=>by
  simp only [OL,Bool.and_eq_true] at h
  simpa using h.1.1.1
 have hC:∀ {l:List Int} {k:Int} {e:Eff},NQ l k e=true→e.target ∈ l:=fun h=>by
  simp only [NQ,Bool.and_eq_true] at h
  have:=hB h.2
  exact this
 have hP:∀ {l:List Int} {k:Int} {e:Eff},NP l k e=true→e.target ∈ l:=fun h=>by
  simp only [NP,Bool.and_eq_true] at h
  have:=hB h.2
  exact this
 have hM:∀ {l:List Int} {k:Int} {e:Eff},OK l k e=true→e.target ∈ l:=fun h=>by
  simp only [OK,Bool.and_eq_true] at h
  have:=hC h.2
  exact this
 rw [EG,vP] at h
 repeat' (split at h)
 all_goals first
  | (have hm:=hC h;simp only [List.mem_cons,List.not_mem_nil,or_false] at hm;omega)
  | (have hm:=hB h;simp only [List.mem_cons,List.not_mem_nil,or_false] at hm;omega)
  | (have hm:=hP h;simp only [List.mem_cons,List.not_mem_nil,or_false] at hm;omega)
  | (have hm:=hM h;simp only [List.mem_cons,List.not_mem_nil,or_false] at hm;omega)
  | cases h
theorem Gu {cs:List CdX} {b:Bd} {p:Int} {e:Eff} {t:Tg} (h:¬ OV cs b p e t) (ht:e.target ≠ 0):ut (cs.map CdX.base) b p e.target t=true:=by
 cases hl:ut (cs.map CdX.base) b p e.target t
 ·exact absurd ⟨ht,hl⟩ h
 ·rfl
theorem GN {cs:List CdX} {b:Bd} {p src:Int} {e:Eff} {t:Tg} (hp:p=0∨p=1) (hs:i64 src) (hev:EG e=true) (h:¬ OV cs b p e t) :
  (FN p e t=0∨FN p e t=1)∧i64 (idE src e t)∧(e.code=1→idE src e t > 0→bc b (idE src e t)=0):=by
 by_cases h0:e.target=0
 ·rw [FN,idE,if_pos h0,if_pos h0]
  refine ⟨hp,hs,fun hc=>?_⟩
  have:=(xZ hev).1 hc
  omega
 ·rw [FN,idE,if_neg h0,if_neg h0]
  obtain ⟨_,hv,h1,h2⟩:=qj (Gu h h0)
  refine ⟨h1,?_,fun hc hpos=>?_⟩
  ·rcases h2 with ⟨_,_,h2,_⟩ | ⟨h2,_⟩ | ⟨_,_,x,hx,hxe,_⟩
   ·have:=mZ h2;constructor <;> omega
   ·constructor <;> omega
   ·have hxf:=yQ hv hx
    simp only [dk,ar,Bool.and_eq_true,decide_eq_true_eq] at hxf
    constructor <;> omega
  ·have:=(xZ hev).1 hc
   rcases h2 with ⟨_,_,h2,_⟩ | ⟨h2,_⟩ | ⟨_,_,x,hx,hxe,_⟩
   ·exact (mZ h2).2.2
   ·omega
   ·omega
theorem NW {H:Heap} {O:Own} {cv:Value} {cs:List CdX} (hgl:GlobOk CL H) (hk:CardsX H cv cs) (hli:eC (cs.map CdX.base)=true) {v:cX} {b:Bd} (ho:OwnB tys v b O) (hv:ax b=true) (hB:bdB b) {p src most:Int} (hp:p=0∨p=1) (hs:i64 src) {e:Eff} {t:Tg} (hev:EG e=true) :
  Triple PP sD [cv,.agg (ap v b).toArray,iV p,iV src,.agg e.row.toArray,.agg t.row.toArray,iV most] H O (OW (wK cs b p src e t most)):=by
 refine xu (vs:=cv::(ap v b++(iV p::iV src::(e.row++(t.row++[iV most]))))) (by kernel_rfl) ⟨hk.one,ay (bo H ho) ⟨rfl,rfl,ay (js e) (ay (oS t) ⟨rfl,trivial⟩)⟩⟩ ?_
 simp only [mh]
 refine af fun r0=>af fun r1=>af fun r2=>af fun r3=>?_
 have h200:=Br hv
 have core:∀ {n m r1 r0 r3:Nat} {H':Heap},Heap.le H H'→¬ OV cs b p e t→g (cv::(ap v b++(iV p::iV src::(e.row++(t.row++[iV most]))))) n=iV (FN p e t)→g (cv::(ap v b++(iV p::iV src::(e.row++(t.row++[iV most]))))) m=iV (idE src e t) →
   (cT (cv::(ap v b++(iV p::iV src::(e.row++(t.row++[iV most]))))) n r1 m r0 r3).den PP (OW (wK cs b p src e t most)) H' O:=by
  intro n m r1 r0 r3 H' hle hb qn qm
  obtain ⟨f1,f2,f3⟩:=GN hp hs hev hb
  rw [wK,if_neg hb]
  rcases f1 with f1 | f1
  ·exact L6 (hgl.le hle) (hk.le hle) ho hv hB hev rfl f1 qn qm f2 f3
  ·exact L5 (hgl.le hle) (hk.le hle) ho hv hB hev rfl f1 qn qm f2 f3
 refine aa ?_
 refine ab _ (bd _ _) (aj (fun h0=>?_) (fun h0=>?_))
 ·have h0:e.target ≠ 0:=by simpa using h0
  refine aa (aa (aa ?_))
  refine ai (OwnB.thaw ho fun Hf lf hf=>Qo (hk.le lf).base hli hf (by omega) p e.target t) rfl ⟨rfl,trivial⟩ fun H1 l1=>?_
  refine ab _ (aM _) (aj (fun hg=>?_) (fun hg=>?_))
  ·have hg:ut (cs.map CdX.base) b p e.target t=false:=vp hg
   rw [wK,if_pos ⟨h0,hg⟩]
   refine aa (aa (aa ?_))
   exact ah ⟨v,rfl,ho⟩
  have hg:ut (cs.map CdX.base) b p e.target t=true:=qW hg
  refine aa (aa ?_)
  exact core l1 (fun hb=>by rw [hb.2] at hg;cases hg) (by rw [FN,if_neg h0];rfl) (by rw [idE,if_neg h0];rfl)
 ·have h0:e.target=0:=by simpa using h0
  exact core (Heap.le_refl _) (fun hb=>hb.1 h0) (by rw [FN,if_pos h0];rfl) (by rw [idE,if_pos h0];rfl)
def bD (cs:List CdX) (b:Bd) (p src:Int) (e:Eff) (t:Tg) (most:Int):Bd × Int:=if (ar p 0 1 && (EG e && ax b))=true then (wK cs b p src e t most,0) else (zBd,2)
theorem FD {H:Heap} {cv:Value} {cs:List CdX} (hgl:GlobOk CL H) (hk:CardsX H cv cs) (hli:eC (cs.map CdX.base)=true) {v:cX} {b:Bd} (h:BdS H v b) (hB:bdB b) (p:Int) {src:Int} (most:Int) (hs:i64 src) (e:Eff) (t:Tg) :
  Triple PP sF [cv,.agg (ap v b).toArray,iV p,iV src,.agg e.row.toArray,.agg t.row.toArray,iV most] H [] fun r _ O'=>∃ w,r=.tuple #[.agg (ap w (bD cs b p src e t most).1).toArray,iV (bD cs b p src e t most).2]∧OwnB tys w (bD cs b p src e t most).1 O':=by
 refine xw (vs:=cv::(ap v b++(iV p::iV src::(e.row++(t.row++[iV most]))))) (by kernel_rfl) ⟨hk.one,ay (ao (h.r [])) ⟨rfl,rfl,ay (js e) (ay (oS t) ⟨rfl,trivial⟩)⟩⟩ ?_
 simp only [mj]
 refine af fun r0=>af fun r1=>af fun r2=>af fun r3=>?_
 refine ab _ (aI _ _) ?_
 refine ae ?_
 refine ab _ (bH _ _) ?_
 refine ae ?_
 refine ab _ (aR _ _) (aj (fun hc=>?_) (fun hc=>?_))
 ·have hc:(decide (p < 0) || decide (p > 1))=true:=hc
  rw [oD] at hc
  have e1:bD cs b p src e t most=(zBd,2):=by rw [bD,if_neg (by rw [vp hc];simp)]
  rw [e1]
  refine aa (aa ?_)
  exact ah ⟨zV,rfl,OwnB.zero tys⟩
 have hc:(decide (p < 0) || decide (p > 1))=false:=hc
 rw [oD] at hc
 have hw:=qW hc
 have hp:p=0∨p=1:=by simp only [ar,decide_eq_true_eq] at hw;omega
 refine aa ?_
 refine ai (EM e H) rfl ⟨rfl,trivial⟩ fun H1 l1=>?_
 refine ab _ (aM _) (aj (fun hc=>?_) (fun hc=>?_))
 ·have e1:bD cs b p src e t most=(zBd,2):=by rw [bD,if_neg (by rw [vp hc];simp)]
  rw [e1]
  refine aa (aa ?_)
  exact ah ⟨zV,rfl,OwnB.zero tys⟩
 have hev:=qW hc
 have h:=h.le l1
 refine aa ?_
 refine ai (dN (h.r [])) rfl ⟨rfl,trivial⟩ fun H2 l2=>?_
 refine ab _ (aM _) (aj (fun hc=>?_) (fun hc=>?_))
 ·have e1:bD cs b p src e t most=(zBd,2):=by rw [bD,if_neg (by rw [vp hc];simp)]
  rw [e1]
  refine aa (aa ?_)
  exact ah ⟨zV,rfl,OwnB.zero tys⟩
 have hv:=qW hc
 have h:=h.le l2
 have e1:bD cs b p src e t most=(wK cs b p src e t most,0):=by rw [bD,if_pos (by rw [hw,hev,hv];rfl)]
 rw [e1]
 refine aa (aa (aa ?_))
 refine aw (Hj h hB) ?_
 rintro _ H3 O3 ⟨w,rfl,ho⟩ l3
 refine ⟨ap w b,rfl,bo H3 ho,?_⟩
 have l13:=Heap.le_trans l1 (Heap.le_trans l2 l3)
 refine yg (O1:=O3) (O2:=[]) (List.Perm.refl _) (NW (hgl.le l13) (hk.le l13) hli ho hv hB hp hs hev) ?_
 rintro _ H4 O4 ⟨w4,rfl,h4⟩ l4
 refine ⟨ap w4 _,rfl,bo H4 h4,?_⟩
 rw [List.append_nil]
 refine aa (aa ?_)
 exact ah ⟨w4,rfl,h4⟩
end Go.Proofs.YtdhobpmnkfmcfaaGreatDoor
namespace Go.Proofs.YtdhobpmnkfmcfaaGreatDoor
open Go Go.Sx
set_option maxRecDepth 100000
set_option maxHeartbeats 1000000
theorem OG:∀ (l:List Ob) (m:Nat),m≤500→(l.map (·.id)).Pairwise (· < ·)→(∀ o ∈ l,(m:Int) < o.id∧o.id≤500)→l.length + m≤500
 | [],m,h,_,_=>by simpa using h
 | o::l,m,h,hp,hm=>by
  rw [List.map_cons,List.pairwise_cons] at hp
  obtain ⟨h1,h2⟩:=hm o List.mem_cons_self
  have:=OG l (m + 1) (by omega) hp.2 fun x hx=>by
   have h3:=hp.1 _ (List.mem_map_of_mem hx)
   have h4:=(hm x (List.mem_cons_of_mem _ hx)).2
   omega
  rw [List.length_cons];omega
theorem KH {b:Bd} (h:ax b=true):b.objs.length≤500 :=
 OG b.objs 0 (by omega) (lL (gQ (aW h).1).1) fun o ho=>by have:=(xj h).1 o ho;omega
theorem PU {b:Bd} (h:ax b=true) {i:Nat} (hi:i < cz b):eH b ((i:Int) + 1)=i:=by
 have:=(qq h).2.1 i hi
 simp only [Option.map_eq_some_iff] at this
 obtain ⟨o,ho,he⟩:=this
 rw [← he]
 exact (d9 (aW h).1 ho).2.2.1
theorem NL {b:Bd} (h:ax b=true):eH b ((cz b:Int) + 1) < 0:=by
 refine Decidable.byContradiction fun hn=>?_
 obtain ⟨k,o,e1,e2,_⟩:=nO hn
 exact (qq h).2.2 o (List.mem_of_getElem? e1) e2
theorem Hb {P:Program} {f:FuncId} {args:List Value} {H:Heap} {O:Own} {e:TypeId} {size:Nat} {x:Value} {rows:List (List Value)} {R:Value→Heap→Own→Prop} {shp:Shp} {K:List Value→List (List Value)→Heap→Own→Prop}
  (hx:OSl e size x rows O) (h:∀ Hf,Heap.le H Hf→Sl Hf size x rows→Triple P f args Hf [] R) (hk:∀ v H' ,R v H' []→Heap.le H H'→∃ vs,shp.open v=some vs∧Ones vs∧K vs [] H' []) (hR:∀ v H' O',R v H' O'→O'=[]:=by rintro _ _ _ ⟨_,rfl⟩;rfl) :
  dT (fun H1 O1 R=>Triple P f args H1 O1 R) false [] [] shp K H O:=by
 intro hc
 obtain ⟨Hf,g,hs,hl⟩:=hx.freeze (X:=[]) (by simpa using hc)
 refine ⟨Hf,[],[],R,(by rw [List.append_nil] at g;exact g:Ghost H O Hf []),h Hf hl hs,fun v H' O' hr hle=>?_⟩
 obtain rfl:=hR v H' O' hr
 obtain ⟨vs,h1,h2,h3⟩:=hk v H' hr (Heap.le_trans hl hle)
 exact ⟨vs,[],[],h1,h2,trivial,rfl,h3⟩
def vG (b:Bd) (p pw tn most:Int):Bd × Int :=
 if (decide ((b.objs.length:Int) ≥ most) || decide ((cz b:Int) + 1 > 500))=true then (b,0) else (QF b (cz b) p pw tn,(cz b:Int) + 1)
theorem Ll {H:Heap} {v:cX} {b:Bd} (h:BdS H v b) (hB:bdB b) (hval:ax b=true) {p:Int} (hp:p=0∨p=1) (pw tn most:Int) :
  Triple PP mJ [.agg (ap v b).toArray,iV p,iV pw,iV tn,iV most] H [] fun r H' O'=>(∃ w,r=.tuple #[.agg (ap w (vG b p pw tn most).1).toArray,iV (vG b p pw tn most).2]∧BdS H' w (vG b p pw tn most).1)∧O'=[]:=by
 refine sR (vs:=ap v b++[iV p,iV pw,iV tn,iV most]) (by kernel_rfl) (ay (ao (h.r [])) ⟨rfl,rfl,rfl,rfl,trivial⟩) ?_
 simp only [iK]
 have hf:=qq hval
 have h5:=KH hval
 refine af fun r0=>af fun r1=>?_
 refine aa ?_
 refine aw (Triple.frozen (Eg h hB)) ?_
 rintro _ H1 _ ⟨⟨w,rfl,hw⟩,rfl⟩ l1
 refine ⟨ap w b,rfl,ao (hw.r []),?_⟩
 refine aa ?_
 refine ji (fun vs H' O'=>∃ i:Nat,vs=[iV ((i:Int) + 1)]∧i≤cz b∧Heap.le H1 H'∧O'=[]) (fun vs _ _=>match g vs 0 with | .int _ k=>cz b + 1 - k.toNat | _=>0) ⟨0,rfl,Nat.zero_le _,Heap.le_refl _,rfl⟩ ?_
 rintro vs H2 O2 _ _ _ ⟨i,rfl,hi,hle,rfl⟩
 replace hw:=hw.le hle
 refine aa ?_
 refine ai (wv (hw.r _) ((i:Int) + 1)) rfl ⟨rfl,trivial⟩ fun H3 l3=>?_
 refine ab _ (cZ _ _) (aj (fun hb=>?_) (fun hb=>?_))
 ·have hlt:i < cz b:=by
   refine Nat.lt_of_le_of_ne hi fun e=>?_
   subst e
   have:=NL hval
   have hb:eH b ((cz b:Int) + 1) ≥ 0:=by simpa using hb
   omega
  refine ab (iV (((i + 1:Nat):Int) + 1)) (rv (x:=(i:Int) + 1) (y:=1) (by omega) (by omega)) (eF (by simp [Eqs]) ⟨i + 1,rfl,hlt,Heap.le_trans hle l3,rfl⟩ ?_)
  show cz b + 1 - (((i + 1:Nat):Int) + 1).toNat < cz b + 1 - ((i:Int) + 1).toNat
  omega
 ·have hil:i=cz b:=by
   refine Nat.le_antisymm hi (Nat.le_of_not_lt fun hlt=>?_)
   have:=PU hval hlt
   have hb:¬ eH b ((i:Int) + 1) ≥ 0:=by simpa using hb
   omega
  subst hil
  replace hw:=hw.le l3
  have hlen:al .len [w.o]=some (iV b.objs.length):=by have:=hw.objs.len;rwa [List.length_map] at this
  refine aa ?_
  refine ab _ hlen ?_
  refine ab _ (cZ _ _) ?_
  refine ae ?_
  refine ab _ (bH _ _) ?_
  refine ae ?_
  refine ab _ (aR _ _) (aj (fun hb=>?_) (fun hb=>?_))
  ·have e:vG b p pw tn most=(b,0):=by rw [vG,if_pos hb]
   refine aa (aa (aa ?_))
   refine ah ⟨⟨w,?_,?_⟩,rfl⟩
   ·rw [e];rfl
   ·rw [e];exact hw
  have e:vG b p pw tn most=(QF b (cz b) p pw tn,(cz b:Int) + 1):=by rw [vG,if_neg (by rw [hb];simp)]
  refine ai (QQ pw) rfl ⟨rfl,trivial⟩ fun H4 l4=>?_
  refine ai (QQ tn) rfl ⟨rfl,trivial⟩ fun H5 l5=>?_
  replace hw:=hw.le (Heap.le_trans l4 l5)
  refine af fun r2=>?_
  have hs1:al (.bin .sub .int) [iV ((cz b:Int) + 1),iV 1]=some (iV (cz b:Int)):=by
   rw [show (iV (cz b:Int))=iV ((cz b:Int) + 1 - 1) by congr 1;omega];exact EX (by omega) (by omega)
  obtain ⟨u1,e1,s1⟩:=hw.objs.from (i:=cz b) (by rw [List.length_map];exact hf.1)
  obtain ⟨u2,e2,s2⟩:=hw.objs.upto (i:=cz b) (by rw [List.length_map];exact hf.1)
  refine aa (aa (aa ?_))
  refine ab _ hs1 ?_
  refine ab _ e1 ?_
  refine af fun r3=>?_
  refine ki (ad:=⟨r3,0,none⟩) (rows:=[(KL ((cz b:Int) + 1) p pw tn true).row]) (news:=(b.objs.map Ob.row).drop (cz b)) (size:=12) (e:=aK) (by kernel_rfl) (fun Hf _ hf=>Sl.block1 (hf _ List.mem_cons_self) rfl (bA _)) s1 (by rw [show kj PP aK=80 by kernel_rfl];simp;omega) (by simp;omega) fun v1 H6 l6 hv1=>?_
  refine aa ?_
  refine ab _ hs1 ?_
  refine ab _ e2 ?_
  refine dO (e:=aK) (size:=12) (bytes:=80) (by kernel_rfl) (s2.le l6) (by simp;omega) (by simp;omega) fun xa Oa H7 lA pa=>?_
  refine aG (rows:=(b.objs.map Ob.row).take (cz b)) (news:=[(KL ((cz b:Int) + 1) p pw tn true).row]++(b.objs.map Ob.row).drop (cz b)) (O1:=Oa) (O2:=[]) (e:=aK) (size:=12) (bytes:=80) (by kernel_rfl) (by simp) pa (fun Hf lf _=>(hv1.le lA).le lf) (by simp;omega) (by simp;omega) ?_
  intro v' A' H8 l8 hA'
  rw [List.append_nil]
  have lz:=Heap.le_trans l6 (Heap.le_trans lA l8)
  replace hw:=hw.le lz
  have hA2:OSl aK 12 v' (List.map Ob.row (b.objs.take (cz b)++[KL ((cz b:Int) + 1) p pw tn true]++b.objs.drop (cz b))) A':=by
   rw [List.append_assoc,List.map_append,List.map_append,List.map_take,List.map_drop]
   exact hA'
  have hB2:bdB { b with objs:=b.objs.take (cz b)++[KL ((cz b:Int) + 1) p pw tn true]++b.objs.drop (cz b) }:=⟨by simp;omega,hB.2⟩
  refine aa (aa (aa ?_))
  refine Hb hA2 (fun Hf lf hs=>QO (v:={ w with o:=v' }) (b:={ b with objs:=b.objs.take (cz b)++[KL ((cz b:Int) + 1) p pw tn true]++b.objs.drop (cz b) }) ⟨hs,(hw.le lf).s0,(hw.le lf).s1,(hw.le lf).stack,(hw.le lf).queue,(hw.le lf).att,(hw.le lf).blocks⟩ hB2 (KL ((cz b:Int) + 1) p pw tn true) hp 2) ?_
  rintro _ H9 ⟨⟨w2,rfl,hw2⟩,-⟩ l9
  refine ⟨ap w2 (QF b (cz b) p pw tn),rfl,ao (hw2.r []),?_⟩
  refine aa (aa ?_)
  refine ah ⟨⟨w2,?_,?_⟩,rfl⟩
  ·rw [e];rfl
  ·rw [e];exact hw2
end Go.Proofs.YtdhobpmnkfmcfaaGreatDoor
namespace Go.Proofs.YtdhobpmnkfmcfaaGreatDoor
open Go Go.Sx
set_option maxRecDepth 100000
set_option maxHeartbeats 1000000
theorem Of {b:Bd} (hval:ax b=true) {p:Int} (hp:p=0∨p=1) (pw tn most:Int):AB b p pw tn most=((vG b p pw tn most).1,(vG b p pw tn most).2,0):=by
 have hw:ar p 0 1=true:=by simp only [ar,decide_eq_true_eq];omega
 rw [AB,if_neg (by rw [hval,hw];simp),vG]
 by_cases h1:(b.objs.length:Int) ≥ most
 ·rw [if_pos h1,if_pos (by rw [decide_eq_true h1];rfl)]
 ·rw [if_neg h1]
  by_cases h2:500≤cz b
  ·rw [if_pos h2,if_pos (by rw [decide_eq_true (show (cz b:Int) + 1 > 500 by omega),Bool.or_true])]
  ·rw [if_neg h2,if_neg (by rw [decide_eq_false h1,decide_eq_false (show ¬ (cz b:Int) + 1 > 500 by omega)];simp)]
end Go.Proofs.YtdhobpmnkfmcfaaGreatDoor
