/- resolve.happen, resolve.Effect. -/
import Derived.Test.YtdhobpmnkfmcfaaGreatDoorC41
import Derived.Test.YtdhobpmnkfmcfaaGreatDoorC51
import Derived.Test.YtdhobpmnkfmcfaaGreatDoorC32
namespace Go.Proofs.YtdhobpmnkfmcfaaGreatDoor
open Go Go.Sx
set_option maxRecDepth 100000
set_option maxHeartbeats 1000000
theorem dr {P:Program} {f:FuncId} {args:List Value} {H:Heap} {O:Own} {tt:Tys} {w:cn} {b:Bd} {R:Value→Heap→Own→Prop} {shp:Shp} {K:List Value→List (List Value)→Heap→Own→Prop}
  (ho:OwnB tt w b O) (h:∀ Hf,Heap.le H Hf→BdS Hf w b→Triple P f args Hf [] R) (hk:∀ v H' O1,R v H' O1→Heap.le H H'→∃ vs,shp.open v=some vs∧Ones vs∧K vs [] H' O1) :
  dZ (fun H1 O1 R=>Triple P f args H1 O1 R) false [] [] shp K H O:=by
 intro hc
 obtain⟨Hf,g,k,lf⟩:=ho.freeze (X:=[]) (by simpa using hc)
 refine⟨Hf,[],[],R,(by rw[List.append_nil] at g;exact g:Ghost H O Hf []),h Hf lf k,fun v H' O' hr hle=>?_⟩
 obtain⟨vs,h1,h2,h3⟩:=hk v H' O' hr (Heap.le_trans lf hle)
 exact⟨vs,[],O',h1,h2,trivial,rfl,by rw[List.append_nil];exact h3⟩
theorem FN {P:Program} {f:FuncId} {args:List Value} {H:Heap} {O:Own} {tt:Tys} {w:cn} {b:Bd} {R:Value→Heap→Own→Prop} {bv:BV} (hbv:Ones bv.vs) {shp:Shp} {K:List Value→List (List Value)→Heap→Own→Prop}
  (ho:OwnB tt w b O) (h:∀ Hf,Heap.le H Hf→BdS Hf w b→Triple P f args Hf [bv.obj] fun r H' O'=>∃ X,O'=bv.obj::X∧R r H' X) (hk:∀ v H' O1,R v H' O1→Heap.le H H'→∃ vs,shp.open v=some vs∧Ones vs∧K vs [bv.vs] H' O1) :
  dZ (fun H1 O1 R=>Triple P f args H1 O1 R) false [] [bv] shp K H O:=by
 intro hc
 have hc:Cons H ([bv.obj]++O):=hc
 have hcO:Cons H (O++[]):=by
  obtain⟨w0,F,hm⟩:=hc
  exact⟨w0,F,hm.sub (by rw[List.append_nil];exact (List.sublist_append_right [bv.obj] O).append_right F)⟩
 obtain⟨Hf,g,k,lf⟩:=ho.freeze (X:=[]) hcO
 refine⟨Hf,[],[],_,(by rw[List.append_nil] at g;exact g:Ghost H O Hf []),h Hf lf k,?_⟩
 rintro v H' O' ⟨X,rfl,hr⟩ hle
 obtain⟨vs,h1,h2,h3⟩:=hk v H' X hr (Heap.le_trans lf hle)
 exact⟨vs,[bv.vs],X,h1,h2,⟨rfl,hbv,trivial⟩,rfl,by rw[List.append_nil];exact h3⟩
theorem ck {v:cn} {b:Bd} {O:Own} (ho:OwnB tys v b O) {q:Int} {s:St} (h1:s.lib=(ao b q).lib) (h2:s.hand=(ao b q).hand) (h3:s.field=(ao b q).field) (h4:s.grave=(ao b q).grave):OwnB tys v (aV b q s) O:=by
 obtain⟨Oo,A0,B0,C0,D0,A1,B1,C1,D1,Os,Oq,Oa,Obk,hp,h⟩:=ho
 refine⟨Oo,A0,B0,C0,D0,A1,B1,C1,D1,Os,Oq,Oa,Obk,hp,?_⟩
 by_cases hq:q=0
 ·rw[ao,if_pos hq] at h1 h2 h3 h4
  rw[aV,if_pos hq]
  exact⟨h.objs,by rw[h1];exact h.l0,by rw[h2];exact h.h0,by rw[h3];exact h.f0,by rw[h4];exact h.g0,h.l1,h.h1,h.f1,h.g1,h.stack,h.queue,h.att,h.blocks⟩
 ·rw[ao,if_neg hq] at h1 h2 h3 h4
  rw[aV,if_neg hq]
  exact⟨h.objs,h.l0,h.h0,h.f0,h.g0,by rw[h1];exact h.l1,by rw[h2];exact h.h1,by rw[h3];exact h.f1,by rw[h4];exact h.g1,h.stack,h.queue,h.att,h.blocks⟩
def TS (x:Bd) (r:Value) (_:Heap) (O':Own):Prop:=∃ w,r=.agg (al w x).toArray∧OwnB tys w x O'
theorem IS {H:Heap} {O:Own} {cv:Value} {v:cn} {b:Bd} (ho:OwnB tys v b O) (hv:an b=true) {p src most:Int} {e:Eff} {t:Tg} (hev:rF e=true) {l:List Value} (hl:l=(cv::(al v b++(iV p::iV src::(e.row++(t.row++[iV most])))))) {ra rb rc:Nat} :
  (gw ra rb l rc).den PP (TS (iI b 0 (bp ((ao b 0).life - e.n) 9999))) H O:=by
 obtain⟨n0,n99,m0,m99,c0,c3⟩:=jF hev
 simp only[gw]
 subst hl
 refine aa (aa ?_)
 refine aj (LQ (a:=(ao b 0).life) (b:=e.n) (by have:=nG hv 0;constructor <;> omega) (by constructor <;> omega) 9999) rfl ⟨rfl,trivial⟩ fun H1 l1=>?_
 refine aa (aa (aa (aa ?_)))
 exact ah ⟨v,rfl,ck ho rfl rfl rfl rfl⟩
theorem IR {H:Heap} {O:Own} {cv:Value} {v:cn} {b:Bd} (ho:OwnB tys v b O) (hv:an b=true) {p src most:Int} {e:Eff} {t:Tg} (hev:rF e=true) {l:List Value} (hl:l=(cv::(al v b++(iV p::iV src::(e.row++(t.row++[iV most])))))) {ra rb rc:Nat} :
  (fQ ra rb l rc).den PP (TS (iI b 1 (bp ((ao b 1).life - e.n) 9999))) H O:=by
 obtain⟨n0,n99,m0,m99,c0,c3⟩:=jF hev
 simp only[fQ]
 subst hl
 refine aa (aa ?_)
 refine aj (LQ (a:=(ao b 1).life) (b:=e.n) (by have:=nG hv 1;constructor <;> omega) (by constructor <;> omega) 9999) rfl ⟨rfl,trivial⟩ fun H1 l1=>?_
 refine aa (aa (aa (aa ?_)))
 exact ah ⟨v,rfl,ck ho rfl rfl rfl rfl⟩
theorem Qc {H:Heap} {O:Own} {cv:Value} {v:cn} {b:Bd} (ho:OwnB tys v b O) (hB:bdB b) {p src most:Int} {e:Eff} {t:Tg} (hev:rF e=true) {l:List Value} (hl:l=(cv::(al v b++(iV p::iV src::(e.row++(t.row++[iV most])))))) {ra rb rc m:Nat} {id:Int} (qm:g l m=iV id) (hid:i64 id) (hi:ba b id=0) :
  (gA ra l m rb rc).den PP (TS (bV b id fun o=>{ o with dmg:=oM o.dmg e.n })) H O:=by
 obtain⟨n0,n99,m0,m99,c0,c3⟩:=jF hev
 obtain⟨k,f1,f2,f3,f4,f5⟩:=dD hi
 have q5:G5 l 41=e.row:=by rw[hl];rfl
 have q38:ag (G38 l 1)=.agg (al v b).toArray:=by rw[hl];rfl
 simp only[gA]
 rw[qm,q5,q38]
 generalize hg:(fun o:Ob=>{ o with dmg:=oM o.dmg e.n })=gg
 have g1:∀ o,(gg o).id=o.id∧(gg o).card=o.card∧(gg o).owner=o.owner:=fun o=>by rw[← hg];exact⟨rfl,rfl,rfl⟩
 have g2:aW (gg (cY b id))=true:=by rw[← hg];exact yg f4 _
 have g3:∀ H',RetO PP ka [.agg (cY b id).row.toArray,.pointer (some ⟨rb,0,none⟩)] H' [(QL rb e).obj] (.agg (gg (cY b id)).row.toArray):=fun H'=>by
  rw[← hg];exact V5 (nB f4) (by constructor <;> omega) rb
 clear hg
 refine aa ?_
 refine FN (bv:=QL rb e) (R:=fun r _ X=>∃ w,r=.agg (al w (bV b id gg)).toArray∧OwnB tys w (bV b id gg) X) (kU e) ho (fun Hf lf hf=>LR hf hB hid (iW lT (by decide)) g3 (by rw[(g1 _).1,f2];exact hid) (by rw[HH hi ((g1 _).1.trans f2) (g1 _).2.1 (g1 _).2.2 g2])) ?_
 rintro _ H2 O2 ⟨w2,rfl,h2⟩ l2
 refine⟨al w2 _,rfl,aZ H2 h2,?_⟩
 refine aa (aa ?_)
 exact ah ⟨w2,rfl,h2⟩
theorem Qf {H:Heap} {O:Own} {cv:Value} {cs:List CdX} (hk:CardsX H cv cs) {v:cn} {b:Bd} (ho:OwnB tys v b O) (hB:bdB b) {p src most:Int} {e:Eff} {t:Tg} (hev:rF e=true) {l:List Value} (hl:l=(cv::(al v b++(iV p::iV src::(e.row++(t.row++[iV most])))))) {ra rb rc m:Nat} {id:Int} (qm:g l m=iV id) (hid:i64 id) :
  (gC ra l m rc rb).den PP (TS (if onB cs b id=true then bV b id (sW e) else b)) H O:=by
 obtain⟨n0,n99,m0,m99,c0,c3⟩:=jF hev
 have q5:G5 l 41=e.row:=by rw[hl];rfl
 have q38:ag (G38 l 1)=.agg (al v b).toArray:=by rw[hl];rfl
 have q0:g l 0=cv:=by rw[hl];rfl
 simp only[gC]
 rw[qm,q5,q38,q0]
 refine aa ?_
 refine aj (Xt hk (ho.r (fun p hp=>hp) H) hid) rfl ⟨rfl,trivial⟩ fun H1 l1=>?_
 refine ab _ (aJ _) (ai (fun h=>?_) (fun h=>?_))
 ·have h:onB cs b id=false:=u6 h
  rw[if_neg (by rw[h];simp)]
  refine aa (aa (aa ?_))
  exact ah ⟨v,rfl,ho⟩
 have h:onB cs b id=true:=sR h
 rw[if_pos h]
 have hi:ba b id=0:=by
  rw[onB,Bool.and_eq_true] at h
  simpa using h.1
 obtain⟨k,f1,f2,f3,f4,f5⟩:=dD hi
 obtain⟨a1,a2,a3⟩:=jL e (cY b id)
 refine aa ?_
 refine FN (bv:=QL rb e) (R:=fun r _ X=>∃ w,r=.agg (al w (bV b id (sW e))).toArray∧OwnB tys w (bV b id (sW e)) X) (kU e) ho (fun Hf lf hf=>LR hf hB hid (iW lT (by decide)) (fun H'=>V4 (nB f4) (by constructor <;> omega) (by constructor <;> omega) rb) (by rw[a1,f2];exact hid) (by rw[HH hi (a1.trans f2) a2 a3 (jK f4)])) ?_
 rintro _ H2 O2 ⟨w2,rfl,h2⟩ l2
 refine⟨al w2 _,rfl,aZ H2 h2,?_⟩
 refine aa (aa ?_)
 exact ah ⟨w2,rfl,h2⟩
section
variable {H:Heap} {O:Own} {cv:Value} {cs:List CdX} (hgl:GlobOk zC H) (hk:CardsX H cv cs) {v:cn} {b:Bd} (ho:OwnB tys v b O) (hv:an b=true) (hB:bdB b) {p src most:Int} {e:Eff} {t:Tg} (hev:rF e=true) {l:List Value} (hl:l=(cv::(al v b++(iV p::iV src::(e.row++(t.row++[iV most]))))))
 {r1 r0 r3 n m:Nat} {who id:Int}
include hgl hk ho hv hB hev hl
theorem Qe (hw:who=0) (qn:g l n=iV who) (qm:g l m=iV id) (hid:i64 id) (hD:e.code=1→id > 0→ba b id=0) :
  (cN l n r1 m r0 r3).den PP (TS (aF cs b p who id e most)) H O:=by
 obtain⟨n0,n99,m0,m99,c0,c3⟩:=jF hev
 have nsm:sm e.n:=by constructor <;> omega
 have msm:sm e.m:=by constructor <;> omega
 have lsm:sm (ao b 0).life:=by have:=nG hv 0;constructor <;> omega
 have q41:g l 41=iV e.code:=by rw[hl];rfl
 simp only[cN]
 refine⟨.i64,who,qn,fun _=>?_,fun h=>absurd hw h⟩
 subst hw
 refine aa ?_
 rw[q41,qm]
 refine ab _ (ay _ _) (ai (fun h=>?_) (fun h=>?_))
 ·have hc:e.code=1:=by simpa using h
  refine ab _ (bK _ _) (ai (fun hp=>?_) (fun hp=>?_))
  ·have hp:id > 0:=of_decide_eq_true hp
   have ec:aF cs b p 0 id e most=bV b id fun o=>{ o with dmg:=oM o.dmg e.n }:=by rw[aF,if_pos hc,if_pos hp]
   rw[ec]
   exact Qc ho hB hev hl qm hid (hD hc hp)
  ·have ec:aF cs b p 0 id e most=iI b 0 (bp ((ao b 0).life - e.n) 9999):=by rw[aF,if_pos hc,if_neg (of_decide_eq_false hp)]
   rw[ec]
   exact IS ho hv hev hl
 have k1:e.code ≠ 1:=by simpa using h
 refine ab _ (ay _ _) (ai (fun h=>?_) (fun h=>?_))
 ·have hc:e.code=2:=by simpa using h
  have ec:aF cs b p 0 id e most=(nU b 0 e.n).1:=by rw[aF,if_neg k1,if_pos hc]
  rw[ec]
  simp only[gz]
  rw[qn]
  subst hl
  refine aa (aa ?_)
  refine dr ho (fun Hf lf hf=>TP hf hB 0 e.n (by omega)) ?_
  rintro _ H2 O2 ⟨w2,rfl,h2⟩ l2
  refine⟨al w2 (nU b 0 e.n).1++[iV (nU b 0 e.n).2],rfl,ax (aZ H2 h2) ⟨rfl,trivial⟩,?_⟩
  refine aa (aa (aa (aa ?_)))
  exact ah ⟨w2,rfl,h2⟩
 have k2:e.code ≠ 2:=by simpa using h
 refine ab _ (ay _ _) (ai (fun h=>?_) (fun h=>?_))
 ·have hc:e.code=3:=by simpa using h
  have ec:aF cs b p 0 id e most=iI b 0 (bp ((ao b 0).life + e.n) 9999):=by rw[aF,if_neg k1,if_neg k2,if_pos hc]
  rw[ec]
  subst hl
  refine aa (aa ?_)
  refine aj (iS lsm nsm 9999) rfl ⟨rfl,trivial⟩ fun H1 l1=>?_
  refine aa (aa (aa (aa ?_)))
  exact ah ⟨v,rfl,ck ho rfl rfl rfl rfl⟩
 have k3:e.code ≠ 3:=by simpa using h
 refine ab _ (ay _ _) (ai (fun h=>?_) (fun h=>?_))
 ·have hc:e.code=4:=by simpa using h
  have ec:aF cs b p 0 id e most=iI b 0 (bp ((ao b 0).life - e.n) 9999):=by rw[aF,if_neg k1,if_neg k2,if_neg k3,if_pos hc]
  rw[ec]
  exact IS ho hv hev hl
 have k4:e.code ≠ 4:=by simpa using h
 refine ab _ (ay _ _) (ai (fun h=>?_) (fun h=>?_))
 ·have hc:e.code=6:=by simpa using h
  have ec:aF cs b p 0 id e most=(cX b id 1).1:=by rw[aF,if_neg k1,if_neg k2,if_neg k3,if_neg k4,if_pos hc]
  rw[ec]
  simp only[gy]
  rw[qm]
  subst hl
  refine aa ?_
  refine dr ho (fun Hf lf hf=>Jb hf hB hid 1) ?_
  rintro _ H2 O2 ⟨w2,rfl,h2⟩ l2
  refine⟨al w2 (cX b id 1).1++[iV (cX b id 1).2],rfl,ax (aZ H2 h2) ⟨rfl,trivial⟩,?_⟩
  refine aa (aa (aa (aa ?_)))
  exact ah ⟨w2,rfl,h2⟩
 have k6:e.code ≠ 6:=by simpa using h
 refine ab _ (ay _ _) (ai (fun h=>?_) (fun h=>?_))
 ·have hc:e.code=7:=by simpa using h
  have ec:aF cs b p 0 id e most=(bB b id).1:=by rw[aF,if_neg k1,if_neg k2,if_neg k3,if_neg k4,if_neg k6,if_pos hc]
  rw[ec]
  simp only[gx]
  rw[qm]
  subst hl
  refine aa ?_
  refine dr ho (fun Hf lf hf=>Jd hf hB hid) ?_
  rintro _ H2 O2 ⟨w2,rfl,h2⟩ l2
  refine⟨al w2 (bB b id).1++[iV (bB b id).2],rfl,ax (aZ H2 h2) ⟨rfl,trivial⟩,?_⟩
  refine aa (aa (aa (aa ?_)))
  exact ah ⟨w2,rfl,h2⟩
 have k7:e.code ≠ 7:=by simpa using h
 refine ab _ (ay _ _) (ai (fun h=>?_) (fun h=>?_))
 ·have hc:e.code=10:=by simpa using h
  have ec:aF cs b p 0 id e most=(xk b p e.n e.m most).1:=by rw[aF,if_neg k1,if_neg k2,if_neg k3,if_neg k4,if_neg k6,if_neg k7,if_pos hc]
  rw[ec]
  simp only[gB]
  subst hl
  refine aa (aa (aa ?_))
  refine dr ho (fun Hf lf hf=>QI (hgl.le lf) hf hB (p:=p) (pw:=e.n) (tn:=e.m) (most:=most) (by omega) (by omega)) ?_
  rintro _ H2 O2 ⟨w2,OB,X,hp2,rfl,h2⟩ l2
  refine⟨al w2 (xk b p e.n e.m most).1++[iV (xk b p e.n e.m most).2.1,iV (xk b p e.n e.m most).2.2],rfl,ax (aZ H2 h2) ⟨rfl,rfl,trivial⟩,?_⟩
  refine aa (aa (aa (aa ?_)))
  exact zj hp2 ⟨w2,rfl,h2⟩
 have k10:e.code ≠ 10:=by simpa using h
 refine ab _ (ay _ _) (ai (fun h=>?_) (fun h=>?_))
 ·have hc:e.code=12:=by simpa using h
  have ec:aF cs b p 0 id e most=aV b 0 (ep (ao b 0) e.colour e.n):=by rw[aF,if_neg k1,if_neg k2,if_neg k3,if_neg k4,if_neg k6,if_neg k7,if_neg k10,if_pos hc]
  rw[ec]
  subst hl
  refine aa (aa ?_)
  obtain hc | hc | hc | hc:e.colour=0∨e.colour=1∨e.colour=2∨e.colour=3:=by omega
  ·refine⟨.i64,e.colour,rfl,fun _=>?_,fun h=>absurd hc h⟩
   refine aa (aa ?_)
   refine aj (iS (dM hv 0).1 nsm 99) rfl ⟨rfl,trivial⟩ fun H1 l1=>?_
   simp only[aU]
   refine⟨.i64,e.colour,rfl,fun _=>?_,fun h=>absurd hc h⟩
   refine aa (aa (aa (aa ?_)))
   refine ah ⟨v,?_,?_⟩
   ·rw[ep,if_pos hc];rfl
   ·rw[ep,if_pos hc];exact ck ho rfl rfl rfl rfl
  ·refine⟨.i64,e.colour,rfl,fun h=>absurd (hc.symm.trans h) (by omega),fun _=>⟨.i64,e.colour,rfl,fun _=>?_,fun h=>absurd hc h⟩⟩
   refine aa (aa ?_)
   refine aj (iS (dM hv 0).2.1 nsm 99) rfl ⟨rfl,trivial⟩ fun H1 l1=>?_
   simp only[aU]
   refine⟨.i64,e.colour,rfl,fun h=>absurd (hc.symm.trans h) (by omega),fun _=>⟨.i64,e.colour,rfl,fun _=>?_,fun h=>absurd hc h⟩⟩
   refine aa (aa (aa (aa ?_)))
   refine ah ⟨v,?_,?_⟩
   ·rw[ep,if_neg (by omega),if_pos hc];rfl
   ·rw[ep,if_neg (by omega),if_pos hc];exact ck ho rfl rfl rfl rfl
  ·refine⟨.i64,e.colour,rfl,fun h=>absurd (hc.symm.trans h) (by omega),fun _=>⟨.i64,e.colour,rfl,fun h=>absurd (hc.symm.trans h) (by omega),fun _=>⟨.i64,e.colour,rfl,fun _=>?_,fun h=>absurd hc h⟩⟩⟩
   refine aa (aa ?_)
   refine aj (iS (dM hv 0).2.2.1 nsm 99) rfl ⟨rfl,trivial⟩ fun H1 l1=>?_
   simp only[aU]
   refine⟨.i64,e.colour,rfl,fun h=>absurd (hc.symm.trans h) (by omega),fun _=>⟨.i64,e.colour,rfl,fun h=>absurd (hc.symm.trans h) (by omega),fun _=>⟨.i64,e.colour,rfl,fun _=>?_,fun h=>absurd hc h⟩⟩⟩
   refine aa (aa (aa (aa ?_)))
   refine ah ⟨v,?_,?_⟩
   ·rw[ep,if_neg (by omega),if_neg (by omega),if_pos hc];rfl
   ·rw[ep,if_neg (by omega),if_neg (by omega),if_pos hc];exact ck ho rfl rfl rfl rfl
  ·refine⟨.i64,e.colour,rfl,fun h=>absurd (hc.symm.trans h) (by omega),fun _=>⟨.i64,e.colour,rfl,fun h=>absurd (hc.symm.trans h) (by omega),fun _=>⟨.i64,e.colour,rfl,fun h=>absurd (hc.symm.trans h) (by omega),fun _=>⟨.i64,e.colour,rfl,fun _=>?_,fun h=>absurd hc h⟩⟩⟩⟩
   refine aa (aa ?_)
   refine aj (iS (dM hv 0).2.2.2 nsm 99) rfl ⟨rfl,trivial⟩ fun H1 l1=>?_
   simp only[aU]
   refine⟨.i64,e.colour,rfl,fun h=>absurd (hc.symm.trans h) (by omega),fun _=>⟨.i64,e.colour,rfl,fun h=>absurd (hc.symm.trans h) (by omega),fun _=>⟨.i64,e.colour,rfl,fun h=>absurd (hc.symm.trans h) (by omega),fun _=>⟨.i64,e.colour,rfl,fun _=>?_,fun h=>absurd hc h⟩⟩⟩⟩
   refine aa (aa (aa (aa ?_)))
   refine ah ⟨v,?_,?_⟩
   ·rw[ep,if_neg (by omega),if_neg (by omega),if_neg (by omega)];rfl
   ·rw[ep,if_neg (by omega),if_neg (by omega),if_neg (by omega)];exact ck ho rfl rfl rfl rfl
 have k12:e.code ≠ 12:=by simpa using h
 have ec:aF cs b p 0 id e most=if onB cs b id=true then bV b id (sW e) else b:=by rw[aF,if_neg k1,if_neg k2,if_neg k3,if_neg k4,if_neg k6,if_neg k7,if_neg k10,if_neg k12]
 rw[ec]
 exact Qf hk ho hB hev hl qm hid
include hgl hk ho hv hB hev hl
theorem Qd (hw:who=1) (qn:g l n=iV who) (qm:g l m=iV id) (hid:i64 id) (hD:e.code=1→id > 0→ba b id=0) :
  (cN l n r1 m r0 r3).den PP (TS (aF cs b p who id e most)) H O:=by
 obtain⟨n0,n99,m0,m99,c0,c3⟩:=jF hev
 have nsm:sm e.n:=by constructor <;> omega
 have msm:sm e.m:=by constructor <;> omega
 have lsm:sm (ao b 1).life:=by have:=nG hv 1;constructor <;> omega
 have q41:g l 41=iV e.code:=by rw[hl];rfl
 simp only[cN]
 refine⟨.i64,who,qn,fun h=>absurd (hw.symm.trans h) (by omega),fun _=>⟨.i64,who,qn,fun _=>?_,fun h=>absurd hw h⟩⟩
 subst hw
 refine aa ?_
 rw[q41,qm]
 refine ab _ (ay _ _) (ai (fun h=>?_) (fun h=>?_))
 ·have hc:e.code=1:=by simpa using h
  refine ab _ (bK _ _) (ai (fun hp=>?_) (fun hp=>?_))
  ·have hp:id > 0:=of_decide_eq_true hp
   have ec:aF cs b p 1 id e most=bV b id fun o=>{ o with dmg:=oM o.dmg e.n }:=by rw[aF,if_pos hc,if_pos hp]
   rw[ec]
   exact Qc ho hB hev hl qm hid (hD hc hp)
  ·have ec:aF cs b p 1 id e most=iI b 1 (bp ((ao b 1).life - e.n) 9999):=by rw[aF,if_pos hc,if_neg (of_decide_eq_false hp)]
   rw[ec]
   exact IR ho hv hev hl
 have k1:e.code ≠ 1:=by simpa using h
 refine ab _ (ay _ _) (ai (fun h=>?_) (fun h=>?_))
 ·have hc:e.code=2:=by simpa using h
  have ec:aF cs b p 1 id e most=(nU b 1 e.n).1:=by rw[aF,if_neg k1,if_pos hc]
  rw[ec]
  simp only[gz]
  rw[qn]
  subst hl
  refine aa (aa ?_)
  refine dr ho (fun Hf lf hf=>TP hf hB 1 e.n (by omega)) ?_
  rintro _ H2 O2 ⟨w2,rfl,h2⟩ l2
  refine⟨al w2 (nU b 1 e.n).1++[iV (nU b 1 e.n).2],rfl,ax (aZ H2 h2) ⟨rfl,trivial⟩,?_⟩
  refine aa (aa (aa (aa ?_)))
  exact ah ⟨w2,rfl,h2⟩
 have k2:e.code ≠ 2:=by simpa using h
 refine ab _ (ay _ _) (ai (fun h=>?_) (fun h=>?_))
 ·have hc:e.code=3:=by simpa using h
  have ec:aF cs b p 1 id e most=iI b 1 (bp ((ao b 1).life + e.n) 9999):=by rw[aF,if_neg k1,if_neg k2,if_pos hc]
  rw[ec]
  subst hl
  refine aa (aa ?_)
  refine aj (iS lsm nsm 9999) rfl ⟨rfl,trivial⟩ fun H1 l1=>?_
  refine aa (aa (aa (aa ?_)))
  exact ah ⟨v,rfl,ck ho rfl rfl rfl rfl⟩
 have k3:e.code ≠ 3:=by simpa using h
 refine ab _ (ay _ _) (ai (fun h=>?_) (fun h=>?_))
 ·have hc:e.code=4:=by simpa using h
  have ec:aF cs b p 1 id e most=iI b 1 (bp ((ao b 1).life - e.n) 9999):=by rw[aF,if_neg k1,if_neg k2,if_neg k3,if_pos hc]
  rw[ec]
  exact IR ho hv hev hl
 have k4:e.code ≠ 4:=by simpa using h
 refine ab _ (ay _ _) (ai (fun h=>?_) (fun h=>?_))
 ·have hc:e.code=6:=by simpa using h
  have ec:aF cs b p 1 id e most=(cX b id 1).1:=by rw[aF,if_neg k1,if_neg k2,if_neg k3,if_neg k4,if_pos hc]
  rw[ec]
  simp only[gy]
  rw[qm]
  subst hl
  refine aa ?_
  refine dr ho (fun Hf lf hf=>Jb hf hB hid 1) ?_
  rintro _ H2 O2 ⟨w2,rfl,h2⟩ l2
  refine⟨al w2 (cX b id 1).1++[iV (cX b id 1).2],rfl,ax (aZ H2 h2) ⟨rfl,trivial⟩,?_⟩
  refine aa (aa (aa (aa ?_)))
  exact ah ⟨w2,rfl,h2⟩
 have k6:e.code ≠ 6:=by simpa using h
 refine ab _ (ay _ _) (ai (fun h=>?_) (fun h=>?_))
 ·have hc:e.code=7:=by simpa using h
  have ec:aF cs b p 1 id e most=(bB b id).1:=by rw[aF,if_neg k1,if_neg k2,if_neg k3,if_neg k4,if_neg k6,if_pos hc]
  rw[ec]
  simp only[gx]
  rw[qm]
  subst hl
  refine aa ?_
  refine dr ho (fun Hf lf hf=>Jd hf hB hid) ?_
  rintro _ H2 O2 ⟨w2,rfl,h2⟩ l2
  refine⟨al w2 (bB b id).1++[iV (bB b id).2],rfl,ax (aZ H2 h2) ⟨rfl,trivial⟩,?_⟩
  refine aa (aa (aa (aa ?_)))
  exact ah ⟨w2,rfl,h2⟩
 have k7:e.code ≠ 7:=by simpa using h
 refine ab _ (ay _ _) (ai (fun h=>?_) (fun h=>?_))
 ·have hc:e.code=10:=by simpa using h
  have ec:aF cs b p 1 id e most=(xk b p e.n e.m most).1:=by rw[aF,if_neg k1,if_neg k2,if_neg k3,if_neg k4,if_neg k6,if_neg k7,if_pos hc]
  rw[ec]
  simp only[gB]
  subst hl
  refine aa (aa (aa ?_))
  refine dr ho (fun Hf lf hf=>QI (hgl.le lf) hf hB (p:=p) (pw:=e.n) (tn:=e.m) (most:=most) (by omega) (by omega)) ?_
  rintro _ H2 O2 ⟨w2,OB,X,hp2,rfl,h2⟩ l2
  refine⟨al w2 (xk b p e.n e.m most).1++[iV (xk b p e.n e.m most).2.1,iV (xk b p e.n e.m most).2.2],rfl,ax (aZ H2 h2) ⟨rfl,rfl,trivial⟩,?_⟩
  refine aa (aa (aa (aa ?_)))
  exact zj hp2 ⟨w2,rfl,h2⟩
 have k10:e.code ≠ 10:=by simpa using h
 refine ab _ (ay _ _) (ai (fun h=>?_) (fun h=>?_))
 ·have hc:e.code=12:=by simpa using h
  have ec:aF cs b p 1 id e most=aV b 1 (ep (ao b 1) e.colour e.n):=by rw[aF,if_neg k1,if_neg k2,if_neg k3,if_neg k4,if_neg k6,if_neg k7,if_neg k10,if_pos hc]
  rw[ec]
  subst hl
  refine aa (aa ?_)
  obtain hc | hc | hc | hc:e.colour=0∨e.colour=1∨e.colour=2∨e.colour=3:=by omega
  ·refine⟨.i64,e.colour,rfl,fun _=>?_,fun h=>absurd hc h⟩
   refine aa (aa ?_)
   refine aj (iS (dM hv 1).1 nsm 99) rfl ⟨rfl,trivial⟩ fun H1 l1=>?_
   simp only[aU]
   refine⟨.i64,e.colour,rfl,fun _=>?_,fun h=>absurd hc h⟩
   refine aa (aa (aa (aa ?_)))
   refine ah ⟨v,?_,?_⟩
   ·rw[ep,if_pos hc];rfl
   ·rw[ep,if_pos hc];exact ck ho rfl rfl rfl rfl
  ·refine⟨.i64,e.colour,rfl,fun h=>absurd (hc.symm.trans h) (by omega),fun _=>⟨.i64,e.colour,rfl,fun _=>?_,fun h=>absurd hc h⟩⟩
   refine aa (aa ?_)
   refine aj (iS (dM hv 1).2.1 nsm 99) rfl ⟨rfl,trivial⟩ fun H1 l1=>?_
   simp only[aU]
   refine⟨.i64,e.colour,rfl,fun h=>absurd (hc.symm.trans h) (by omega),fun _=>⟨.i64,e.colour,rfl,fun _=>?_,fun h=>absurd hc h⟩⟩
   refine aa (aa (aa (aa ?_)))
   refine ah ⟨v,?_,?_⟩
   ·rw[ep,if_neg (by omega),if_pos hc];rfl
   ·rw[ep,if_neg (by omega),if_pos hc];exact ck ho rfl rfl rfl rfl
  ·refine⟨.i64,e.colour,rfl,fun h=>absurd (hc.symm.trans h) (by omega),fun _=>⟨.i64,e.colour,rfl,fun h=>absurd (hc.symm.trans h) (by omega),fun _=>⟨.i64,e.colour,rfl,fun _=>?_,fun h=>absurd hc h⟩⟩⟩
   refine aa (aa ?_)
   refine aj (iS (dM hv 1).2.2.1 nsm 99) rfl ⟨rfl,trivial⟩ fun H1 l1=>?_
   simp only[aU]
   refine⟨.i64,e.colour,rfl,fun h=>absurd (hc.symm.trans h) (by omega),fun _=>⟨.i64,e.colour,rfl,fun h=>absurd (hc.symm.trans h) (by omega),fun _=>⟨.i64,e.colour,rfl,fun _=>?_,fun h=>absurd hc h⟩⟩⟩
   refine aa (aa (aa (aa ?_)))
   refine ah ⟨v,?_,?_⟩
   ·rw[ep,if_neg (by omega),if_neg (by omega),if_pos hc];rfl
   ·rw[ep,if_neg (by omega),if_neg (by omega),if_pos hc];exact ck ho rfl rfl rfl rfl
  ·refine⟨.i64,e.colour,rfl,fun h=>absurd (hc.symm.trans h) (by omega),fun _=>⟨.i64,e.colour,rfl,fun h=>absurd (hc.symm.trans h) (by omega),fun _=>⟨.i64,e.colour,rfl,fun h=>absurd (hc.symm.trans h) (by omega),fun _=>⟨.i64,e.colour,rfl,fun _=>?_,fun h=>absurd hc h⟩⟩⟩⟩
   refine aa (aa ?_)
   refine aj (iS (dM hv 1).2.2.2 nsm 99) rfl ⟨rfl,trivial⟩ fun H1 l1=>?_
   simp only[aU]
   refine⟨.i64,e.colour,rfl,fun h=>absurd (hc.symm.trans h) (by omega),fun _=>⟨.i64,e.colour,rfl,fun h=>absurd (hc.symm.trans h) (by omega),fun _=>⟨.i64,e.colour,rfl,fun h=>absurd (hc.symm.trans h) (by omega),fun _=>⟨.i64,e.colour,rfl,fun _=>?_,fun h=>absurd hc h⟩⟩⟩⟩
   refine aa (aa (aa (aa ?_)))
   refine ah ⟨v,?_,?_⟩
   ·rw[ep,if_neg (by omega),if_neg (by omega),if_neg (by omega)];rfl
   ·rw[ep,if_neg (by omega),if_neg (by omega),if_neg (by omega)];exact ck ho rfl rfl rfl rfl
 have k12:e.code ≠ 12:=by simpa using h
 have ec:aF cs b p 1 id e most=if onB cs b id=true then bV b id (sW e) else b:=by rw[aF,if_neg k1,if_neg k2,if_neg k3,if_neg k4,if_neg k6,if_neg k7,if_neg k10,if_neg k12]
 rw[ec]
 exact Qf hk ho hB hev hl qm hid
end
theorem Lp {b:Bd} (hv:an b=true) {k:Nat} {o:Ob} (hk:b.objs[k]?=some o):ba b o.id=0∧cY b o.id=o∧eY b o.id=(k:Nat):=by
 have e3:=(cV (aM hv).1 hk).2.2.1
 have hE0:ba b o.id=0:=by
  have:¬ eY b o.id < 0:=by omega
  simp[ba,hv,this]
 exact⟨hE0,rC (by rw[hE0];rfl) hk e3,e3⟩
theorem Lh {cs:List CdX} {b:Bd} (hv:an b=true) {q x:Int} (hq:q=0∨q=1) (h:x ∈ sV (cs.map CdX.base) b q):onB cs b x=true:=by
 obtain⟨o,ho,rfl,ho2,hc,hf⟩:=(Py hv hq).1 h
 obtain⟨k,hk⟩:=List.mem_iff_getElem?.1 ho
 obtain⟨h1,h2,_⟩:=Lp hv hk
 rw[onB,h1,h2,ho2]
 have hc:eL (UR cs) o=true:=hc
 rw[hc]
 simpa using hf
theorem QM {cs:List CdX} {b:Bd} (hv:an b=true) {q x:Int} (hq:q=0∨q=1) (h:x ∈ yu (cs.map CdX.base) b q):onB cs b x=true:=by
 rcases S3.1 h with h | h
 ·exact Lh hv hq h
 ·exact Lh hv (by omega) h
theorem kO {cs:List CdX} {b:Bd} {x:Int} (h:onB cs b x=true):1≤x∧x≤500∧ba b x=0:=by
 have hi:ba b x=0:=by
  rw[onB,Bool.and_eq_true] at h
  simpa using h.1
 obtain⟨k,f1,f2,f3,f4,f5⟩:=dD hi
 have:=xg f4
 rw[f2] at this
 exact⟨this.1,this.2,hi⟩
theorem nw {cs:List CdX} {b:Bd} {p k:Int} {t:Tg} (h:ug (cs.map CdX.base) b p k t=true):(p=0∨p=1)∧an b=true∧(t.player=0∨t.player=1) ∧
  ((k ≠ 6∧t.player=0∧onB cs b t.id=true∧k ≠ 4)∨(t.id=0∧(k=4∨k=5))∨(k=6∧t.player=0∧∃ x ∈ b.stack,x.id=t.id∧x.trig < 0)):=by
 obtain⟨y,hy,he⟩:=List.any_eq_true.1 h
 have hty:t=y:=by simpa using he
 subst hty
 rw[zQ] at hy
 split at hy
 case isFalse=>cases hy
 rename_i hc
 rw[Bool.and_eq_true] at hc
 obtain⟨hw,hv⟩:=hc
 have hp:p=0∨p=1:=by simp only[au,decide_eq_true_eq] at hw;omega
 refine⟨hp,hv,?_⟩
 have htg:∀ {l:List Int},t ∈ tgs l→t.player=0∧t.id ∈ l:=fun hm=>by
  obtain⟨x,hx,rfl⟩:=List.mem_map.1 hm
  exact⟨rfl,hx⟩
 have hpl:t ∈ plT p→t.id=0∧(t.player=0∨t.player=1):=fun hm=>by
  simp only[plT,List.mem_cons,List.not_mem_nil,or_false] at hm
  rcases hm with rfl | rfl
  ·exact⟨rfl,by show 1 - p=0∨1 - p=1;omega⟩
  ·exact⟨rfl,hp⟩
 rw[GF] at hy
 split at hy
 ·obtain⟨a,c⟩:=htg hy
  exact⟨.inl a,.inl ⟨by omega,a,QM hv hp c,by omega⟩⟩
 split at hy
 ·obtain⟨a,c⟩:=htg hy
  exact⟨.inl a,.inl ⟨by omega,a,Lh hv (by omega) c,by omega⟩⟩
 split at hy
 ·obtain⟨a,c⟩:=htg hy
  exact⟨.inl a,.inl ⟨by omega,a,Lh hv hp c,by omega⟩⟩
 split at hy
 ·obtain⟨a,c⟩:=hpl hy
  exact⟨c,.inr (.inl ⟨a,.inl (by assumption)⟩)⟩
 split at hy
 ·rcases List.mem_append.1 hy with hy | hy
  ·obtain⟨a,c⟩:=hpl hy
   exact⟨c,.inr (.inl ⟨a,.inr (by assumption)⟩)⟩
  ·obtain⟨a,c⟩:=htg hy
   exact⟨.inl a,.inl ⟨by omega,a,QM hv hp c,by omega⟩⟩
 split at hy
 ·obtain⟨a,c⟩:=htg hy
  obtain⟨x,hx,hxe⟩:=List.mem_map.1 c
  obtain⟨hx1,hx2⟩:=List.mem_filter.1 hx
  refine⟨.inl a,.inr (.inr ⟨by assumption,a,x,List.mem_reverse.1 hx1,hxe,?_⟩)⟩
  simp only[nF,Bool.and_eq_true,decide_eq_true_eq] at hx2
  omega
 ·cases hy
theorem ul {e:Eff} (h:rF e=true):(e.code=1→e.target=1∨e.target=2∨e.target=3∨e.target=4∨e.target=5)∧(e.code=2∨e.code=3∨e.code=4→e.target=0∨e.target=4) ∧
  (e.code=5∨e.code=6∨e.code=11→e.target=1∨e.target=2∨e.target=3)∧(e.code=7→e.target=6)∧(e.code=8∨e.code=9→e.target=0∨e.target=1∨e.target=2∨e.target=3)∧(e.code=10∨e.code=12→e.target=0)∧1≤e.code∧e.code≤12:=by
 have hB:∀ {l:List Int} {e:Eff},TG l e=true→e.target ∈ l:=fun h=>by
  simp only[TG,Bool.and_eq_true] at h
  simpa using h.1.1.1
 have hC:∀ {l:List Int} {k:Int} {e:Eff},SG l k e=true→e.target ∈ l:=fun h=>by
  simp only[SG,Bool.and_eq_true] at h
  have:=hB h.2
  exact this
 have hP:∀ {l:List Int} {k:Int} {e:Eff},SE l k e=true→e.target ∈ l:=fun h=>by
  simp only[SE,Bool.and_eq_true] at h
  have:=hB h.2
  exact this
 have hM:∀ {l:List Int} {k:Int} {e:Eff},TF l k e=true→e.target ∈ l:=fun h=>by
  simp only[TF,Bool.and_eq_true] at h
  have:=hC h.2
  exact this
 rw[rF,vF] at h
 repeat' (split at h)
 all_goals first
  | (have hm:=hC h;simp only[List.mem_cons,List.not_mem_nil,or_false] at hm;omega)
  | (have hm:=hB h;simp only[List.mem_cons,List.not_mem_nil,or_false] at hm;omega)
  | (have hm:=hP h;simp only[List.mem_cons,List.not_mem_nil,or_false] at hm;omega)
  | (have hm:=hM h;simp only[List.mem_cons,List.not_mem_nil,or_false] at hm;omega)
  | cases h
theorem E6 {cs:List CdX} {b:Bd} {p:Int} {e:Eff} {t:Tg} (h:¬ TR cs b p e t) (ht:e.target ≠ 0):ug (cs.map CdX.base) b p e.target t=true:=by
 cases hl:ug (cs.map CdX.base) b p e.target t
 ·exact absurd ⟨ht,hl⟩ h
 ·rfl
theorem Dz {cs:List CdX} {b:Bd} {p src:Int} {e:Eff} {t:Tg} (hp:p=0∨p=1) (hs:i64 src) (hev:rF e=true) (h:¬ TR cs b p e t) :
  (EA p e t=0∨EA p e t=1)∧i64 (idE src e t)∧(e.code=1→idE src e t > 0→ba b (idE src e t)=0):=by
 by_cases h0:e.target=0
 ·rw[EA,idE,if_pos h0,if_pos h0]
  refine⟨hp,hs,fun hc=>?_⟩
  have:=(ul hev).1 hc
  omega
 ·rw[EA,idE,if_neg h0,if_neg h0]
  obtain⟨_,hv,h1,h2⟩:=nw (E6 h h0)
  refine⟨h1,?_,fun hc hpos=>?_⟩
  ·rcases h2 with ⟨_,_,h2,_⟩ | ⟨h2,_⟩ | ⟨_,_,x,hx,hxe,_⟩
   ·have:=kO h2;constructor <;> omega
   ·constructor <;> omega
   ·have hxf:=nu hv hx
    simp only[cQ,au,Bool.and_eq_true,decide_eq_true_eq] at hxf
    constructor <;> omega
  ·have:=(ul hev).1 hc
   rcases h2 with ⟨_,_,h2,_⟩ | ⟨h2,_⟩ | ⟨_,_,x,hx,hxe,_⟩
   ·exact (kO h2).2.2
   ·omega
   ·omega
theorem Ha {H:Heap} {O:Own} {cv:Value} {cs:List CdX} (hgl:GlobOk zC H) (hk:CardsX H cv cs) (hli:dh (cs.map CdX.base)=true) {v:cn} {b:Bd} (ho:OwnB tys v b O) (hv:an b=true) (hB:bdB b) {p src most:Int} (hp:p=0∨p=1) (hs:i64 src) {e:Eff} {t:Tg} (hev:rF e=true) :
  Triple PP sc [cv,.agg (al v b).toArray,iV p,iV src,.agg e.row.toArray,.agg t.row.toArray,iV most] H O (TS (rx cs b p src e t most)):=by
 refine xr (vs:=cv::(al v b++(iV p::iV src::(e.row++(t.row++[iV most]))))) (by kernel_rfl) ⟨hk.one,ax (aZ H ho) ⟨rfl,rfl,ax (kU e) (ax (sZ t) ⟨rfl,trivial⟩)⟩⟩ ?_
 simp only[rU]
 refine af fun r0=>af fun r1=>af fun r2=>af fun r3=>?_
 have h200:=oO hv
 have core:∀ {n m r1 r0 r3:Nat} {H':Heap},Heap.le H H'→¬ TR cs b p e t→g (cv::(al v b++(iV p::iV src::(e.row++(t.row++[iV most]))))) n=iV (EA p e t)→g (cv::(al v b++(iV p::iV src::(e.row++(t.row++[iV most]))))) m=iV (idE src e t) →
   (cN (cv::(al v b++(iV p::iV src::(e.row++(t.row++[iV most]))))) n r1 m r0 r3).den PP (TS (rx cs b p src e t most)) H' O:=by
  intro n m r1 r0 r3 H' hle hb qn qm
  obtain⟨f1,f2,f3⟩:=Dz hp hs hev hb
  rw[rx,if_neg hb]
  rcases f1 with f1 | f1
  ·exact Qe (hgl.le hle) (hk.le hle) ho hv hB hev rfl f1 qn qm f2 f3
  ·exact Qd (hgl.le hle) (hk.le hle) ho hv hB hev rfl f1 qn qm f2 f3
 refine aa ?_
 refine ab _ (aY _ _) (ai (fun h0=>?_) (fun h0=>?_))
 ·have h0:e.target ≠ 0:=by simpa using h0
  refine aa (aa (aa ?_))
  refine aj (OwnB.thaw ho fun Hf lf hf=>Vg (hk.le lf).base hli hf (by omega) p e.target t) rfl ⟨rfl,trivial⟩ fun H1 l1=>?_
  refine ab _ (aJ _) (ai (fun hg=>?_) (fun hg=>?_))
  ·have hg:ug (cs.map CdX.base) b p e.target t=false:=u6 hg
   rw[rx,if_pos ⟨h0,hg⟩]
   refine aa (aa (aa ?_))
   exact ah ⟨v,rfl,ho⟩
  have hg:ug (cs.map CdX.base) b p e.target t=true:=sR hg
  refine aa (aa ?_)
  exact core l1 (fun hb=>by rw[hb.2] at hg;cases hg) (by rw[EA,if_neg h0];rfl) (by rw[idE,if_neg h0];rfl)
 ·have h0:e.target=0:=by simpa using h0
  exact core (Heap.le_refl _) (fun hb=>hb.1 h0) (by rw[EA,if_pos h0];rfl) (by rw[idE,if_pos h0];rfl)
def cA (cs:List CdX) (b:Bd) (p src:Int) (e:Eff) (t:Tg) (most:Int):Bd × Int:=if (au p 0 1 && (rF e && an b))=true then (rx cs b p src e t most,0) else (zBd,2)
theorem LS {H:Heap} {cv:Value} {cs:List CdX} (hgl:GlobOk zC H) (hk:CardsX H cv cs) (hli:dh (cs.map CdX.base)=true) {v:cn} {b:Bd} (h:BdS H v b) (hB:bdB b) (p:Int) {src:Int} (most:Int) (hs:i64 src) (e:Eff) (t:Tg) :
  Triple PP se [cv,.agg (al v b).toArray,iV p,iV src,.agg e.row.toArray,.agg t.row.toArray,iV most] H [] fun r _ O'=>∃ w,r=.tuple #[.agg (al w (cA cs b p src e t most).1).toArray,iV (cA cs b p src e t most).2]∧OwnB tys w (cA cs b p src e t most).1 O':=by
 refine xu (vs:=cv::(al v b++(iV p::iV src::(e.row++(t.row++[iV most]))))) (by kernel_rfl) ⟨hk.one,ax (am (h.r [])) ⟨rfl,rfl,ax (kU e) (ax (sZ t) ⟨rfl,trivial⟩)⟩⟩ ?_
 simp only[rW]
 refine af fun r0=>af fun r1=>af fun r2=>af fun r3=>?_
 refine ab _ (aB _ _) ?_
 refine ae ?_
 refine ab _ (bK _ _) ?_
 refine ae ?_
 refine ab _ (aR _ _) (ai (fun hc=>?_) (fun hc=>?_))
 ·have hc:(decide (p < 0) || decide (p > 1))=true:=hc
  rw[uW] at hc
  have e1:cA cs b p src e t most=(zBd,2):=by rw[cA,if_neg (by rw[u6 hc];simp)]
  rw[e1]
  refine aa (aa ?_)
  exact ah ⟨vH,rfl,OwnB.zero tys⟩
 have hc:(decide (p < 0) || decide (p > 1))=false:=hc
 rw[uW] at hc
 have hw:=sR hc
 have hp:p=0∨p=1:=by simp only[au,decide_eq_true_eq] at hw;omega
 refine aa ?_
 refine aj (zI e H) rfl ⟨rfl,trivial⟩ fun H1 l1=>?_
 refine ab _ (aJ _) (ai (fun hc=>?_) (fun hc=>?_))
 ·have e1:cA cs b p src e t most=(zBd,2):=by rw[cA,if_neg (by rw[u6 hc];simp)]
  rw[e1]
  refine aa (aa ?_)
  exact ah ⟨vH,rfl,OwnB.zero tys⟩
 have hev:=sR hc
 have h:=h.le l1
 refine aa ?_
 refine aj (dq (h.r [])) rfl ⟨rfl,trivial⟩ fun H2 l2=>?_
 refine ab _ (aJ _) (ai (fun hc=>?_) (fun hc=>?_))
 ·have e1:cA cs b p src e t most=(zBd,2):=by rw[cA,if_neg (by rw[u6 hc];simp)]
  rw[e1]
  refine aa (aa ?_)
  exact ah ⟨vH,rfl,OwnB.zero tys⟩
 have hv:=sR hc
 have h:=h.le l2
 have e1:cA cs b p src e t most=(rx cs b p src e t most,0):=by rw[cA,if_pos (by rw[hw,hev,hv];rfl)]
 rw[e1]
 refine aa (aa (aa ?_))
 refine ar (Je h hB) ?_
 rintro _ H3 O3 ⟨w,rfl,ho⟩ l3
 refine⟨al w b,rfl,aZ H3 ho,?_⟩
 have l13:=Heap.le_trans l1 (Heap.le_trans l2 l3)
 refine qE (O1:=O3) (O2:=[]) (List.Perm.refl _) (Ha (hgl.le l13) (hk.le l13) hli ho hv hB hp hs hev) ?_
 rintro _ H4 O4 ⟨w4,rfl,h4⟩ l4
 refine⟨al w4 _,rfl,aZ H4 h4,?_⟩
 rw[List.append_nil]
 refine aa (aa ?_)
 exact ah ⟨w4,rfl,h4⟩
theorem TC:∀ (l:List Ob) (m:Nat),m≤500→(l.map (·.id)).Pairwise (· < ·)→(∀ o ∈ l,(m:Int) < o.id∧o.id≤500)→l.length + m≤500
 | [],m,h,_,_=>by simpa using h
 | o::l,m,h,hp,hm=>by
  rw[List.map_cons,List.pairwise_cons] at hp
  obtain⟨h1,h2⟩:=hm o List.mem_cons_self
  have:=TC l (m + 1) (by omega) hp.2 fun x hx=>by
   have h3:=hp.1 _ (List.mem_map_of_mem hx)
   have h4:=(hm x (List.mem_cons_of_mem _ hx)).2
   omega
  rw[List.length_cons];omega
theorem NY {b:Bd} (h:an b=true):b.objs.length≤500 :=
 TC b.objs 0 (by omega) (jh (fc (aM h).1).1) fun o ho=>by have:=(pX h).1 o ho;omega
theorem UT {b:Bd} (h:an b=true) {i:Nat} (hi:i < aN b):eY b ((i:Int) + 1)=i:=by
 have:=(jC h).2.1 i hi
 simp only[Option.map_eq_some_iff] at this
 obtain⟨o,ho,he⟩:=this
 rw[← he]
 exact (cV (aM h).1 ho).2.2.1
theorem SA {b:Bd} (h:an b=true):eY b ((aN b:Int) + 1) < 0:=by
 refine Decidable.byContradiction fun hn=>?_
 obtain⟨k,o,e1,e2,_⟩:=nS hn
 exact (jC h).2.2 o (List.mem_of_getElem? e1) e2
theorem I7 {P:Program} {f:FuncId} {args:List Value} {H:Heap} {O:Own} {e:TypeId} {size:Nat} {x:Value} {rows:List (List Value)} {R:Value→Heap→Own→Prop} {shp:Shp} {K:List Value→List (List Value)→Heap→Own→Prop}
  (hx:OSl e size x rows O) (h:∀ Hf,Heap.le H Hf→Sl Hf size x rows→Triple P f args Hf [] R) (hk:∀ v H' ,R v H' []→Heap.le H H'→∃ vs,shp.open v=some vs∧Ones vs∧K vs [] H' []) (hR:∀ v H' O',R v H' O'→O'=[]:=by rintro _ _ _ ⟨_,rfl⟩;rfl) :
  dZ (fun H1 O1 R=>Triple P f args H1 O1 R) false [] [] shp K H O:=by
 intro hc
 obtain⟨Hf,g,hs,hl⟩:=hx.freeze (X:=[]) (by simpa using hc)
 refine⟨Hf,[],[],R,(by rw[List.append_nil] at g;exact g:Ghost H O Hf []),h Hf hl hs,fun v H' O' hr hle=>?_⟩
 obtain rfl:=hR v H' O' hr
 obtain⟨vs,h1,h2,h3⟩:=hk v H' hr (Heap.le_trans hl hle)
 exact⟨vs,[],[],h1,h2,trivial,rfl,h3⟩
def vz (b:Bd) (p pw tn most:Int):Bd × Int :=
 if (decide ((b.objs.length:Int) ≥ most) || decide ((aN b:Int) + 1 > 500))=true then (b,0) else (xl b (aN b) p pw tn,(aN b:Int) + 1)
theorem OM {H:Heap} {v:cn} {b:Bd} (h:BdS H v b) (hB:bdB b) (hval:an b=true) {p:Int} (hp:p=0∨p=1) (pw tn most:Int) :
  Triple PP mJ [.agg (al v b).toArray,iV p,iV pw,iV tn,iV most] H [] fun r H' O'=>(∃ w,r=.tuple #[.agg (al w (vz b p pw tn most).1).toArray,iV (vz b p pw tn most).2]∧BdS H' w (vz b p pw tn most).1)∧O'=[]:=by
 refine sC (vs:=al v b++[iV p,iV pw,iV tn,iV most]) (by kernel_rfl) (ax (am (h.r [])) ⟨rfl,rfl,rfl,rfl,trivial⟩) ?_
 simp only[md]
 have hf:=jC hval
 have h5:=NY hval
 refine af fun r0=>af fun r1=>?_
 refine aa ?_
 refine ar (Triple.frozen (EW h hB)) ?_
 rintro _ H1 _ ⟨⟨w,rfl,hw⟩,rfl⟩ l1
 refine⟨al w b,rfl,am (hw.r []),?_⟩
 refine aa ?_
 refine fG (fun vs H' O'=>∃ i:Nat,vs=[iV ((i:Int) + 1)]∧i≤aN b∧Heap.le H1 H'∧O'=[]) (fun vs _ _=>match g vs 0 with | .int _ k=>aN b + 1 - k.toNat | _=>0) ⟨0,rfl,Nat.zero_le _,Heap.le_refl _,rfl⟩ ?_
 rintro vs H2 O2 _ _ _ ⟨i,rfl,hi,hle,rfl⟩
 replace hw:=hw.le hle
 refine aa ?_
 refine aj (wz (hw.r _) ((i:Int) + 1)) rfl ⟨rfl,trivial⟩ fun H3 l3=>?_
 refine ab _ (cI _ _) (ai (fun hb=>?_) (fun hb=>?_))
 ·have hlt:i < aN b:=by
   refine Nat.lt_of_le_of_ne hi fun e=>?_
   subst e
   have:=SA hval
   have hb:eY b ((aN b:Int) + 1) ≥ 0:=by simpa using hb
   omega
  refine ab (iV (((i + 1:Nat):Int) + 1)) (rJ (x:=(i:Int) + 1) (y:=1) (by omega) (by omega)) (bU (by simp[Eqs]) ⟨i + 1,rfl,hlt,Heap.le_trans hle l3,rfl⟩ ?_)
  show aN b + 1 - (((i + 1:Nat):Int) + 1).toNat < aN b + 1 - ((i:Int) + 1).toNat
  omega
 ·have hil:i=aN b:=by
   refine Nat.le_antisymm hi (Nat.le_of_not_lt fun hlt=>?_)
   have:=UT hval hlt
   have hb:¬ eY b ((i:Int) + 1) ≥ 0:=by simpa using hb
   omega
  subst hil
  replace hw:=hw.le l3
  have hlen:ak .len [w.o]=some (iV b.objs.length):=by have:=hw.objs.len;rwa [List.length_map] at this
  refine aa ?_
  refine ab _ hlen ?_
  refine ab _ (cI _ _) ?_
  refine ae ?_
  refine ab _ (bK _ _) ?_
  refine ae ?_
  refine ab _ (aR _ _) (ai (fun hb=>?_) (fun hb=>?_))
  ·have e:vz b p pw tn most=(b,0):=by rw[vz,if_pos hb]
   refine aa (aa (aa ?_))
   refine ah ⟨⟨w,?_,?_⟩,rfl⟩
   ·rw[e];rfl
   ·rw[e];exact hw
  have e:vz b p pw tn most=(xl b (aN b) p pw tn,(aN b:Int) + 1):=by rw[vz,if_neg (by rw[hb];simp)]
  refine aj (VM pw) rfl ⟨rfl,trivial⟩ fun H4 l4=>?_
  refine aj (VM tn) rfl ⟨rfl,trivial⟩ fun H5 l5=>?_
  replace hw:=hw.le (Heap.le_trans l4 l5)
  refine af fun r2=>?_
  have hs1:ak (.bin .sub .int) [iV ((aN b:Int) + 1),iV 1]=some (iV (aN b:Int)):=by
   rw[show (iV (aN b:Int))=iV ((aN b:Int) + 1 - 1) by congr 1;omega];exact F7 (by omega) (by omega)
  obtain⟨u1,e1,s1⟩:=hw.objs.from (i:=aN b) (by rw[List.length_map];exact hf.1)
  obtain⟨u2,e2,s2⟩:=hw.objs.upto (i:=aN b) (by rw[List.length_map];exact hf.1)
  refine aa (aa (aa ?_))
  refine ab _ hs1 ?_
  refine ab _ e1 ?_
  refine af fun r3=>?_
  refine jH (ad:=⟨r3,0,none⟩) (rows:=[(y5 ((aN b:Int) + 1) p pw tn true).row]) (news:=(b.objs.map Ob.row).drop (aN b)) (size:=12) (e:=aH) (by kernel_rfl) (fun Hf _ hf=>Sl.block1 (hf _ List.mem_cons_self) rfl (bE _)) s1 (by rw[show jI PP aH=80 by kernel_rfl];simp;omega) (by simp;omega) fun v1 H6 l6 hv1=>?_
  refine aa ?_
  refine ab _ hs1 ?_
  refine ab _ e2 ?_
  refine dV (e:=aH) (size:=12) (bytes:=80) (by kernel_rfl) (s2.le l6) (by simp;omega) (by simp;omega) fun xa Oa H7 lA pa=>?_
  refine aC (rows:=(b.objs.map Ob.row).take (aN b)) (news:=[(y5 ((aN b:Int) + 1) p pw tn true).row]++(b.objs.map Ob.row).drop (aN b)) (O1:=Oa) (O2:=[]) (e:=aH) (size:=12) (bytes:=80) (by kernel_rfl) (by simp) pa (fun Hf lf _=>(hv1.le lA).le lf) (by simp;omega) (by simp;omega) ?_
  intro v' A' H8 l8 hA'
  rw[List.append_nil]
  have lz:=Heap.le_trans l6 (Heap.le_trans lA l8)
  replace hw:=hw.le lz
  have hA2:OSl aH 12 v' (List.map Ob.row (b.objs.take (aN b)++[y5 ((aN b:Int) + 1) p pw tn true]++b.objs.drop (aN b))) A':=by
   rw[List.append_assoc,List.map_append,List.map_append,List.map_take,List.map_drop]
   exact hA'
  have hB2:bdB { b with objs:=b.objs.take (aN b)++[y5 ((aN b:Int) + 1) p pw tn true]++b.objs.drop (aN b) }:=⟨by simp;omega,hB.2⟩
  refine aa (aa (aa ?_))
  refine I7 hA2 (fun Hf lf hs=>VJ (v:={ w with o:=v' }) (b:={ b with objs:=b.objs.take (aN b)++[y5 ((aN b:Int) + 1) p pw tn true]++b.objs.drop (aN b) }) ⟨hs,(hw.le lf).s0,(hw.le lf).s1,(hw.le lf).stack,(hw.le lf).queue,(hw.le lf).att,(hw.le lf).blocks⟩ hB2 (y5 ((aN b:Int) + 1) p pw tn true) hp 2) ?_
  rintro _ H9 ⟨⟨w2,rfl,hw2⟩,-⟩ l9
  refine⟨al w2 (xl b (aN b) p pw tn),rfl,am (hw2.r []),?_⟩
  refine aa (aa ?_)
  refine ah ⟨⟨w2,?_,?_⟩,rfl⟩
  ·rw[e];rfl
  ·rw[e];exact hw2
theorem Ta {b:Bd} (hval:an b=true) {p:Int} (hp:p=0∨p=1) (pw tn most:Int):xk b p pw tn most=((vz b p pw tn most).1,(vz b p pw tn most).2,0):=by
 have hw:au p 0 1=true:=by simp only[au,decide_eq_true_eq];omega
 rw[xk,if_neg (by rw[hval,hw];simp),vz]
 by_cases h1:(b.objs.length:Int) ≥ most
 ·rw[if_pos h1,if_pos (by rw[decide_eq_true h1];rfl)]
 ·rw[if_neg h1]
  by_cases h2:500≤aN b
  ·rw[if_pos h2,if_pos (by rw[decide_eq_true (show (aN b:Int) + 1 > 500 by omega),Bool.or_true])]
  ·rw[if_neg h2,if_neg (by rw[decide_eq_false h1,decide_eq_false (show ¬ (aN b:Int) + 1 > 500 by omega)];simp)]
def S8 (x:Bd) (r:Value) (H':Heap) (O':Own):Prop:=(∃ w,r=.agg (al w x).toArray∧BdS H' w x)∧O'=[]
theorem eZ {H:Heap} {O:Own} {w:cn} {x:Bd} (ho:OwnB tys w x O):(Tree.ret (.agg (al w x).toArray) []).den PP (S8 x) H O:=by
 intro hc
 obtain⟨H',g,k,_⟩:=ho.freeze (X:=[]) (by simpa using hc)
 exact⟨H',[],by simpa using g,⟨w,rfl,k⟩,rfl⟩
def gY (cs:List CdX) (b:Bd) (id:Int):Int:=if onB cs b id=true then eY b id else -1
theorem DG {cs:List CdX} {b:Bd} {id:Int} (h:gY cs b id ≥ 0):onB cs b id=true:=by
 rw[gY] at h
 split at h
 ·assumption
 ·omega
theorem DI {cs:List CdX} {b:Bd} {id:Int} (h:¬ gY cs b id ≥ 0):¬ onB cs b id=true:=by
 intro hon
 obtain⟨k,f1,f2,f3,f4,f5⟩:=dD (kO hon).2.2
 rw[gY,if_pos hon,f3] at h
 omega
theorem je {b:Bd} (hv:an b=true) (q:Int):0≤(ao b q).p0∧0≤(ao b q).p1∧0≤(ao b q).p2∧0≤(ao b q).p3:=by
 have h:=qb hv q
 simp only[bb,Bool.and_eq_true,au,decide_eq_true_eq,List.all_cons,List.all_nil] at h
 obtain⟨_,⟨⟨a1,a2⟩,⟨a3,a4⟩,⟨a5,a6⟩,⟨a7,a8⟩,_⟩,_⟩:=h
 exact⟨a1,a3,a5,a7⟩
theorem jG {b:Bd} {id:Int} (hi:ba b id=0) {k:Nat} (hk:eY b id=(k:Nat)) {f:Ob→Ob} (h1:(f (cY b id)).id=id) (h2:(f (cY b id)).card=(cY b id).card) (h3:(f (cY b id)).owner=(cY b id).owner) (hvo:aW (f (cY b id))=true) :
  bV b id f=bT b k (f (cY b id)):=by
 rw[bV,HH hi h1 h2 h3 hvo,if_pos rfl,hk];rfl
theorem OR {H:Heap} {O:Own} {a b:Int} (ha:sm a) (hb:sm b):RetO PP jZ [iV a,iV b] H O (iV (oM a b)):=by
 refine lR (vs:=[iV a,iV b]) (by kernel_rfl) ⟨rfl,rfl,trivial⟩ ?_
 simp only[jP]
 obtain⟨a1,a2⟩:=ha
 obtain⟨b1,b2⟩:=hb
 refine ab _ (gW _ _) (ab _ (kQ _ _) (ab _ (gW _ _) (ab _ (kQ _ _) (ab _ (rJ ?_ ?_) (ab _ (gW _ _) (ah ⟨?_,rfl⟩))))))
 ·omega
 ·omega
 ·congr 1
  rw[oM]
  omega
theorem OwnB.store_off {t:Tys} {w:cn} {b:Bd} {O:Own} (h:OwnB t w b O) {k:Nat} {o:Ob} (hk:b.objs[k]?=some o) {off:Nat} {ys:List Value} {o':Ob} (h1:off + ys.length≤12) (h2:Ones ys) (he:cj o.row off ys=o'.row) {a:Addr} (ha:ak (.idx 12) [w.o,iV k]=some (.pointer (some a))) :
  ∃ O1,vm O (aO (.pointer (some a)) off) ys O1∧OwnB t w (bT b k o') O1:=by
 obtain⟨Oo,A0,B0,C0,D0,A1,B1,C1,D1,Os,Oq,Oa,Obk,hp,h⟩:=h
 obtain⟨a',k1,k2⟩:=h.objs.store hp (k:=.i64) (i:=k) (row:=o.row) (by rw[List.getElem?_map,hk];rfl)
 have:a'=a:=by
  rw[ha] at k1
  simpa using k1.symm
 subst this
 obtain⟨O1',s1,s2⟩:=k2 off ys h1 h2
 refine⟨_,s1,O1',A0,B0,C0,D0,A1,B1,C1,D1,Os,Oq,Oa,Obk,List.Perm.refl _,?_⟩
 have e:(b.objs.map Ob.row).set k (cj o.row off ys)=(bT b k o').objs.map Ob.row:=by
  rw[he,bT,List.map_set]
 rw[e] at s2
 exact⟨s2,h.l0,h.h0,h.f0,h.g0,h.l1,h.h1,h.f1,h.g1,h.stack,h.queue,h.att,h.blocks⟩
theorem JF {w:cn} {b:Bd} {O:Own} (ho:OwnB tys w b O) (H:Heap) {k:Nat} {o:Ob} (hk:b.objs[k]?=some o):∃ a,ak (.idx 12) [w.o,iV k]=some (.pointer (some a))∧∀ off m,off + m≤12→Reads H O (aO (.pointer (some a)) off) m ((o.row.drop off).take m):=by
 obtain⟨a,k1,_,k3,_⟩:=(ho.r (fun p hp=>hp) H).objs.idx .i64 k (Ob.row o) (by rw[List.getElem?_map,hk];rfl)
 exact⟨a,k1,k3⟩
theorem KV {H:Heap} {O:Own} {u:cn} {b:Bd} (ho:OwnB tys u b O) {k:Nat} {o o':Ob} (hk:b.objs[k]?=some o) {n:Nat} (hn:n + 1≤12) (he:cj o.row n [.bool true]=o'.row) {ra rb:Nat} :
  (bN ra (al u b) [iV (k:Nat)] n rb).den PP (S8 (bT b k o')) H O:=by
 simp only[bN]
 obtain⟨a,i1,i2⟩:=JF ho H hk
 obtain⟨O1,s1,s2⟩:=OwnB.store_off ho hk (off:=n) (ys:=[.bool true]) hn ⟨rfl,trivial⟩ he i1
 refine aa ?_
 refine ab _ i1 ?_
 refine aw rfl (aw rfl ?_)
 refine⟨_,s1,?_⟩
 simp only[aD]
 refine aa (aa (aa ?_))
 exact eZ s2
theorem Rz {H:Heap} {O:Own} {u:cn} {b:Bd} (ho:OwnB tys u b O) {k:Nat} {o o':Ob} (hk:b.objs[k]?=some o) {n:Nat} {x y:Int} (hx:sm x) (hy:sm y) (hn:n + 1≤12) {l:List Value} (q43:g l 43=iV y) (hr:(o.row.drop n).take 1=[iV x]) (he:cj o.row n [iV (oM x y)]=o'.row) {ra rb rc:Nat} :
  (bX ra (al u b) [iV (k:Nat)] n rb l rc).den PP (S8 (bT b k o')) H O:=by
 simp only[bX]
 obtain⟨a,i1,i2⟩:=JF ho H hk
 obtain⟨O1,s1,s2⟩:=OwnB.store_off ho hk (off:=n) (ys:=[iV (oM x y)]) hn ⟨rfl,trivial⟩ he i1
 have hrd:=i2 n 1 hn
 rw[hr] at hrd
 rw[q43]
 refine aa (aa ?_)
 refine ab _ i1 ?_
 refine aw rfl ?_
 refine ap (vs:=[iV x]) hrd rfl ⟨rfl,trivial⟩ ?_
 refine aa ?_
 refine aj (OR hx hy) rfl ⟨rfl,trivial⟩ fun H1 l1=>?_
 refine ab _ i1 ?_
 refine aw rfl (aw rfl ?_)
 refine⟨_,s1,?_⟩
 refine aa (aa (aa ?_))
 exact eZ s2
theorem Tf {H:Heap} {O:Own} {cs:List CdX} {u:cn} {b:Bd} (ho:OwnB tys u b O) {e:Eff} (hn:sm e.n) (hm:sm e.m) {id:Int} {l:List Value} (q43:g l 43=iV e.n) (q44:g l 44=iV e.m) (ha:∀ o,sW e o={ o with pp:=oM o.pp e.n,pt:=oM o.pt e.m }) {ra rb rc:Nat} :
  (dJ [iV (gY cs b id)] ra (al u b) rb l rc).den PP (S8 (if onB cs b id=true then bV b id (sW e) else b)) H O:=by
 simp only[dJ]
 rw[q43,q44]
 refine ab _ (cI _ _) (ai (fun h=>?_) (fun h=>?_))
 rotate_left
 ·have hon:=DI (of_decide_eq_false h)
  rw[if_neg hon]
  simp only[aD]
  refine aa (aa (aa ?_))
  exact eZ ho
 have hon:=DG (of_decide_eq_true h)
 obtain⟨k,f1,f2,f3,f4,f5⟩:=dD (kO hon).2.2
 obtain⟨a1,a2,a3⟩:=jL e (cY b id)
 rw[if_pos hon,jG (kO hon).2.2 f3 (a1.trans f2) a2 a3 (jK f4),gY,if_pos hon,f3,ha]
 generalize cY b id=o at *
 have hsm:=nB f4
 obtain⟨a,i1,i2⟩:=JF ho H f1
 obtain⟨O1,s1,s2⟩:=OwnB.store_off ho f1 (off:=7) (ys:=[iV (oM o.pp e.n)]) (o':={ o with pp:=oM o.pp e.n }) (by simp) ⟨rfl,trivial⟩ rfl i1
 have hk2:(bT b k { o with pp:=oM o.pp e.n }).objs[k]?=some { o with pp:=oM o.pp e.n }:=by
  have:=(List.getElem?_eq_some_iff.1 f1).1
  simp[bT,this]
 obtain⟨O2,t1,t2⟩:=OwnB.store_off s2 hk2 (off:=8) (ys:=[iV (oM o.pt e.m)]) (o':={ o with pp:=oM o.pp e.n,pt:=oM o.pt e.m }) (by simp) ⟨rfl,trivial⟩ rfl i1
 have hset:bT (bT b k { o with pp:=oM o.pp e.n }) k { o with pp:=oM o.pp e.n,pt:=oM o.pt e.m }=bT b k { o with pp:=oM o.pp e.n,pt:=oM o.pt e.m }:=by
  simp[bT]
 rw[hset] at t2
 refine aa ?_
 refine ab _ i1 ?_
 refine aw rfl (aw rfl ?_)
 refine ap (vs:=[iV o.pp]) (i2 7 1 (by omega)) rfl ⟨rfl,trivial⟩ ?_
 refine aa (aw rfl (aw rfl ?_))
 refine ap (vs:=[iV o.pt]) (i2 8 1 (by omega)) rfl ⟨rfl,trivial⟩ ?_
 refine aa ?_
 refine aj (OR hsm.2.2.1 hn) rfl ⟨rfl,trivial⟩ fun H1 l1=>?_
 refine aj (OR hsm.2.2.2 hm) rfl ⟨rfl,trivial⟩ fun H2 l2=>?_
 refine aw rfl (aw rfl (aw rfl ?_))
 refine⟨_,s1,?_⟩
 refine aw rfl (aw rfl (aw rfl ?_))
 refine⟨_,t1,?_⟩
 refine aa (aa (aa ?_))
 exact eZ t2
theorem HV {H:Heap} {O:Own} {cv:Value} {cs:List CdX} (hk:CardsX H cv cs) {v:cn} {b:Bd} (h:BdR H O v b) (hv:an b=true) (id:Int):RetO PP kD [cv,.agg (al v b).toArray,iV id] H O (iV (gY cs b id)):=by
 refine qc (vs:=cv::(al v b++[iV id])) (by kernel_rfl) ⟨hk.one,ax (am h) ⟨rfl,trivial⟩⟩ ?_
 simp only[ki]
 refine af fun r0=>?_
 refine aa ?_
 refine aj (wz h id) rfl ⟨rfl,trivial⟩ fun H1 l1=>?_
 have h:=h.le l1
 refine ab _ (aB _ _) (ai (fun hi=>?_) (fun hi=>?_))
 ·have hi:eY b id < 0:=of_decide_eq_true hi
  have hn:¬ onB cs b id=true:=fun hon=>by
   obtain⟨k,f1,f2,f3,f4,f5⟩:=dD (kO hon).2.2
   omega
  refine ah ⟨?_,rfl⟩
  rw[gY,if_neg hn]
 have hi:¬ eY b id < 0:=of_decide_eq_false hi
 obtain⟨k,o,e1,e2,e3⟩:=nS (b:=b) (id:=id) (by omega)
 obtain⟨g1,g2,_⟩:=Lp hv e1
 rw[e2] at g1 g2
 have hown:=(cV (aM hv).1 e1).2.2.2
 have hon:onB cs b id=(eL (UR cs) o && (ao b o.owner).field.contains id):=by rw[onB,g1,g2];rfl
 have hnd:∀ q,(ao b q).field.Nodup:=fun q=>by
  have:=tX (aM hv).1
  rw[ao];split
  ·exact this.1
  ·exact this.2
 obtain⟨a,i1,i2,i3,i4,i5⟩:=h.objs.idx .i64 k (Ob.row o) (by rw[List.getElem?_map,e1];rfl)
 rw[e3]
 refine aa ?_
 refine ab _ i1 (ap i2 i4 i5 ?_)
 refine aj (zp (hk.le l1).base.kinds o) rfl ⟨rfl,trivial⟩ fun H2 l2=>?_
 have h:=h.le l2
 have i3:Reads H2 O (aO (.pointer (some a)) 2) 1 [iV o.owner]:=by
  obtain⟨a',j1,_,j3,_,_⟩:=h.objs.idx .i64 k (Ob.row o) (by rw[List.getElem?_map,e1];rfl)
  have:a'=a:=by
   rw[i1] at j1
   simpa using j1.symm
  subst this
  exact j3 2 1 (by omega)
 refine ab _ (aJ _) (ai (fun hc=>?_) (fun hc=>?_))
 ·have hc:eL (UR cs) o=false:=u6 hc
  refine ah ⟨?_,rfl⟩
  rw[gY,hon,hc,if_neg (by simp)]
 have hc:eL (UR cs) o=true:=sR hc
 rw[hc,Bool.true_and] at hon
 have hcnt:∀ q,(((ao b q).field.count id:Nat):Int) ≠ 1→(ao b q).field.contains id=false:=fun q hne=>by
  cases hcon:(ao b q).field.contains id
  ·rfl
  ·exfalso
   have hm:id ∈ (ao b q).field:=by simpa using hcon
   have:=(hnd q).count (a:=id)
   rw[if_pos hm] at this
   omega
 have hcnt2:∀ q,(((ao b q).field.count id:Nat):Int)=1→(ao b q).field.contains id=true:=fun q he=>by
  have:0 < (ao b q).field.count id:=by omega
  simpa using List.count_pos_iff.1 this
 refine aa ?_
 refine ab _ i1 (aw rfl (ap (vs:=[iV o.owner]) i3 rfl ⟨rfl,trivial⟩ ?_))
 rcases hown with hown | hown
 ·refine⟨.i64,o.owner,rfl,fun _=>?_,fun e=>absurd hown e⟩
  refine aa ?_
  refine aj (gk h.s0.field id) rfl ⟨rfl,trivial⟩ fun H3 l3=>?_
  refine ab _ (aY _ _) (ai (fun hq=>?_) (fun hq=>?_))
  ·have hq:((b.s0.field.count id:Nat):Int) ≠ 1:=by simpa using hq
   refine ah ⟨?_,rfl⟩
   rw[gY,hon,hown,hcnt 0 hq,if_neg (by simp)]
  ·have hq:((b.s0.field.count id:Nat):Int)=1:=by simpa using hq
   refine ah ⟨?_,rfl⟩
   rw[gY,hon,hown,hcnt2 0 hq,if_pos rfl,e3];rfl
 ·refine⟨.i64,o.owner,rfl,fun e=>absurd (hown.symm.trans e) (by omega),fun _=>⟨.i64,o.owner,rfl,fun _=>?_,fun e=>absurd hown e⟩⟩
  refine aa ?_
  refine aj (gk h.s1.field id) rfl ⟨rfl,trivial⟩ fun H3 l3=>?_
  refine ab _ (aY _ _) (ai (fun hq=>?_) (fun hq=>?_))
  ·have hq:((b.s1.field.count id:Nat):Int) ≠ 1:=by simpa using hq
   refine ah ⟨?_,rfl⟩
   rw[gY,hon,hown,hcnt 1 hq,if_neg (by simp)]
  ·have hq:((b.s1.field.count id:Nat):Int)=1:=by simpa using hq
   refine ah ⟨?_,rfl⟩
   rw[gY,hon,hown,hcnt2 1 hq,if_pos rfl,e3];rfl
section
variable {cv:Value} {cs:List CdX} {v:cn} {b:Bd} (hv:an b=true) (hB:bdB b) {p src most:Int} {e:Eff} {t:Tg} (hev:rF e=true) (hnb:¬ TR cs b p e t) (hsum:∀ q,(ao b q).lib.length + (ao b q).hand.length≤1000000)
 {n r1 r2 r0 r3:Nat} {who:Int}
include hv hB hev hnb hsum
theorem HT {u:cn} {H:Heap} {O:Own} (ho:OwnB tys u b O) {l l7:List Value} (hl:l=(cv::(al v b++(iV p::iV src::(e.row++(t.row++[iV most])))))) (hw:who=0) (hwd:who=EA p e t) (qn:g l n=iV who) (q7:l7=[iV (gY cs b (idE src e t))]) :
  (cd l n r1 r2 r0 (al u b) l7 r3).den PP (S8 (aF cs b p who (idE src e t) e most)) H O:=by
 obtain⟨n0,n99,m0,m99,c0,c3⟩:=jF hev
 obtain⟨z1,z2,z3,z4,z5,z6,z7,z8⟩:=ul hev
 have nsm:sm e.n:=by constructor <;> omega
 have msm:sm e.m:=by constructor <;> omega
 have hlf:=nG hv 0
 have q41:g l 41=iV e.code:=by rw[hl];rfl
 have q46:g l 46=iV t.id:=by rw[hl];rfl
 have q43:g l 43=iV e.n:=by rw[hl];rfl
 simp only[cd]
 refine⟨.i64,who,qn,fun _=>?_,fun h=>absurd hw h⟩
 refine aa ?_
 rw[q41,q46,q43]
 refine ab _ (ay _ _) (ai (fun h=>?_) (fun h=>?_))
 ·have hc:e.code=1:=by simpa using h
  have ht:e.target ≠ 0:=by have:=z1 hc;omega
  have eid:idE src e t=t.id:=by rw[idE,if_neg ht]
  rw[eid] at q7 ⊢
  refine aa ?_
  refine ab _ (bK _ _) (ai (fun hp=>?_) (fun hp=>?_))
  ·have hp:t.id > 0:=of_decide_eq_true hp
   have ec:aF cs b p who t.id e most=bV b t.id fun o=>{ o with dmg:=oM o.dmg e.n }:=by rw[aF,if_pos hc,if_pos hp]
   have hon:onB cs b t.id=true:=by
    rcases (nw (E6 hnb ht)).2.2.2 with ⟨_,_,h2,_⟩ | ⟨h2,_⟩ | ⟨h6,_⟩
    ·exact h2
    ·omega
    ·have:=z1 hc;omega
   obtain⟨k,f1,f2,f3,f4,f5⟩:=dD (kO hon).2.2
   rw[gY,if_pos hon,f3] at q7
   rw[ec,jG (kO hon).2.2 f3 f2 rfl rfl (yg f4 e.n)]
   subst q7
   exact Rz ho f1 (x:=(cY b t.id).dmg) (nB f4).1 nsm (by omega) (by rw[q43]) rfl rfl
  ·have ec:aF cs b p who t.id e most=iI b 0 (bp ((ao b 0).life - e.n) 9999):=by rw[aF,if_pos hc,if_neg (of_decide_eq_false hp),hw]
   rw[ec]
   refine aa (aa ?_)
   refine ab _ (Eu (x:=(ao b 0).life) (y:=e.n) (by omega) (by omega)) ?_
   refine ab _ (kQ _ _) ?_
   simp only[bZ]
   refine aa (aa (aa (aa ?_)))
   have ex:bp ((ao b 0).life - e.n) 9999=max 0 ((ao b 0).life - e.n):=by rw[bp];omega
   rw[ex]
   exact eZ (x:=iI b 0 (max 0 ((ao b 0).life - e.n))) (ck ho rfl rfl rfl rfl)
 have k1:e.code ≠ 1:=by simpa using h
 refine ab _ (ay _ _) (ai (fun h=>?_) (fun h=>?_))
 ·have hc:e.code=2:=by simpa using h
  have ec:aF cs b p who (idE src e t) e most=cq e.n.toNat b 0:=by
   rw[aF,if_neg k1,if_pos hc,hw,nU,if_neg (by rw[hv,show au 0 0 1=true by decide,decide_eq_false (show ¬ e.n < 0 by omega)];simp)]
  rw[ec]
  simp only[dG]
  rw[qn,q43,hw]
  refine aa (aa ?_)
  have hnn:(iV e.n:Value)=iV ((e.n.toNat:Nat):Int):=by rw[Int.toNat_of_nonneg n0]
  rw[hnn]
  refine dr ho (fun Hf lf hf=>Tm hf hB hv 0 (by omega) (hsum 0) e.n.toNat (by omega)) ?_
  rintro _ H2 _ ⟨⟨w2,rfl,h2⟩,rfl⟩ l2
  refine⟨al w2 _,rfl,am (h2.r []),?_⟩
  simp only[aD]
  refine aa (aa ?_)
  exact ah ⟨⟨w2,rfl,h2⟩,rfl⟩
 have k2:e.code ≠ 2:=by simpa using h
 refine ab _ (ay _ _) (ai (fun h=>?_) (fun h=>?_))
 ·have hc:e.code=3:=by simpa using h
  have ec:aF cs b p who (idE src e t) e most=iI b 0 (bp ((ao b 0).life + e.n) 9999):=by rw[aF,if_neg k1,if_neg k2,if_pos hc,hw]
  rw[ec]
  refine aa (aa ?_)
  refine ab _ (QR (x:=(ao b 0).life) (y:=e.n) (by constructor <;> omega) nsm) ?_
  refine ab _ (gW _ _) ?_
  simp only[bZ]
  refine aa (aa (aa (aa ?_)))
  have ex:bp ((ao b 0).life + e.n) 9999=min 9999 ((ao b 0).life + e.n):=by rw[bp];omega
  rw[ex]
  exact eZ (x:=iI b 0 (min 9999 ((ao b 0).life + e.n))) (ck ho rfl rfl rfl rfl)
 have k3:e.code ≠ 3:=by simpa using h
 refine ab _ (ay _ _) (ai (fun h=>?_) (fun h=>?_))
 ·have hc:e.code=4:=by simpa using h
  have ec:aF cs b p who (idE src e t) e most=iI b 0 (bp ((ao b 0).life - e.n) 9999):=by rw[aF,if_neg k1,if_neg k2,if_neg k3,if_pos hc,hw]
  rw[ec]
  refine aa (aa ?_)
  refine ab _ (Eu (x:=(ao b 0).life) (y:=e.n) (by omega) (by omega)) ?_
  refine ab _ (kQ _ _) ?_
  simp only[bZ]
  refine aa (aa (aa (aa ?_)))
  have ex:bp ((ao b 0).life - e.n) 9999=max 0 ((ao b 0).life - e.n):=by rw[bp];omega
  rw[ex]
  exact eZ (x:=iI b 0 (max 0 ((ao b 0).life - e.n))) (ck ho rfl rfl rfl rfl)
 have k4:e.code ≠ 4:=by simpa using h
 have onT:e.code=5∨e.code=6∨e.code=11→idE src e t=t.id∧onB cs b t.id=true:=fun hc=>by
  have ht:e.target ≠ 0:=by have:=z3 hc;omega
  refine⟨by rw[idE,if_neg ht],?_⟩
  rcases (nw (E6 hnb ht)).2.2.2 with ⟨_,_,h2,_⟩ | ⟨_,h2⟩ | ⟨h6,_⟩
  ·exact h2
  ·have:=z3 hc;omega
  ·have:=z3 hc;omega
 refine ab _ (ay _ _) (ai (fun h=>?_) (fun h=>?_))
 ·have hc:e.code=5:=by simpa using h
  obtain⟨eid,hon⟩:=onT (.inl hc)
  rw[eid] at q7 ⊢
  obtain⟨k,f1,f2,f3,f4,f5⟩:=dD (kO hon).2.2
  have ec:aF cs b p who t.id e most=bV b t.id (sW e):=by rw[aF,if_neg k1,if_neg k2,if_neg k3,if_neg k4,if_neg (by omega),if_neg (by omega),if_neg (by omega),if_neg (by omega),if_pos hon]
  obtain⟨a1,a2,a3⟩:=jL e (cY b t.id)
  rw[gY,if_pos hon,f3] at q7
  rw[ec,jG (kO hon).2.2 f3 (a1.trans f2) a2 a3 (jK f4)]
  subst q7
  exact KV ho f1 (by omega) (by rw[sW,if_pos hc];rfl)
 have k5:e.code ≠ 5:=by simpa using h
 refine ab _ (ay _ _) (ai (fun h=>?_) (fun h=>?_))
 ·have hc:e.code=11:=by simpa using h
  obtain⟨eid,hon⟩:=onT (.inr (.inr hc))
  rw[eid] at q7 ⊢
  obtain⟨k,f1,f2,f3,f4,f5⟩:=dD (kO hon).2.2
  have ec:aF cs b p who t.id e most=bV b t.id (sW e):=by rw[aF,if_neg k1,if_neg k2,if_neg k3,if_neg k4,if_neg (by omega),if_neg (by omega),if_neg (by omega),if_neg (by omega),if_pos hon]
  obtain⟨a1,a2,a3⟩:=jL e (cY b t.id)
  rw[gY,if_pos hon,f3] at q7
  rw[ec,jG (kO hon).2.2 f3 (a1.trans f2) a2 a3 (jK f4)]
  subst q7
  exact KV ho f1 (by omega) (by rw[sW,if_neg k5,if_pos hc];rfl)
 have k11:e.code ≠ 11:=by simpa using h
 refine ab _ (ay _ _) (ai (fun h=>?_) (fun h=>?_))
 ·have hc:e.code=6:=by simpa using h
  obtain⟨eid,hon⟩:=onT (.inr (.inl hc))
  rw[eid]
  obtain⟨k,f1,f2,f3,f4,f5⟩:=dD (kO hon).2.2
  have ec:aF cs b p who t.id e most=(cX b t.id 1).1:=by rw[aF,if_neg k1,if_neg k2,if_neg k3,if_neg k4,if_pos hc]
  rw[ec]
  simp only[dH]
  rw[q46]
  refine aa (aa ?_)
  refine dr ho (fun Hf lf hf=>by have hm:=tU hf hv hB f1 1 (by omega);rw[f2] at hm;exact hm) ?_
  rintro _ H2 _ ⟨⟨w2,rfl,h2⟩,rfl⟩ l2
  refine⟨al w2 _,rfl,am (h2.r []),?_⟩
  simp only[aD]
  refine aa (aa ?_)
  exact ah ⟨⟨w2,rfl,h2⟩,rfl⟩
 have k6:e.code ≠ 6:=by simpa using h
 refine ab _ (ay _ _) (ai (fun h=>?_) (fun h=>?_))
 ·have hc:e.code=7:=by simpa using h
  have eid:idE src e t=t.id:=by rw[idE,if_neg (by have:=z4 hc;omega)]
  rw[eid]
  have ec:aF cs b p who t.id e most=(bB b t.id).1:=by rw[aF,if_neg k1,if_neg k2,if_neg k3,if_neg k4,if_neg k6,if_pos hc]
  rw[ec]
  simp only[dI]
  rw[q46]
  refine aa (aa ?_)
  refine dr ho (fun Hf lf hf=>HW hf hv hB) ?_
  rintro _ H2 _ ⟨⟨w2,rfl,h2⟩,rfl⟩ l2
  refine⟨al w2 (bB b t.id).1++[iV (bB b t.id).2],rfl,ax (am (h2.r [])) ⟨rfl,trivial⟩,af fun r=>?_⟩
  refine aa (aa (aa (aa ?_)))
  exact ah ⟨⟨w2,rfl,h2⟩,rfl⟩
 have k7:e.code ≠ 7:=by simpa using h
 have hal:e.code=8∨e.code=9→aF cs b p who (idE src e t) e most=if onB cs b (idE src e t)=true then bV b (idE src e t) (sW e) else b:=fun hc=>by
  rw[aF,if_neg k1,if_neg k2,if_neg k3,if_neg k4,if_neg k6,if_neg k7,if_neg (by omega),if_neg (by omega)]
 refine ab _ (ay _ _) (ai (fun h=>?_) (fun h=>?_))
 ·have hc:e.code=8:=by simpa using h
  rw[hal (.inl hc)]
  subst q7
  exact Tf ho nsm msm q43 (by rw[hl];rfl) (fun o=>by rw[sW,if_neg k5,if_neg k11,if_pos hc])
 have k8:e.code ≠ 8:=by simpa using h
 refine ab _ (ay _ _) (ai (fun h=>?_) (fun h=>?_))
 ·have hc:e.code=9:=by simpa using h
  rw[hal (.inr hc)]
  subst q7
  refine ab _ (cI _ _) (ai (fun h=>?_) (fun h=>?_))
  ·have hon:=DG (of_decide_eq_true h)
   obtain⟨k,f1,f2,f3,f4,f5⟩:=dD (kO hon).2.2
   obtain⟨a1,a2,a3⟩:=jL e (cY b (idE src e t))
   rw[if_pos hon,jG (kO hon).2.2 f3 (a1.trans f2) a2 a3 (jK f4),gY,if_pos hon,f3]
   exact Rz ho f1 (x:=(cY b (idE src e t)).cnt) (nB f4).2.1 nsm (by omega) (by rw[q43]) rfl (by rw[sW,if_neg k5,if_neg k11,if_neg k8,if_pos hc];rfl)
  ·have hon:=DI (of_decide_eq_false h)
   rw[if_neg hon]
   simp only[aD]
   refine aa (aa (aa ?_))
   exact eZ ho
 have k9:e.code ≠ 9:=by simpa using h
 refine ab _ (ay _ _) (ai (fun h=>?_) (fun h=>?_))
 ·have hc:e.code=10:=by simpa using h
  have hp:p=0∨p=1:=by
   have:EA p e t=p:=by rw[EA,if_pos (z6 (.inl hc))]
   omega
  have ec:aF cs b p who (idE src e t) e most=(vz b p e.n e.m most).1:=by rw[aF,if_neg k1,if_neg k2,if_neg k3,if_neg k4,if_neg k6,if_neg k7,if_pos hc,Ta hv hp]
  rw[ec]
  simp only[dW]
  subst hl
  refine aa (aa (aa ?_))
  refine dr ho (fun Hf lf hf=>OM hf hB hv hp e.n e.m most) ?_
  rintro _ H2 _ ⟨⟨w2,rfl,h2⟩,rfl⟩ l2
  refine⟨al w2 (vz b p e.n e.m most).1++[iV (vz b p e.n e.m most).2],rfl,ax (am (h2.r [])) ⟨rfl,trivial⟩,af fun r=>?_⟩
  refine aa (aa (aa (aa ?_)))
  exact ah ⟨⟨w2,rfl,h2⟩,rfl⟩
 have k10:e.code ≠ 10:=by simpa using h
 refine ab _ (ay _ _) (ai (fun h=>?_) (fun h=>?_))
 ·have hc:e.code=12:=by simpa using h
  have ec:aF cs b p who (idE src e t) e most=aV b 0 (ep (ao b 0) e.colour e.n):=by rw[aF,if_neg k1,if_neg k2,if_neg k3,if_neg k4,if_neg k6,if_neg k7,if_neg k10,if_pos hc,hw]
  rw[ec]
  subst hl
  refine aa (aa ?_)
  obtain hc | hc | hc | hc:e.colour=0∨e.colour=1∨e.colour=2∨e.colour=3:=by omega
  ·refine⟨.i64,e.colour,rfl,fun _=>?_,fun h=>absurd hc h⟩
   simp only[bo]
   refine aa (aa ?_)
   have hpl:=(dM hv 0).1
   have hpr:=(je hv 0).1
   refine ab _ (QR hpl nsm) ?_
   refine ab _ (gW _ _) ?_
   refine⟨.i64,e.colour,rfl,fun _=>?_,fun h=>absurd hc h⟩
   refine aa (aa (aa (aa ?_)))
   have ex:ep (ao b 0) e.colour e.n={ ao b 0 with p0:=min 99 ((ao b 0).p0 + e.n) }:=by
    rw[ep,if_pos hc,bp,show max 0 (min ((ao b 0).p0 + e.n) 99)=min 99 ((ao b 0).p0 + e.n) by omega]
   rw[ex]
   exact eZ (x:=aV b 0 { ao b 0 with p0:=min 99 ((ao b 0).p0 + e.n) }) (ck ho rfl rfl rfl rfl)
  ·refine⟨.i64,e.colour,rfl,fun h=>absurd (hc.symm.trans h) (by omega),fun _=>⟨.i64,e.colour,rfl,fun _=>?_,fun h=>absurd hc h⟩⟩
   simp only[bo]
   refine aa (aa ?_)
   have hpl:=(dM hv 0).2.1
   have hpr:=(je hv 0).2.1
   refine ab _ (QR hpl nsm) ?_
   refine ab _ (gW _ _) ?_
   refine⟨.i64,e.colour,rfl,fun h=>absurd (hc.symm.trans h) (by omega),fun _=>⟨.i64,e.colour,rfl,fun _=>?_,fun h=>absurd hc h⟩⟩
   refine aa (aa (aa (aa ?_)))
   have ex:ep (ao b 0) e.colour e.n={ ao b 0 with p1:=min 99 ((ao b 0).p1 + e.n) }:=by
    rw[ep,if_neg (by omega),if_pos hc,bp,show max 0 (min ((ao b 0).p1 + e.n) 99)=min 99 ((ao b 0).p1 + e.n) by omega]
   rw[ex]
   exact eZ (x:=aV b 0 { ao b 0 with p1:=min 99 ((ao b 0).p1 + e.n) }) (ck ho rfl rfl rfl rfl)
  ·refine⟨.i64,e.colour,rfl,fun h=>absurd (hc.symm.trans h) (by omega),fun _=>⟨.i64,e.colour,rfl,fun h=>absurd (hc.symm.trans h) (by omega),fun _=>⟨.i64,e.colour,rfl,fun _=>?_,fun h=>absurd hc h⟩⟩⟩
   simp only[bo]
   refine aa (aa ?_)
   have hpl:=(dM hv 0).2.2.1
   have hpr:=(je hv 0).2.2.1
   refine ab _ (QR hpl nsm) ?_
   refine ab _ (gW _ _) ?_
   refine⟨.i64,e.colour,rfl,fun h=>absurd (hc.symm.trans h) (by omega),fun _=>⟨.i64,e.colour,rfl,fun h=>absurd (hc.symm.trans h) (by omega),fun _=>⟨.i64,e.colour,rfl,fun _=>?_,fun h=>absurd hc h⟩⟩⟩
   refine aa (aa (aa (aa ?_)))
   have ex:ep (ao b 0) e.colour e.n={ ao b 0 with p2:=min 99 ((ao b 0).p2 + e.n) }:=by
    rw[ep,if_neg (by omega),if_neg (by omega),if_pos hc,bp,show max 0 (min ((ao b 0).p2 + e.n) 99)=min 99 ((ao b 0).p2 + e.n) by omega]
   rw[ex]
   exact eZ (x:=aV b 0 { ao b 0 with p2:=min 99 ((ao b 0).p2 + e.n) }) (ck ho rfl rfl rfl rfl)
  ·refine⟨.i64,e.colour,rfl,fun h=>absurd (hc.symm.trans h) (by omega),fun _=>⟨.i64,e.colour,rfl,fun h=>absurd (hc.symm.trans h) (by omega),fun _=>⟨.i64,e.colour,rfl,fun h=>absurd (hc.symm.trans h) (by omega),fun _=>⟨.i64,e.colour,rfl,fun _=>?_,fun h=>absurd hc h⟩⟩⟩⟩
   simp only[bo]
   refine aa (aa ?_)
   have hpl:=(dM hv 0).2.2.2
   have hpr:=(je hv 0).2.2.2
   refine ab _ (QR hpl nsm) ?_
   refine ab _ (gW _ _) ?_
   refine⟨.i64,e.colour,rfl,fun h=>absurd (hc.symm.trans h) (by omega),fun _=>⟨.i64,e.colour,rfl,fun h=>absurd (hc.symm.trans h) (by omega),fun _=>⟨.i64,e.colour,rfl,fun h=>absurd (hc.symm.trans h) (by omega),fun _=>⟨.i64,e.colour,rfl,fun _=>?_,fun h=>absurd hc h⟩⟩⟩⟩
   refine aa (aa (aa (aa ?_)))
   have ex:ep (ao b 0) e.colour e.n={ ao b 0 with p3:=min 99 ((ao b 0).p3 + e.n) }:=by
    rw[ep,if_neg (by omega),if_neg (by omega),if_neg (by omega),bp,show max 0 (min ((ao b 0).p3 + e.n) 99)=min 99 ((ao b 0).p3 + e.n) by omega]
   rw[ex]
   exact eZ (x:=aV b 0 { ao b 0 with p3:=min 99 ((ao b 0).p3 + e.n) }) (ck ho rfl rfl rfl rfl)
 have k12:e.code ≠ 12:=by simpa using h
 exfalso
 omega
include hv hB hev hnb hsum
theorem HQ {u:cn} {H:Heap} {O:Own} (ho:OwnB tys u b O) {l l7:List Value} (hl:l=(cv::(al v b++(iV p::iV src::(e.row++(t.row++[iV most])))))) (hw:who=1) (hwd:who=EA p e t) (qn:g l n=iV who) (q7:l7=[iV (gY cs b (idE src e t))]) :
  (cd l n r1 r2 r0 (al u b) l7 r3).den PP (S8 (aF cs b p who (idE src e t) e most)) H O:=by
 obtain⟨n0,n99,m0,m99,c0,c3⟩:=jF hev
 obtain⟨z1,z2,z3,z4,z5,z6,z7,z8⟩:=ul hev
 have nsm:sm e.n:=by constructor <;> omega
 have msm:sm e.m:=by constructor <;> omega
 have hlf:=nG hv 1
 have q41:g l 41=iV e.code:=by rw[hl];rfl
 have q46:g l 46=iV t.id:=by rw[hl];rfl
 have q43:g l 43=iV e.n:=by rw[hl];rfl
 simp only[cd]
 refine⟨.i64,who,qn,fun h=>absurd (hw.symm.trans h) (by omega),fun _=>⟨.i64,who,qn,fun _=>?_,fun h=>absurd hw h⟩⟩
 refine aa ?_
 rw[q41,q46,q43]
 refine ab _ (ay _ _) (ai (fun h=>?_) (fun h=>?_))
 ·have hc:e.code=1:=by simpa using h
  have ht:e.target ≠ 0:=by have:=z1 hc;omega
  have eid:idE src e t=t.id:=by rw[idE,if_neg ht]
  rw[eid] at q7 ⊢
  refine aa ?_
  refine ab _ (bK _ _) (ai (fun hp=>?_) (fun hp=>?_))
  ·have hp:t.id > 0:=of_decide_eq_true hp
   have ec:aF cs b p who t.id e most=bV b t.id fun o=>{ o with dmg:=oM o.dmg e.n }:=by rw[aF,if_pos hc,if_pos hp]
   have hon:onB cs b t.id=true:=by
    rcases (nw (E6 hnb ht)).2.2.2 with ⟨_,_,h2,_⟩ | ⟨h2,_⟩ | ⟨h6,_⟩
    ·exact h2
    ·omega
    ·have:=z1 hc;omega
   obtain⟨k,f1,f2,f3,f4,f5⟩:=dD (kO hon).2.2
   rw[gY,if_pos hon,f3] at q7
   rw[ec,jG (kO hon).2.2 f3 f2 rfl rfl (yg f4 e.n)]
   subst q7
   exact Rz ho f1 (x:=(cY b t.id).dmg) (nB f4).1 nsm (by omega) (by rw[q43]) rfl rfl
  ·have ec:aF cs b p who t.id e most=iI b 1 (bp ((ao b 1).life - e.n) 9999):=by rw[aF,if_pos hc,if_neg (of_decide_eq_false hp),hw]
   rw[ec]
   refine aa (aa ?_)
   refine ab _ (Eu (x:=(ao b 1).life) (y:=e.n) (by omega) (by omega)) ?_
   refine ab _ (kQ _ _) ?_
   simp only[bY]
   refine aa (aa (aa (aa ?_)))
   have ex:bp ((ao b 1).life - e.n) 9999=max 0 ((ao b 1).life - e.n):=by rw[bp];omega
   rw[ex]
   exact eZ (x:=iI b 1 (max 0 ((ao b 1).life - e.n))) (ck ho rfl rfl rfl rfl)
 have k1:e.code ≠ 1:=by simpa using h
 refine ab _ (ay _ _) (ai (fun h=>?_) (fun h=>?_))
 ·have hc:e.code=2:=by simpa using h
  have ec:aF cs b p who (idE src e t) e most=cq e.n.toNat b 1:=by
   rw[aF,if_neg k1,if_pos hc,hw,nU,if_neg (by rw[hv,show au 1 0 1=true by decide,decide_eq_false (show ¬ e.n < 0 by omega)];simp)]
  rw[ec]
  simp only[dG]
  rw[qn,q43,hw]
  refine aa (aa ?_)
  have hnn:(iV e.n:Value)=iV ((e.n.toNat:Nat):Int):=by rw[Int.toNat_of_nonneg n0]
  rw[hnn]
  refine dr ho (fun Hf lf hf=>Tm hf hB hv 1 (by omega) (hsum 1) e.n.toNat (by omega)) ?_
  rintro _ H2 _ ⟨⟨w2,rfl,h2⟩,rfl⟩ l2
  refine⟨al w2 _,rfl,am (h2.r []),?_⟩
  simp only[aD]
  refine aa (aa ?_)
  exact ah ⟨⟨w2,rfl,h2⟩,rfl⟩
 have k2:e.code ≠ 2:=by simpa using h
 refine ab _ (ay _ _) (ai (fun h=>?_) (fun h=>?_))
 ·have hc:e.code=3:=by simpa using h
  have ec:aF cs b p who (idE src e t) e most=iI b 1 (bp ((ao b 1).life + e.n) 9999):=by rw[aF,if_neg k1,if_neg k2,if_pos hc,hw]
  rw[ec]
  refine aa (aa ?_)
  refine ab _ (QR (x:=(ao b 1).life) (y:=e.n) (by constructor <;> omega) nsm) ?_
  refine ab _ (gW _ _) ?_
  simp only[bY]
  refine aa (aa (aa (aa ?_)))
  have ex:bp ((ao b 1).life + e.n) 9999=min 9999 ((ao b 1).life + e.n):=by rw[bp];omega
  rw[ex]
  exact eZ (x:=iI b 1 (min 9999 ((ao b 1).life + e.n))) (ck ho rfl rfl rfl rfl)
 have k3:e.code ≠ 3:=by simpa using h
 refine ab _ (ay _ _) (ai (fun h=>?_) (fun h=>?_))
 ·have hc:e.code=4:=by simpa using h
  have ec:aF cs b p who (idE src e t) e most=iI b 1 (bp ((ao b 1).life - e.n) 9999):=by rw[aF,if_neg k1,if_neg k2,if_neg k3,if_pos hc,hw]
  rw[ec]
  refine aa (aa ?_)
  refine ab _ (Eu (x:=(ao b 1).life) (y:=e.n) (by omega) (by omega)) ?_
  refine ab _ (kQ _ _) ?_
  simp only[bY]
  refine aa (aa (aa (aa ?_)))
  have ex:bp ((ao b 1).life - e.n) 9999=max 0 ((ao b 1).life - e.n):=by rw[bp];omega
  rw[ex]
  exact eZ (x:=iI b 1 (max 0 ((ao b 1).life - e.n))) (ck ho rfl rfl rfl rfl)
 have k4:e.code ≠ 4:=by simpa using h
 have onT:e.code=5∨e.code=6∨e.code=11→idE src e t=t.id∧onB cs b t.id=true:=fun hc=>by
  have ht:e.target ≠ 0:=by have:=z3 hc;omega
  refine⟨by rw[idE,if_neg ht],?_⟩
  rcases (nw (E6 hnb ht)).2.2.2 with ⟨_,_,h2,_⟩ | ⟨_,h2⟩ | ⟨h6,_⟩
  ·exact h2
  ·have:=z3 hc;omega
  ·have:=z3 hc;omega
 refine ab _ (ay _ _) (ai (fun h=>?_) (fun h=>?_))
 ·have hc:e.code=5:=by simpa using h
  obtain⟨eid,hon⟩:=onT (.inl hc)
  rw[eid] at q7 ⊢
  obtain⟨k,f1,f2,f3,f4,f5⟩:=dD (kO hon).2.2
  have ec:aF cs b p who t.id e most=bV b t.id (sW e):=by rw[aF,if_neg k1,if_neg k2,if_neg k3,if_neg k4,if_neg (by omega),if_neg (by omega),if_neg (by omega),if_neg (by omega),if_pos hon]
  obtain⟨a1,a2,a3⟩:=jL e (cY b t.id)
  rw[gY,if_pos hon,f3] at q7
  rw[ec,jG (kO hon).2.2 f3 (a1.trans f2) a2 a3 (jK f4)]
  subst q7
  exact KV ho f1 (by omega) (by rw[sW,if_pos hc];rfl)
 have k5:e.code ≠ 5:=by simpa using h
 refine ab _ (ay _ _) (ai (fun h=>?_) (fun h=>?_))
 ·have hc:e.code=11:=by simpa using h
  obtain⟨eid,hon⟩:=onT (.inr (.inr hc))
  rw[eid] at q7 ⊢
  obtain⟨k,f1,f2,f3,f4,f5⟩:=dD (kO hon).2.2
  have ec:aF cs b p who t.id e most=bV b t.id (sW e):=by rw[aF,if_neg k1,if_neg k2,if_neg k3,if_neg k4,if_neg (by omega),if_neg (by omega),if_neg (by omega),if_neg (by omega),if_pos hon]
  obtain⟨a1,a2,a3⟩:=jL e (cY b t.id)
  rw[gY,if_pos hon,f3] at q7
  rw[ec,jG (kO hon).2.2 f3 (a1.trans f2) a2 a3 (jK f4)]
  subst q7
  exact KV ho f1 (by omega) (by rw[sW,if_neg k5,if_pos hc];rfl)
 have k11:e.code ≠ 11:=by simpa using h
 refine ab _ (ay _ _) (ai (fun h=>?_) (fun h=>?_))
 ·have hc:e.code=6:=by simpa using h
  obtain⟨eid,hon⟩:=onT (.inr (.inl hc))
  rw[eid]
  obtain⟨k,f1,f2,f3,f4,f5⟩:=dD (kO hon).2.2
  have ec:aF cs b p who t.id e most=(cX b t.id 1).1:=by rw[aF,if_neg k1,if_neg k2,if_neg k3,if_neg k4,if_pos hc]
  rw[ec]
  simp only[dH]
  rw[q46]
  refine aa (aa ?_)
  refine dr ho (fun Hf lf hf=>by have hm:=tU hf hv hB f1 1 (by omega);rw[f2] at hm;exact hm) ?_
  rintro _ H2 _ ⟨⟨w2,rfl,h2⟩,rfl⟩ l2
  refine⟨al w2 _,rfl,am (h2.r []),?_⟩
  simp only[aD]
  refine aa (aa ?_)
  exact ah ⟨⟨w2,rfl,h2⟩,rfl⟩
 have k6:e.code ≠ 6:=by simpa using h
 refine ab _ (ay _ _) (ai (fun h=>?_) (fun h=>?_))
 ·have hc:e.code=7:=by simpa using h
  have eid:idE src e t=t.id:=by rw[idE,if_neg (by have:=z4 hc;omega)]
  rw[eid]
  have ec:aF cs b p who t.id e most=(bB b t.id).1:=by rw[aF,if_neg k1,if_neg k2,if_neg k3,if_neg k4,if_neg k6,if_pos hc]
  rw[ec]
  simp only[dI]
  rw[q46]
  refine aa (aa ?_)
  refine dr ho (fun Hf lf hf=>HW hf hv hB) ?_
  rintro _ H2 _ ⟨⟨w2,rfl,h2⟩,rfl⟩ l2
  refine⟨al w2 (bB b t.id).1++[iV (bB b t.id).2],rfl,ax (am (h2.r [])) ⟨rfl,trivial⟩,af fun r=>?_⟩
  refine aa (aa (aa (aa ?_)))
  exact ah ⟨⟨w2,rfl,h2⟩,rfl⟩
 have k7:e.code ≠ 7:=by simpa using h
 have hal:e.code=8∨e.code=9→aF cs b p who (idE src e t) e most=if onB cs b (idE src e t)=true then bV b (idE src e t) (sW e) else b:=fun hc=>by
  rw[aF,if_neg k1,if_neg k2,if_neg k3,if_neg k4,if_neg k6,if_neg k7,if_neg (by omega),if_neg (by omega)]
 refine ab _ (ay _ _) (ai (fun h=>?_) (fun h=>?_))
 ·have hc:e.code=8:=by simpa using h
  rw[hal (.inl hc)]
  subst q7
  exact Tf ho nsm msm q43 (by rw[hl];rfl) (fun o=>by rw[sW,if_neg k5,if_neg k11,if_pos hc])
 have k8:e.code ≠ 8:=by simpa using h
 refine ab _ (ay _ _) (ai (fun h=>?_) (fun h=>?_))
 ·have hc:e.code=9:=by simpa using h
  rw[hal (.inr hc)]
  subst q7
  refine ab _ (cI _ _) (ai (fun h=>?_) (fun h=>?_))
  ·have hon:=DG (of_decide_eq_true h)
   obtain⟨k,f1,f2,f3,f4,f5⟩:=dD (kO hon).2.2
   obtain⟨a1,a2,a3⟩:=jL e (cY b (idE src e t))
   rw[if_pos hon,jG (kO hon).2.2 f3 (a1.trans f2) a2 a3 (jK f4),gY,if_pos hon,f3]
   exact Rz ho f1 (x:=(cY b (idE src e t)).cnt) (nB f4).2.1 nsm (by omega) (by rw[q43]) rfl (by rw[sW,if_neg k5,if_neg k11,if_neg k8,if_pos hc];rfl)
  ·have hon:=DI (of_decide_eq_false h)
   rw[if_neg hon]
   simp only[aD]
   refine aa (aa (aa ?_))
   exact eZ ho
 have k9:e.code ≠ 9:=by simpa using h
 refine ab _ (ay _ _) (ai (fun h=>?_) (fun h=>?_))
 ·have hc:e.code=10:=by simpa using h
  have hp:p=0∨p=1:=by
   have:EA p e t=p:=by rw[EA,if_pos (z6 (.inl hc))]
   omega
  have ec:aF cs b p who (idE src e t) e most=(vz b p e.n e.m most).1:=by rw[aF,if_neg k1,if_neg k2,if_neg k3,if_neg k4,if_neg k6,if_neg k7,if_pos hc,Ta hv hp]
  rw[ec]
  simp only[dW]
  subst hl
  refine aa (aa (aa ?_))
  refine dr ho (fun Hf lf hf=>OM hf hB hv hp e.n e.m most) ?_
  rintro _ H2 _ ⟨⟨w2,rfl,h2⟩,rfl⟩ l2
  refine⟨al w2 (vz b p e.n e.m most).1++[iV (vz b p e.n e.m most).2],rfl,ax (am (h2.r [])) ⟨rfl,trivial⟩,af fun r=>?_⟩
  refine aa (aa (aa (aa ?_)))
  exact ah ⟨⟨w2,rfl,h2⟩,rfl⟩
 have k10:e.code ≠ 10:=by simpa using h
 refine ab _ (ay _ _) (ai (fun h=>?_) (fun h=>?_))
 ·have hc:e.code=12:=by simpa using h
  have ec:aF cs b p who (idE src e t) e most=aV b 1 (ep (ao b 1) e.colour e.n):=by rw[aF,if_neg k1,if_neg k2,if_neg k3,if_neg k4,if_neg k6,if_neg k7,if_neg k10,if_pos hc,hw]
  rw[ec]
  subst hl
  refine aa (aa ?_)
  obtain hc | hc | hc | hc:e.colour=0∨e.colour=1∨e.colour=2∨e.colour=3:=by omega
  ·refine⟨.i64,e.colour,rfl,fun _=>?_,fun h=>absurd hc h⟩
   simp only[bm]
   refine aa (aa ?_)
   have hpl:=(dM hv 1).1
   have hpr:=(je hv 1).1
   refine ab _ (QR hpl nsm) ?_
   refine ab _ (gW _ _) ?_
   refine⟨.i64,e.colour,rfl,fun _=>?_,fun h=>absurd hc h⟩
   refine aa (aa (aa (aa ?_)))
   have ex:ep (ao b 1) e.colour e.n={ ao b 1 with p0:=min 99 ((ao b 1).p0 + e.n) }:=by
    rw[ep,if_pos hc,bp,show max 0 (min ((ao b 1).p0 + e.n) 99)=min 99 ((ao b 1).p0 + e.n) by omega]
   rw[ex]
   exact eZ (x:=aV b 1 { ao b 1 with p0:=min 99 ((ao b 1).p0 + e.n) }) (ck ho rfl rfl rfl rfl)
  ·refine⟨.i64,e.colour,rfl,fun h=>absurd (hc.symm.trans h) (by omega),fun _=>⟨.i64,e.colour,rfl,fun _=>?_,fun h=>absurd hc h⟩⟩
   simp only[bm]
   refine aa (aa ?_)
   have hpl:=(dM hv 1).2.1
   have hpr:=(je hv 1).2.1
   refine ab _ (QR hpl nsm) ?_
   refine ab _ (gW _ _) ?_
   refine⟨.i64,e.colour,rfl,fun h=>absurd (hc.symm.trans h) (by omega),fun _=>⟨.i64,e.colour,rfl,fun _=>?_,fun h=>absurd hc h⟩⟩
   refine aa (aa (aa (aa ?_)))
   have ex:ep (ao b 1) e.colour e.n={ ao b 1 with p1:=min 99 ((ao b 1).p1 + e.n) }:=by
    rw[ep,if_neg (by omega),if_pos hc,bp,show max 0 (min ((ao b 1).p1 + e.n) 99)=min 99 ((ao b 1).p1 + e.n) by omega]
   rw[ex]
   exact eZ (x:=aV b 1 { ao b 1 with p1:=min 99 ((ao b 1).p1 + e.n) }) (ck ho rfl rfl rfl rfl)
  ·refine⟨.i64,e.colour,rfl,fun h=>absurd (hc.symm.trans h) (by omega),fun _=>⟨.i64,e.colour,rfl,fun h=>absurd (hc.symm.trans h) (by omega),fun _=>⟨.i64,e.colour,rfl,fun _=>?_,fun h=>absurd hc h⟩⟩⟩
   simp only[bm]
   refine aa (aa ?_)
   have hpl:=(dM hv 1).2.2.1
   have hpr:=(je hv 1).2.2.1
   refine ab _ (QR hpl nsm) ?_
   refine ab _ (gW _ _) ?_
   refine⟨.i64,e.colour,rfl,fun h=>absurd (hc.symm.trans h) (by omega),fun _=>⟨.i64,e.colour,rfl,fun h=>absurd (hc.symm.trans h) (by omega),fun _=>⟨.i64,e.colour,rfl,fun _=>?_,fun h=>absurd hc h⟩⟩⟩
   refine aa (aa (aa (aa ?_)))
   have ex:ep (ao b 1) e.colour e.n={ ao b 1 with p2:=min 99 ((ao b 1).p2 + e.n) }:=by
    rw[ep,if_neg (by omega),if_neg (by omega),if_pos hc,bp,show max 0 (min ((ao b 1).p2 + e.n) 99)=min 99 ((ao b 1).p2 + e.n) by omega]
   rw[ex]
   exact eZ (x:=aV b 1 { ao b 1 with p2:=min 99 ((ao b 1).p2 + e.n) }) (ck ho rfl rfl rfl rfl)
  ·refine⟨.i64,e.colour,rfl,fun h=>absurd (hc.symm.trans h) (by omega),fun _=>⟨.i64,e.colour,rfl,fun h=>absurd (hc.symm.trans h) (by omega),fun _=>⟨.i64,e.colour,rfl,fun h=>absurd (hc.symm.trans h) (by omega),fun _=>⟨.i64,e.colour,rfl,fun _=>?_,fun h=>absurd hc h⟩⟩⟩⟩
   simp only[bm]
   refine aa (aa ?_)
   have hpl:=(dM hv 1).2.2.2
   have hpr:=(je hv 1).2.2.2
   refine ab _ (QR hpl nsm) ?_
   refine ab _ (gW _ _) ?_
   refine⟨.i64,e.colour,rfl,fun h=>absurd (hc.symm.trans h) (by omega),fun _=>⟨.i64,e.colour,rfl,fun h=>absurd (hc.symm.trans h) (by omega),fun _=>⟨.i64,e.colour,rfl,fun h=>absurd (hc.symm.trans h) (by omega),fun _=>⟨.i64,e.colour,rfl,fun _=>?_,fun h=>absurd hc h⟩⟩⟩⟩
   refine aa (aa (aa (aa ?_)))
   have ex:ep (ao b 1) e.colour e.n={ ao b 1 with p3:=min 99 ((ao b 1).p3 + e.n) }:=by
    rw[ep,if_neg (by omega),if_neg (by omega),if_neg (by omega),bp,show max 0 (min ((ao b 1).p3 + e.n) 99)=min 99 ((ao b 1).p3 + e.n) by omega]
   rw[ex]
   exact eZ (x:=aV b 1 { ao b 1 with p3:=min 99 ((ao b 1).p3 + e.n) }) (ck ho rfl rfl rfl rfl)
 have k12:e.code ≠ 12:=by simpa using h
 exfalso
 omega
end
theorem La {H:Heap} {cv:Value} {cs:List CdX} (hk:CardsX H cv cs) (hli:dh (cs.map CdX.base)=true) {v:cn} {b:Bd} (h:BdS H v b) (hv:an b=true) (hB:bdB b) (hfit:Jh b) (hsum:∀ q,(ao b q).lib.length + (ao b q).hand.length≤1000000) {p src most:Int} (hp:p=0∨p=1) (hs:i64 src) {e:Eff} {t:Tg} (hev:rF e=true) :
  Triple PP lG [cv,.agg (al v b).toArray,iV p,iV src,.agg e.row.toArray,.agg t.row.toArray,iV most] H [] (S8 (rx cs b p src e t most)):=by
 refine qW (vs:=cv::(al v b++(iV p::iV src::(e.row++(t.row++[iV most]))))) (by kernel_rfl) ⟨hk.one,ax (am (h.r [])) ⟨rfl,rfl,ax (kU e) (ax (sZ t) ⟨rfl,trivial⟩)⟩⟩ ?_
 simp only[lp]
 refine af fun r0=>af fun r1=>af fun r2=>af fun r3=>?_
 have h200:=oO hv
 refine aa ?_
 refine ar (EW h hB) ?_
 rintro _ H1 O1 ⟨w,rfl,ho⟩ l1
 refine⟨al w b,rfl,aZ H1 ho,?_⟩
 rw[List.append_nil]
 have hk:=hk.le l1
 have core:∀ {r0 r1 r2 r3:Nat} {H':Heap},Heap.le H1 H'→¬ TR cs b p e t→(dX r0 (cv::(al v b++(iV p::iV src::(e.row++(t.row++[iV most]))))) (al w b) r1 r2 r3).den PP (S8 (rx cs b p src e t most)) H' O1:=by
  intro r0 r1 r2 r3 H' hle hb
  obtain⟨f1,f2,f3⟩:=Dz hp hs hev hb
  rw[rx,if_neg hb]
  simp only[dX]
  refine aa ?_
  refine aj (HV (hk.le hle) (ho.r (fun p hp=>hp) H') hv src) rfl ⟨rfl,trivial⟩ fun H2 l2=>?_
  refine aa ?_
  refine ab _ (aY _ _) (ai (fun h0=>?_) (fun h0=>?_))
  ·have h0:e.target ≠ 0:=by simpa using h0
   refine aa (aa (aa ?_))
   refine aj (HV (hk.le (Heap.le_trans hle l2)) (ho.r (fun p hp=>hp) H2) hv t.id) rfl ⟨rfl,trivial⟩ fun H3 l3=>?_
   rcases f1 with f1 | f1
   ·exact HT hv hB hev hb hsum ho rfl f1 rfl (by rw[EA,if_neg h0];rfl) (by rw[idE,if_neg h0])
   ·exact HQ hv hB hev hb hsum ho rfl f1 rfl (by rw[EA,if_neg h0];rfl) (by rw[idE,if_neg h0])
  ·have h0:e.target=0:=by simpa using h0
   rcases f1 with f1 | f1
   ·exact HT hv hB hev hb hsum ho rfl f1 rfl (by rw[EA,if_pos h0];rfl) (by rw[idE,if_pos h0])
   ·exact HQ hv hB hev hb hsum ho rfl f1 rfl (by rw[EA,if_pos h0];rfl) (by rw[idE,if_pos h0])
 refine aa (aa ?_)
 refine ab _ (aY _ _) (ai (fun h0=>?_) (fun h0=>?_))
 ·have h0:e.target ≠ 0:=by simpa using h0
  refine aa (aa (aa ?_))
  refine aj (OwnB.thaw ho fun Hf lf hf=>Up (hk.le lf).base hli hf hB hfit (by omega) p e.target t) rfl ⟨rfl,trivial⟩ fun H2 l2=>?_
  refine ab _ (aJ _) (ai (fun hg=>?_) (fun hg=>?_))
  ·have hg:ug (cs.map CdX.base) b p e.target t=false:=u6 hg
   rw[rx,if_pos ⟨h0,hg⟩]
   refine aa (aa (aa ?_))
   exact eZ ho
  have hg:ug (cs.map CdX.base) b p e.target t=true:=sR hg
  exact core l2 (fun hb=>by rw[hb.2] at hg;cases hg)
 ·have h0:e.target=0:=by simpa using h0
  exact core (Heap.le_refl _) (fun hb=>hb.1 h0)
def W3 (x:Bd) (r:Value) (H':Heap) (O':Own):Prop:=(∃ w,r=.tuple #[.agg (al w x).toArray,.bool true]∧BdS H' w x)∧O'=[]
def csP:List CdX:=[⟨2,[],[]⟩]
def ex0:Bd:=UF 20 [0,0] [0]
def ex1:Bd:=(cX ex0 1 2).1
def ex2:Bd:=(cX ex1 2 1).1
def exB:Bd:=(cX ex2 3 2).1
theorem PK (H:Heap):Triple PP oJ [] H [] fun r H' O'=>CardsX H' r csP∧O'=[]:=by
 refine tH (vs:=[]) (by kernel_rfl) trivial ?_
 simp only[ot]
 refine af fun r0=>?_
 refine OG fun H' l hf=>⟨?_,rfl⟩
 refine⟨_,Sl.block1 (hf _ List.mem_cons_self) rfl ⟨rfl,rfl,rfl,rfl,rfl,rfl,rfl,rfl,rfl,rfl,rfl,rfl,rfl,rfl,trivial⟩,rfl,fun i r c a b=>?_⟩
 cases i with
 | succ i=>simp[csP] at b
 | zero =>
  simp only[csP,List.getElem?_cons_zero,Option.some.injEq] at a b
  subst a;subst b
  exact⟨rfl,Sl.nil _ _,[],Sl.nil _ _,rfl,fun i r l a=>by simp at a⟩
theorem qy (H:Heap):Triple PP kH [] H [] (S8 exB):=by
 refine qh (vs:=[]) (by kernel_rfl) trivial ?_
 simp only[kq]
 refine af fun r0=>af fun r1=>af fun r2=>?_
 refine U1 (B:=[]) UW fun Hf lf hf _=>⟨_,WM 20 (a:=[0,0]) (c:=[0]) (Sl.block (cs:=[iV 0,iV 0]) (hf _ List.mem_cons_self) ⟨rfl,rfl,trivial⟩ rfl (by omega)) (Sl.block (cs:=[iV 0]) (hf _ (List.mem_cons_of_mem _ List.mem_cons_self)) ⟨rfl,trivial⟩ rfl (by omega)) (by simp) (by simp),?_⟩
 rintro _ H2 _ ⟨rfl,w,rfl,hb⟩ l2
 have enew:Tt 20 [0,0] [0]=(ex0,0):=by kernel_rfl
 rw[enew] at hb ⊢
 have hb:BdS H2 w ex0:=hb
 refine⟨al w ex0++[iV 0],rfl,ax (am (hb.r [])) ⟨rfl,trivial⟩,?_⟩
 refine af fun r3=>?_
 refine aa (aa ?_)
 refine ar (tU (o:=⟨1,0,0,0,0,0,0,0,0,false,false,false⟩) (k:=0) hb (by kernel_rfl) (Gi (by kernel_rfl)) (by kernel_rfl) 2 (by omega)) ?_
 rintro _ H3 _ ⟨⟨w3,rfl,hb3⟩,rfl⟩ l3
 have hb3:BdS H3 w3 ex1:=hb3
 refine⟨al w3 ex1,rfl,am (hb3.r []),?_⟩
 refine ar (tU (o:=⟨2,0,0,0,0,0,0,0,0,false,false,false⟩) (k:=1) hb3 (by kernel_rfl) (Gi (by kernel_rfl)) (by kernel_rfl) 1 (by omega)) ?_
 rintro _ H4 _ ⟨⟨w4,rfl,hb4⟩,rfl⟩ l4
 have hb4:BdS H4 w4 ex2:=hb4
 refine⟨al w4 ex2,rfl,am (hb4.r []),?_⟩
 refine ar (tU (o:=⟨3,0,1,0,0,0,0,0,0,false,false,false⟩) (k:=2) hb4 (by kernel_rfl) (Gi (by kernel_rfl)) (by kernel_rfl) 2 (by omega)) ?_
 rintro _ H5 _ ⟨⟨w5,rfl,hb5⟩,rfl⟩ l5
 have hb5:BdS H5 w5 exB:=hb5
 refine⟨al w5 exB,rfl,am (hb5.r []),?_⟩
 refine aa (aa ?_)
 exact ah ⟨⟨w5,rfl,hb5⟩,rfl⟩
theorem UY:bdB exB:=Gi (by kernel_rfl)
theorem rp {H:Heap} (hgl:GlobOk zC H) (p:Int) {src:Int} (e:Eff) (t:Tg) (most:Int) (hs:i64 src) {x:Bd} (hx:cA csP exB p src e t most=(x,0)) (h3:decide ((x.objs.length:Int) ≥ 3)=true) :
  Triple PP mT [iV p,iV src,.agg e.row.toArray,.agg t.row.toArray,iV most] H [] (W3 x):=by
 refine sO (vs:=iV p::iV src::(e.row++(t.row++[iV most]))) (by kernel_rfl) ⟨rfl,rfl,ax (kU e) (ax (sZ t) ⟨rfl,trivial⟩)⟩ ?_
 simp only[mr]
 refine af fun r0=>af fun r1=>af fun r2=>?_
 refine aa (aa ?_)
 refine ar (PK H) ?_
 rintro cv H1 _ ⟨hk,rfl⟩ l1
 refine⟨[cv],rfl,⟨hk.one,trivial⟩,?_⟩
 refine ar (qy H1) ?_
 rintro _ H2 _ ⟨⟨w2,rfl,h2⟩,rfl⟩ l2
 refine⟨al w2 exB,rfl,am (h2.r []),?_⟩
 refine ar (Triple.frozen2 (LS (hgl.le (Heap.le_trans l1 l2)) (hk.le l2) (by kernel_rfl) h2 UY p most hs e t)) ?_
 rw[hx]
 rintro _ H3 _ ⟨⟨w3,rfl,h3'⟩,rfl⟩ l3
 have h3':BdS H3 w3 x:=h3'
 refine⟨al w3 x++[iV 0],rfl,ax (am (h3'.r [])) ⟨rfl,trivial⟩,af fun r3=>?_⟩
 have olen:ak .len [w3.o]=some (iV x.objs.length):=by have:=h3'.objs.len;rwa [List.length_map] at this
 refine aa (aa ?_)
 refine ab _ (ay _ _) ?_
 refine aa (ae (ae ?_))
 refine ab _ olen ?_
 refine ae ?_
 refine ab _ (cI _ _) ?_
 rw[h3]
 refine ae ?_
 refine ab _ (aT _ _) ?_
 refine aa (aa ?_)
 exact ah ⟨⟨w3,rfl,h3'⟩,rfl⟩
theorem Q9 {H:Heap} {cv:Value} {cs:List CdX} (hk:CardsX H cv cs) (hli:dh (cs.map CdX.base)=true) {v:cn} {b:Bd} (h:BdS H v b) (hv:an b=true) (hB:bdB b) (hst:b.stack=[]) (most:Int) :
  Triple PP rO [cv,.agg (al v b).toArray,iV most] H [] fun r _ O'=>r=.tuple #[.agg (al vH zBd).toArray,.agg #[iV 0,iV 0,iV 0,iV 0,.slice none 0 0],iV 9]∧O'=[]:=by
 refine tJ (vs:=cv::(al v b++[iV most])) (by kernel_rfl) ⟨hk.one,ax (am (h.r [])) ⟨rfl,trivial⟩⟩ ?_
 simp only[rK]
 refine af fun r0=>af fun r1=>af fun r2=>?_
 refine aa ?_
 refine aj (TN hk hli h hv) rfl ⟨rfl,trivial⟩ fun H1 l1=>?_
 rw[xP hst]
 have h:=h.le l1
 refine ab _ (aY _ _) (ai (fun hd=>by cases hd) (fun _=>?_))
 refine aa ?_
 have e1:lS b=(zBd,9):=by rw[lS,if_neg (by rw[hv];simp),if_pos hst]
 refine ar (Wb h hB) ?_
 rw[e1]
 rintro _ H2 O2 ⟨w,s,A,T,rfl,hp,ho,hs⟩ l2
 refine⟨al w zBd++([iV (yZ b).player,iV (yZ b).id,iV (yZ b).card,iV (yZ b).trig,s]++[iV 9]),rfl,ax (aZ H2 ho) ⟨rfl,rfl,rfl,rfl,hs.one,rfl,trivial⟩,af fun r3=>?_⟩
 refine aa (aa ?_)
 refine ab _ (aY _ _) (ai (fun _=>?_) (fun hd=>by cases hd))
 refine aa (aa (aa (aa ?_)))
 exact kZ ⟨rfl,rfl⟩
def xA:Bd:=(cA csP exB 0 1 ⟨1,1,3,0,0⟩ ⟨3,0⟩ 9).1
def xB:Bd:=(cA csP exB 0 1 ⟨1,4,20,0,0⟩ ⟨0,1⟩ 9).1
def xC:Bd:=(cA csP exB 1 3 ⟨3,0,5,0,0⟩ ⟨0,0⟩ 9).1
def xD:Bd:=(cA csP exB 0 1 ⟨6,3,0,0,0⟩ ⟨1,0⟩ 9).1
def xE:Bd:=(cA csP exB 0 1 ⟨9,0,2,0,0⟩ ⟨0,0⟩ 9).1
def xF:Bd:=(cA csP exB 0 2 ⟨9,0,2,0,0⟩ ⟨0,0⟩ 9).1
def xG:Bd:=(cA csP exB 1 3 ⟨2,0,1,0,0⟩ ⟨0,0⟩ 9).1
def xH:Bd:=(cA csP exB 0 1 ⟨10,0,1,1,0⟩ ⟨0,0⟩ 3).1
def xI:Bd:=(cA csP exB 0 1 ⟨10,0,1,1,0⟩ ⟨0,0⟩ 4).1
theorem Xl:cA csP exB 0 1 ⟨1,1,3,0,0⟩ ⟨3,0⟩ 9=(xA,0):=Prod.ext rfl (by kernel_rfl)
theorem Xk:cA csP exB 0 1 ⟨1,4,20,0,0⟩ ⟨0,1⟩ 9=(xB,0):=Prod.ext rfl (by kernel_rfl)
theorem Xj:cA csP exB 1 3 ⟨3,0,5,0,0⟩ ⟨0,0⟩ 9=(xC,0):=Prod.ext rfl (by kernel_rfl)
theorem Xi:cA csP exB 0 1 ⟨6,3,0,0,0⟩ ⟨1,0⟩ 9=(xD,0):=Prod.ext rfl (by kernel_rfl)
theorem Xh:cA csP exB 0 1 ⟨9,0,2,0,0⟩ ⟨0,0⟩ 9=(xE,0):=Prod.ext rfl (by kernel_rfl)
theorem Xg:cA csP exB 0 2 ⟨9,0,2,0,0⟩ ⟨0,0⟩ 9=(xF,0):=Prod.ext rfl (by kernel_rfl)
theorem Xf:cA csP exB 1 3 ⟨2,0,1,0,0⟩ ⟨0,0⟩ 9=(xG,0):=Prod.ext rfl (by kernel_rfl)
theorem Xe:cA csP exB 0 1 ⟨10,0,1,1,0⟩ ⟨0,0⟩ 3=(xH,0):=Prod.ext rfl (by kernel_rfl)
theorem Xd:cA csP exB 0 1 ⟨10,0,1,1,0⟩ ⟨0,0⟩ 4=(xI,0):=Prod.ext rfl (by kernel_rfl)
theorem Wz:cA csP exB 2 1 ⟨2,0,1,0,0⟩ ⟨0,0⟩ 9=(zBd,2):=by kernel_rfl
theorem Ph {H:Heap} {w:cn} {b:Bd} (h:BdS H w b) {k:Nat} {o:Ob} (hk:b.objs[k]?=some o):∃ a,ak (.idx 12) [w.o,iV k]=some (.pointer (some a))∧∀ off m,off + m≤12→Reads H [] (aO (.pointer (some a)) off) m ((o.row.drop off).take m):=by
 obtain⟨a,k1,_,k3,_⟩:=(h.objs.rsl ([]:Own)).idx .i64 k (Ob.row o) (by rw[List.getElem?_map,hk];rfl)
 exact⟨a,k1,k3⟩
theorem JQ {H:Heap} (hgl:GlobOk zC H):Triple PP iE [] H [] fun r _ O'=>r=.bool true∧O'=[]:=by
 refine sM (vs:=[]) (by kernel_rfl) trivial ?_
 simp only[mo]
 refine af fun r0=>?_
 refine aa ?_
 refine ar (rp hgl 0 (src:=1) ⟨1,1,3,0,0⟩ ⟨3,0⟩ 9 (by constructor <;> omega) Xl (by kernel_rfl)) ?_
 rintro _ H1 _ ⟨⟨wA,rfl,hxA⟩,rfl⟩ l1
 have hxA:BdS H1 wA xA:=hxA
 have hgl:=hgl.le l1
 refine⟨al wA xA++[.bool true],rfl,ax (am (hxA.r [])) ⟨rfl,trivial⟩,?_⟩
 refine af fun r1=>?_
 refine aa ?_
 refine ab _ (aJ _) ?_
 obtain⟨a,i1,i2⟩:=Ph hxA (k:=2) (o:=(xA.objs.getD 2 zO)) (by kernel_rfl)
 refine aa (ae (ae ?_))
 refine⟨.pointer (some a),fun _=>i1,.inr rfl,?_⟩
 refine aw rfl (ae (ae ?_))
 refine⟨[iV 3],rfl,⟨rfl,trivial⟩,fun _=>i2 5 1 (by omega),?_⟩
 refine ae ?_
 refine ab _ (aY _ _) ?_
 refine ae ?_
 refine ab _ (aR _ _) (ai (fun hd=>by cases hd) (fun _=>?_))
 refine ar (rp hgl 0 (src:=1) ⟨1,4,20,0,0⟩ ⟨0,1⟩ 9 (by constructor <;> omega) Xk (by kernel_rfl)) ?_
 rintro _ H2 _ ⟨⟨wB,rfl,hxB⟩,rfl⟩ l2
 have hxB:BdS H2 wB xB:=hxB
 have hgl:=hgl.le l2
 refine⟨al wB xB++[.bool true],rfl,ax (am (hxB.r [])) ⟨rfl,trivial⟩,?_⟩
 refine aa (aa ?_)
 refine ar (rp hgl 1 (src:=3) ⟨3,0,5,0,0⟩ ⟨0,0⟩ 9 (by constructor <;> omega) Xj (by kernel_rfl)) ?_
 rintro _ H3 _ ⟨⟨wC,rfl,hxC⟩,rfl⟩ l3
 have hxC:BdS H3 wC xC:=hxC
 have hgl:=hgl.le l3
 refine⟨al wC xC++[.bool true],rfl,ax (am (hxC.r [])) ⟨rfl,trivial⟩,?_⟩
 refine af fun r2=>?_
 refine aa ?_
 refine ab _ (aJ _) ?_
 refine ae (ae (aa (ae (ae ?_))))
 refine ab _ (aY _ _) ?_
 refine ae ?_
 refine ab _ (aR _ _) ?_
 refine ae ?_
 refine ab _ (aJ _) ?_
 refine ae ?_
 refine ab _ (aR _ _) ?_
 refine ae (ae (aa (ae (ae ?_))))
 refine ab _ (aY _ _) ?_
 refine ae ?_
 refine ab _ (aR _ _) (ai (fun hd=>absurd (show ((((!true || (xB.s1.life != 0)) || !true) || (xC.s1.life != 25)))=true from hd) (by rw[show ((((!true || (xB.s1.life != 0)) || !true) || (xC.s1.life != 25)))=false from by kernel_rfl];simp)) (fun _=>?_))
 refine ar (rp hgl 0 (src:=1) ⟨6,3,0,0,0⟩ ⟨1,0⟩ 9 (by constructor <;> omega) Xi (by kernel_rfl)) ?_
 rintro _ H4 _ ⟨⟨wD,rfl,hxD⟩,rfl⟩ l4
 have hxD:BdS H4 wD xD:=hxD
 have hgl:=hgl.le l4
 refine⟨al wD xD++[.bool true],rfl,ax (am (hxD.r [])) ⟨rfl,trivial⟩,?_⟩
 refine aa (aa ?_)
 refine ar (rp hgl 0 (src:=1) ⟨9,0,2,0,0⟩ ⟨0,0⟩ 9 (by constructor <;> omega) Xh (by kernel_rfl)) ?_
 rintro _ H5 _ ⟨⟨wE,rfl,hxE⟩,rfl⟩ l5
 have hxE:BdS H5 wE xE:=hxE
 have hgl:=hgl.le l5
 refine⟨al wE xE++[.bool true],rfl,ax (am (hxE.r [])) ⟨rfl,trivial⟩,?_⟩
 have hxD:=hxD.le l5
 refine aa ?_
 refine ab _ (aJ _) (ai (fun hd=>by cases hd) (fun _=>?_))
 refine aa ?_
 refine ar (qy _) ?_
 rintro _ H6 _ ⟨⟨v1,rfl,hx6⟩,rfl⟩ l6
 have hgl:=hgl.le l6
 refine⟨al v1 exB,rfl,am (hx6.r []),?_⟩
 have hxD:=hxD.le l6
 have hxE:=hxE.le l6
 refine aj (EV (hxD.r []) (hx6.r [])) rfl ⟨rfl,trivial⟩ fun H7 l7=>?_
 rw[show (xD == exB)=true from by kernel_rfl]
 have hxE:=hxE.le l7
 have hgl:=hgl.le l7
 refine ab _ (aJ _) ?_
 refine ae ?_
 refine ab _ (aJ _) ?_
 refine ae ?_
 refine ab _ (aR _ _) ?_
 obtain⟨a2,j1,j2⟩:=Ph hxE (k:=0) (o:=(xE.objs.getD 0 zO)) (by kernel_rfl)
 refine aa (ae (ae ?_))
 refine⟨.pointer (some a2),fun _=>j1,.inr rfl,?_⟩
 refine aw rfl (ae (ae ?_))
 refine⟨[iV 2],rfl,⟨rfl,trivial⟩,fun _=>j2 6 1 (by omega),?_⟩
 refine ae ?_
 refine ab _ (aY _ _) ?_
 refine ae ?_
 refine ab _ (aR _ _) (ai (fun hd=>by cases hd) (fun _=>?_))
 refine aa ?_
 refine ar (rp hgl 0 (src:=2) ⟨9,0,2,0,0⟩ ⟨0,0⟩ 9 (by constructor <;> omega) Xg (by kernel_rfl)) ?_
 rintro _ H8 _ ⟨⟨wF,rfl,hxF⟩,rfl⟩ l8
 have hxF:BdS H8 wF xF:=hxF
 have hgl:=hgl.le l8
 refine⟨al wF xF++[.bool true],rfl,ax (am (hxF.r [])) ⟨rfl,trivial⟩,?_⟩
 refine aa (aa ?_)
 refine ar (rp hgl 1 (src:=3) ⟨2,0,1,0,0⟩ ⟨0,0⟩ 9 (by constructor <;> omega) Xf (by kernel_rfl)) ?_
 rintro _ H9 _ ⟨⟨wG,rfl,hxG⟩,rfl⟩ l9
 have hxG:BdS H9 wG xG:=hxG
 have hgl:=hgl.le l9
 refine⟨al wG xG++[.bool true],rfl,ax (am (hxG.r [])) ⟨rfl,trivial⟩,?_⟩
 have hxF:=hxF.le l9
 refine aa ?_
 refine ab _ (aJ _) (ai (fun hd=>by cases hd) (fun _=>?_))
 refine aa ?_
 refine ar (qy _) ?_
 rintro _ H10 _ ⟨⟨v2,rfl,hx10⟩,rfl⟩ l10
 have hgl:=hgl.le l10
 refine⟨al v2 exB,rfl,am (hx10.r []),?_⟩
 have hxF:=hxF.le l10
 have hxG:=hxG.le l10
 refine aj (EV (hxF.r []) (hx10.r [])) rfl ⟨rfl,trivial⟩ fun H11 l11=>?_
 rw[show (xF == exB)=true from by kernel_rfl]
 have hgl:=hgl.le l11
 refine ab _ (aJ _) ?_
 refine ae ?_
 refine ab _ (aJ _) ?_
 refine ae ?_
 refine ab _ (aR _ _) ?_
 refine ae (ae (aa (ae (ae ?_))))
 refine ab _ (aJ xG.s1.empty) ?_
 refine ae ?_
 refine ab _ (aR _ _) ?_
 refine ae (ae (aa (ae (ae ?_))))
 refine ab _ (aR _ xG.s0.empty) (ai (fun hd=>absurd (show ((((!true || !true) || !xG.s1.empty) || xG.s0.empty))=true from hd) (by rw[show ((((!true || !true) || !xG.s1.empty) || xG.s0.empty))=false from by kernel_rfl];simp)) (fun _=>?_))
 refine af fun r3=>?_
 refine aa (aa (aa ?_))
 refine ar (rp hgl 0 (src:=1) ⟨10,0,1,1,0⟩ ⟨0,0⟩ 3 (by constructor <;> omega) Xe (by kernel_rfl)) ?_
 rintro _ H12 _ ⟨⟨wH,rfl,hxH⟩,rfl⟩ l12
 have hxH:BdS H12 wH xH:=hxH
 have hgl:=hgl.le l12
 refine⟨al wH xH++[.bool true],rfl,ax (am (hxH.r [])) ⟨rfl,trivial⟩,?_⟩
 refine aa (aa (aa ?_))
 refine ar (rp hgl 0 (src:=1) ⟨10,0,1,1,0⟩ ⟨0,0⟩ 4 (by constructor <;> omega) Xd (by kernel_rfl)) ?_
 rintro _ H13 _ ⟨⟨wI,rfl,hxI⟩,rfl⟩ l13
 have hxI:BdS H13 wI xI:=hxI
 have hgl:=hgl.le l13
 refine⟨al wI xI++[.bool true],rfl,ax (am (hxI.r [])) ⟨rfl,trivial⟩,?_⟩
 have hxH:=hxH.le l13
 refine aa ?_
 refine ab _ (aJ _) (ai (fun hd=>by cases hd) (fun _=>?_))
 refine aa ?_
 refine ar (qy _) ?_
 rintro _ H14 _ ⟨⟨v3,rfl,hx14⟩,rfl⟩ l14
 have hgl:=hgl.le l14
 refine⟨al v3 exB,rfl,am (hx14.r []),?_⟩
 have hxH:=hxH.le l14
 have hxI:=hxI.le l14
 refine aj (EV (hxH.r []) (hx14.r [])) rfl ⟨rfl,trivial⟩ fun H15 l15=>?_
 rw[show (xH == exB)=true from by kernel_rfl]
 have hxI:=hxI.le l15
 have hgl:=hgl.le l15
 have olen:ak .len [wI.o]=some (iV 4):=by have:=hxI.objs.len;rw[List.length_map] at this;exact this.trans (by kernel_rfl)
 refine ab _ (aJ _) ?_
 refine ae ?_
 refine ab _ (aJ _) ?_
 refine ae ?_
 refine ab _ (aR _ _) ?_
 refine aa (ae (ae ?_))
 refine ab _ olen ?_
 refine ae ?_
 refine ab _ (aY _ _) ?_
 refine ae ?_
 refine ab _ (aR _ _) ?_
 obtain⟨a3,k1,k2⟩:=Ph hxI (k:=3) (o:=(xI.objs.getD 3 zO)) (by kernel_rfl)
 refine aa (ae (ae ?_))
 refine⟨.pointer (some a3),fun _=>k1,.inr rfl,?_⟩
 refine aw rfl (ae (ae ?_))
 refine⟨[iV 4],rfl,⟨rfl,trivial⟩,fun _=>by have:=k2 0 1 (by omega);rw[NQ] at this;exact this,?_⟩
 refine ae ?_
 refine ab _ (aY _ _) ?_
 refine ae ?_
 refine ab _ (aR _ _) ?_
 refine aa (ae (ae ?_))
 refine⟨.pointer (some a3),fun _=>k1,.inr rfl,?_⟩
 refine aw rfl (ae (ae ?_))
 refine⟨[iV (-1)],rfl,⟨rfl,trivial⟩,fun _=>k2 1 1 (by omega),?_⟩
 refine ae ?_
 refine ab _ (aY _ _) ?_
 refine ae ?_
 refine ab _ (aR _ _) (ai (fun hd=>by cases hd) (fun _=>?_))
 refine ar (PK _) ?_
 rintro cv H16 _ ⟨hk,rfl⟩ l16
 refine⟨[cv],rfl,⟨hk.one,trivial⟩,?_⟩
 have hgl:=hgl.le l16
 refine ar (qy _) ?_
 rintro _ H17 _ ⟨⟨v4,rfl,hx17⟩,rfl⟩ l17
 have hgl:=hgl.le l17
 refine⟨al v4 exB,rfl,am (hx17.r []),?_⟩
 refine ar (Q9 (hk.le l17) (by kernel_rfl) hx17 (by kernel_rfl) UY (by kernel_rfl) 9) ?_
 rintro _ H18 _ ⟨rfl,rfl⟩ l18
 have hgl:=hgl.le l18
 refine⟨al vH zBd++([iV 0,iV 0,iV 0,iV 0,.slice none 0 0]++[iV 9]),rfl,ax (am ((vk H18).r [])) ⟨rfl,rfl,rfl,rfl,rfl,rfl,trivial⟩,af fun r4=>af fun r5=>?_⟩
 refine aa (aa (aa ?_))
 refine ar (PK _) ?_
 rintro cv2 H19 _ ⟨hk2,rfl⟩ l19
 refine⟨[cv2],rfl,⟨hk2.one,trivial⟩,?_⟩
 have hgl:=hgl.le l19
 refine ar (qy _) ?_
 rintro _ H20 _ ⟨⟨v5,rfl,hx20⟩,rfl⟩ l20
 have hgl:=hgl.le l20
 refine⟨al v5 exB,rfl,am (hx20.r []),?_⟩
 refine ar (Triple.frozen2 (LS hgl (hk2.le l20) (by kernel_rfl) hx20 UY 2 (src:=1) 9 (by constructor <;> omega) ⟨2,0,1,0,0⟩ ⟨0,0⟩)) ?_
 rw[Wz]
 rintro _ H21 _ ⟨⟨w21,rfl,h21⟩,rfl⟩ l21
 have h21:BdS H21 w21 zBd:=h21
 refine⟨al w21 zBd++[iV 2],rfl,ax (am (h21.r [])) ⟨rfl,trivial⟩,af fun r6=>?_⟩
 refine aa ?_
 refine ab _ (ay _ _) ?_
 refine ae ?_
 refine ab _ (ay _ _) ?_
 refine ae ?_
 refine ab _ (aT _ _) ?_
 exact ah ⟨rfl,rfl⟩
theorem TZ (n:Nat):szB n zBd:=⟨Nat.zero_le _,⟨Nat.zero_le _,Nat.zero_le _,Nat.zero_le _,Nat.zero_le _⟩,⟨Nat.zero_le _,Nat.zero_le _,Nat.zero_le _,Nat.zero_le _⟩,⟨Nat.zero_le _,fun x hx=>by cases hx⟩,⟨Nat.zero_le _,fun x hx=>by cases hx⟩,Nat.zero_le _,Nat.zero_le _⟩
theorem y6 {n:Nat} {b:Bd} (h:szB n b) (p:Int):szS n (ao b p):=by
 rw[ao];split
 ·exact h.2.1
 ·exact h.2.2.1
theorem BR {n:Nat} {b:Bd} (h:szB n b) (p:Int) {s:St} (hs:szS n s):szB n (aV b p s):=by
 rw[aV];split
 ·exact⟨h.1,hs,h.2.2⟩
 ·exact⟨h.1,h.2.1,hs,h.2.2.2⟩
theorem Of {n:Nat} {b:Bd} (h:szB n b) {l:List Ob} (hl:l.length≤n):szB n { b with objs:=l }:=⟨hl,h.2⟩
theorem KD {n:Nat} {b:Bd} (h:szB n b) (k:Nat) (o:Ob):szB n (bT b k o):=Of h (by rw[List.length_set];exact h.1)
theorem T9 {n:Nat} {b:Bd} (h:szB n b) (p x:Int):szB n (iI b p x):=BR h p (y6 h p)
theorem Oi {n:Nat} {b:Bd} (h:szB n b) (id:Int) (f:Ob→Ob):szB n (bV b id f):=by
 rw[bV]
 split
 ·rw[Ew]
  split
  ·split
   ·exact TZ n
   split
   ·exact TZ n
   ·exact KD h _ _
  ·exact TZ n
 ·exact h
theorem T8 {n:Nat} {s:St} (h:szS n s) (c k:Int):szS n (ep s c k):=by
 rw[ep]
 split
 ·exact h
 split
 ·exact h
 split
 ·exact h
 ·exact h
theorem VC {n:Nat} {b:Bd} (h:szB n b) (p id:Int):szB (n + 1) (iz b p id):=by
 rw[iz]
 refine KD ?_ _ _
 rw[Ae]
 have h':=szB.le h (show n≤n + 1 by omega)
 refine BR h' p ?_
 obtain⟨a1,a2,a3,a4⟩:=y6 h p
 exact⟨by rw[QY,List.length_dropLast];omega,by rw[QY,List.length_append,List.length_singleton];omega,by show (ao b p).field.length≤n + 1;omega,by show (ao b p).grave.length≤n + 1;omega⟩
theorem VD {p:Int}:∀ (k:Nat) {n:Nat} {b:Bd},szB n b→szB (n + k) (cq k b p)
 | 0,_,_,h=>h
 | k + 1,n,b,h=>by
  rw[cq]
  split
  ·exact szB.le (BR h p (y6 h p)) (by omega)
  ·exact szB.le (VD (p:=p) k (VC h p _)) (by omega)
theorem Ub {n:Nat} {b:Bd} (h:szB n b) (p:Int) {k:Int} (hk:k≤99):szB (n + 99) (nU b p k).1:=by
 rw[nU]
 split
 ·exact TZ _
 ·exact szB.le (VD _ h) (by omega)
theorem Md {n:Nat} {b:Bd} (h:szB n b) (id:Int):szB (n + 1) (bB b id).1:=by
 rw[bB]
 split
 ·exact TZ _
 split
 ·exact TZ _
 ·exact uX h _ _
theorem VA {n:Nat} {b:Bd} (h:szB n b) (p pw tn most:Int):szB (n + 1) (xk b p pw tn most).1:=by
 have h':=szB.le h (show n≤n + 1 by omega)
 rw[xk]
 split
 ·exact TZ _
 split
 ·exact h'
 split
 ·exact h'
 ·show szB (n + 1) (xl b (aN b) p pw tn)
  rw[xl,ll]
  have ho:szB (n + 1) { b with objs:=b.objs.take (aN b)++[y5 ((aN b:Int) + 1) p pw tn true]++b.objs.drop (aN b) }:=Of h' (by
   have h1:=h.1
   have:(b.objs.take (aN b)).length + (b.objs.drop (aN b)).length=b.objs.length:=by rw[← List.length_append,List.take_append_drop]
   simp only[List.length_append,List.length_singleton]
   omega)
  refine BR ho p (Oe ?_ _ _)
  have hs:=y6 h p
  rw[ao] at hs ⊢
  exact hs
theorem Uc {n:Nat} {b:Bd} (h:szB n b) (cs:List CdX) (p who id:Int) {e:Eff} (hn:e.n≤99) (most:Int):szB (n + 100) (aF cs b p who id e most):=by
 have hc:=fun (i:Int) f=>szB.le (Oi h i f) (show n≤n + 100 by omega)
 have hl:=fun (q x:Int)=>szB.le (T9 h q x) (show n≤n + 100 by omega)
 rw[aF]
 split
 ·split
  ·exact hc _ _
  ·exact hl _ _
 split
 ·exact szB.le (Ub h _ hn) (by omega)
 split
 ·exact hl _ _
 split
 ·exact hl _ _
 split
 ·exact szB.le (uX h _ _) (by omega)
 split
 ·exact szB.le (Md h _) (by omega)
 split
 ·exact szB.le (VA h _ _ _ _) (by omega)
 split
 ·exact szB.le (BR h _ (T8 (y6 h _) _ _)) (by omega)
 split
 ·exact hc _ _
 ·exact szB.le h (by omega)
theorem Ua {n:Nat} {b:Bd} (h:szB n b) (cs:List CdX) (p src:Int) {e:Eff} (hn:e.n≤99) (t:Tg) (most:Int):szB (n + 100) (rx cs b p src e t most):=by
 rw[rx]
 split
 ·exact szB.le h (by omega)
 ·exact Uc h cs _ _ _ hn _
structure Ar where
 (p src:Int)
 e:Eff
 t:Tg
 which:Int
def WZ (a:Ar):List Value:=[iV a.p,iV a.src,iV a.e.code,iV a.e.target,iV a.e.n,iV a.e.m,iV a.e.colour,iV a.t.id,iV a.t.player,iV a.which]
def ArsS (H:Heap) (v:Value) (l:List Ar):Prop:=Sl H 10 v (l.map WZ)∧∀ a ∈ l,i64 a.src
theorem ArsS.le {H H':Heap} {v:Value} {l:List Ar} (h:ArsS H v l) (hl:Heap.le H H'):ArsS H' v l:=⟨h.1.le hl,h.2⟩
theorem ArsS.len {H:Heap} {v:Value} {l:List Ar} (h:ArsS H v l):ak .len [v]=some (iV l.length):=by
 have:=h.1.len;rwa [List.length_map] at this
end Go.Proofs.YtdhobpmnkfmcfaaGreatDoor
