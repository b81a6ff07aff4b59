/- Everything is in one place: the program's check. -/
import Derived.Test.YteakpllehopodaaGreatDoorSHA
import Derived.Test.YteakpllehopodaaGreatDoorM
import Derived.Test.YteakpllehopodaaGreatDoorFw3
namespace Go.Proofs.YteakpllehopodaaGreatDoor
open Go Go.Sx
set_option maxRecDepth 100000
set_option maxHeartbeats 1000000
theorem oh {P:Program} {v:Value} {H:Heap} {O X Ox:Go.Sx.Own} {Q:Value→Heap→Go.Sx.Own→Prop} (hO:O.Perm (X++Ox)) (h:Q v H Ox):(Tree.ret v []).den P Q H O:=by
 intro _
 exact⟨H,Ox,(Ghost.perm hO).trans (Ghost.sub (List.sublist_append_right X Ox)),h⟩
theorem Rq:∀ w,(zeroValue aQ).run PP w=.ok (iV 0) w:=by
 intro w
 have:(PP.info? aQ).bind (·.zero)=some (iV 0):=by kernel_rfl
 simp only[Option.bind_eq_some_iff] at this
 obtain⟨i,hi,hz⟩:=this
 simp[zeroValue,typeInfo,hi,hz]
theorem MM:PP.underlying bP=some (.map aQ aQ):=by kernel_rfl
theorem M1:PP.underlying aQ=some (.int .i64):=by kernel_rfl
theorem CM {m:EV} {mv:Value} {Om:Go.Sx.Own} (hm:OMap .i64 mv m Om) (r1:Nat) (id player:Int) (H:Heap) (h1:((bH m id).getD (iV 0)).oneCell'=true) :
  Triple PP jz [iV id,iV player,.pointer (some ⟨r1,0,none⟩)] H ((r1,.cells #[mv] bP (0,0))::Om) fun v _ O'=>v=.bool (bH m id).isNone∧∃ Om',O'=(r1,.cells #[mv] bP (0,0))::Om'∧OMap .i64 mv (vR m id (iV player)) Om':=by
 refine tC (vs:=[iV id,iV player,.pointer (some ⟨r1,0,none⟩)]) (by kernel_rfl) ⟨rfl,rfl,rfl,trivial⟩ ?_
 simp only[oy]
 have hr:∀ (H':Heap) (X:Go.Sx.Own),Reads H' ((r1,.cells #[mv] bP (0,0))::X) (.pointer (some ⟨r1,0,none⟩)) 1 [mv]:=fun H' X=>.inr ⟨⟨r1,0,none⟩,#[mv],bP,rfl,rfl,by simp,rfl,rfl⟩
 refine aA (hr _ _) rfl ⟨hm.one,trivial⟩ ?_
 refine sT MM M1 Rq hm (fun p hp=>List.mem_cons_of_mem _ hp) id h1 ?_
 refine aA (hr _ _) rfl ⟨hm.one,trivial⟩ ?_
 refine ku MM M1 hm (O2:=[(r1,.cells #[mv] bP (0,0))]) List.perm_append_comm id (iV player) ?_
 intro r Om' hm' _
 refine ab _ (aC _) ?_
 intro _
 refine⟨H,(r1,.cells #[mv] bP (0,0))::Om',Ghost.perm (show (Om'++[(r1,Obj.cells #[mv] bP (0,0))]).Perm ([(r1,Obj.cells #[mv] bP (0,0))]++Om') from List.perm_append_comm),?_,Om',rfl,hm'⟩
 cases bH m id <;> rfl
theorem NI {t ty:TypeId} {m:EV} {mv:Value} {Om O:Go.Sx.Own} {H:Heap} {K:List Value→List (List Value)→Heap→Go.Sx.Own→Prop} (hm:OMap .i64 mv m Om) (hsub:∀ p ∈ Om,p ∈ O) (hk:K [iV m.length] [] H O) (ht:(match PP.underlying t with | some (.map _ _)=>true | _=>false)=true:=by kernel_rfl) :
  dc (fun H1 O1 R=>ba PP ((PrimOp.bi .len #[t] ty).sem [mv]) H1 O1 R) false [] [] .one K H O:=by
 refine DN (v:=iV m.length) ?_ rfl ⟨rfl,trivial⟩ hk
 intro w F hmo
 obtain⟨r,es,clock,rfl,rfl,he⟩:=hm
 have hrow:=(hmo.own (r,.map es clock) (List.mem_append_left _ (hsub _ (by simp)))).1
 have hg:(getObj r).run PP w=.ok (.map es clock) w:=by simp[getObj,Sem.run,hrow]
 have hlen:es.size=m.length:=by have:=congrArg List.length he;simpa using this
 cases hu:PP.underlying t with
 | none=>rw[hu] at ht;cases ht
 | some d =>
  cases d with
  | map kt et =>
   have:(Builtin.len_ #[t] ty #[.map (some r)]).run PP w=.ok (iV m.length) w:=by
    simp only[Builtin.len_]
    simp[run_underlying hu,hg,hlen,goInt]
   simp only[PrimOp.sem,builtin,Sem.run_bind]
   rw[this];rfl
  | _=>rw[hu] at ht;cases ht
theorem pf {lab key:Nat} {lv mv n0:Value} {l:List Int} {pl:Int} {r1:Nat} {H:Heap} {O Om Ox:Go.Sx.Own} {pre:List (Int × Int)} {Q:Value→Heap→Go.Sx.Own→Prop} {rest:List Value→Tree}
  {eqs:(List Value→Heap→Go.Sx.Own→Prop)→List Value→Value→List Value→List Value→List (List Value)→Value→Value→List (List Value × List Value)}
  (hl:RSl H Ox 1 lv (aJ l)) (hn:n0=iV l.length) (hm:OMap .i64 mv (gu pre) Om) (hO:O.Perm (Om++Ox)) (hnd:(pre.map (·.1)).Nodup)
  (heq:∀ C a b c d e f g,Eqs (eqs C a b c d e f g))
  (bad:∀ H',Heap.le H H'→¬ ((pre++l.map fun i=>(i,pl)).map (·.1)).Nodup→Q (.bool false) H' Ox)
  (good:∀ H' O' Om',Heap.le H H'→((pre++l.map fun i=>(i,pl)).map (·.1)).Nodup→OMap .i64 mv (gu (pre++l.map fun i=>(i,pl))) Om'→O'.Perm (Om'++Ox)→(rest [iV l.length,mv]).den PP Q H' O') :
  (Tree.loop lab key [iV 0,mv] fun C l3 =>
   .pure [] (.bin .lss .int) [(g l3 0),n0] fun v4 =>
   .br v4 (
    .pure [] (.idx 1) [lv,(g l3 0)] fun v5 =>
    .load [] v5 1 fun l6 =>
    .call false jz [(g l6 0),iV pl,(.pointer (some ⟨r1,0,none⟩))] [] [⟨r1,bP,[(g l3 1)]⟩] .one fun l7 c7 =>
    .pure [] .not [(g l7 0)] fun v8 =>
    .br v8 (
     .ret (.bool false) []) (
     .pure [] (.bin .add .int) [(g l3 0),iV 1] fun v9 =>
     .cont lab C [v9,(g (c7.getD 0 []) 0)] (eqs C l3 v5 l6 l7 c7 v8 v9))) (rest l3)).den PP Q H O:=by
 subst hn
 refine qP l.length (fun i xs H' O'=>xs=[mv]∧Heap.le H H'∧∃ Om',O'.Perm (Om'++Ox)∧OMap .i64 mv (gu (pre++(l.take i).map fun i=>(i,pl))) Om'∧((pre++(l.take i).map fun i=>(i,pl)).map (·.1)).Nodup)
  ⟨rfl,Heap.le_refl H,Om,hO,by simpa using hm,by simpa using hnd⟩ ?_
 rintro i xs H' O' hi - - - ⟨rfl,hle,Om',hO',hm',hnd'⟩
 refine ab _ (aG _ _) (aj (fun hb=>?_) (fun hb=>?_))
 ·have hlt:i < l.length:=by simpa using hb
  obtain⟨a,h1,h2,_,h3,h4⟩:=((hl.le hle).own (fun p hp=>hO'.mem_iff.2 (List.mem_append_right Om' hp))).idx .i64 i [iV l[i]] (by simp[aJ,hlt])
  refine ab _ h1 (aA h2 h3 h4 ?_)
  have hone:((bH (gu (pre++(l.take i).map fun i=>(i,pl))) l[i]).getD (iV 0)).oneCell'=true:=by
   rw[dw];cases dQ (pre++(l.take i).map fun i=>(i,pl)) l[i] <;> rfl
  have hc:=CM hm' r1 l[i] pl H' hone
  intro _
  refine⟨H',Om',Ox,_,Ghost.perm hO',hc,?_⟩
  rintro v H2 O2 ⟨rfl,Om2,rfl,hm2⟩ hle2
  refine⟨[_],[[mv]],Om2,rfl,⟨rfl,trivial⟩,⟨rfl,⟨hm2.one,trivial⟩,trivial⟩,rfl,?_⟩
  refine ab _ (aC _) (aj (fun hb=>?_) (fun hb=>?_))
  ·have hin:l[i] ∈ (pre++(l.take i).map fun i=>(i,pl)).map (·.1):=by
    rw[dw] at hb
    simp only[Bool.not_eq_true',Option.isNone_map] at hb
    rcases Classical.em (l[i] ∈ (pre++(l.take i).map fun i=>(i,pl)).map (·.1)) with h | h
    ·exact h
    ·rw[gZ.2 h] at hb;cases hb
   refine oh (List.Perm.refl _) (bad H2 (Heap.le_trans hle hle2) ?_)
   intro hnd2
   have e:pre++l.map (fun i=>(i,pl))=(pre++(l.take i).map fun i=>(i,pl))++((l[i],pl)::(l.drop (i + 1)).map fun i=>(i,pl)):=by
    rw[List.append_assoc,← List.map_cons (f:=fun i=>(i,pl)),← List.drop_eq_getElem_cons hlt,← List.map_append,List.take_append_drop]
   rw[e,List.map_append,List.map_cons] at hnd2
   exact (List.nodup_append.1 hnd2).2.2 _ hin _ (List.mem_cons_self) rfl
  ·have hnin:l[i] ∉ (pre++(l.take i).map fun i=>(i,pl)).map (·.1):=by
    rw[dw] at hb
    simp only[Bool.not_eq_false',Option.isNone_map,Option.isNone_iff_eq_none] at hb
    exact gZ.1 hb
   have e:pre++(l.take (i + 1)).map (fun i=>(i,pl))=(pre++(l.take i).map fun i=>(i,pl))++[(l[i],pl)]:=by
    rw[List.take_add_one,List.getElem?_eq_getElem hlt,List.map_append,List.append_assoc];rfl
   refine ab _ (aD (by have:=hl.lenB;simp[aJ] at this;omega)) (kq (heq _ _ _ _ _ _ _ _) hlt ⟨rfl,Heap.le_trans hle hle2,Om2,List.Perm.refl _,?_,?_⟩)
   ·rw[e,← Dm hnin];exact hm2
   ·rw[e,List.map_append,List.nodup_append]
    refine⟨hnd',by simp,?_⟩
    intro x hx y hy
    simp only[List.map_cons,List.map_nil,List.mem_singleton] at hy
    subst hy
    rintro rfl
    exact hnin hx
 ·have hie:i=l.length:=by have:¬ ((i:Int) < (l.length:Int)):=(by simpa using hb);omega
  subst hie
  rw[List.take_length] at hm' hnd'
  exact good H' O' Om' hle hnd' hm' hO'
theorem EF (r:Nat) (o:Nat) (H:Heap) (O:Go.Sx.Own):RetO PP uM [.pointer (some ⟨r,o,none⟩)] H O (.agg #[.pointer (some ⟨r,o + 5,none⟩),.pointer (some ⟨r,o + 6,none⟩),.pointer (some ⟨r,o + 7,none⟩),.pointer (some ⟨r,o + 8,none⟩)]):=by
 refine yR (vs:=[.pointer (some ⟨r,o,none⟩)]) (by kernel_rfl) ⟨rfl,trivial⟩ ?_
 simp only[uz]
 refine ah fun r0=>ak rfl (ak rfl (ak rfl (ak rfl (ak rfl (ak rfl (ak rfl (ak rfl (ae (ae (af ⟨?_,rfl⟩))))))))))
 simp only[g,List.getD_eq_getElem?_getD,List.getElem?_cons_zero,Option.getD_some,an,bK]
theorem Qr {H:Heap} {O:Go.Sx.Own} {v:cI} {b:Bd} (h:BdR H O v b):RetO PP sd [.agg (ao v b).toArray] H O (.bool (cq bF b)):=by
 refine xT (vs:=ao v b) (by kernel_rfl) (ap h) ?_
 simp only[rH]
 have len1:∀ {H':Heap} {O':Go.Sx.Own} {w:Value} {l:List Int},RSl H' O' 1 w (aJ l)→al .len [w]=some (iV l.length):=fun h=>by have:=h.len;rwa [aJ,List.length_map] at this
 have failB:∀ {l:List (Int × Int)},(∃ r,aM b=l++r)→¬ (l.map (·.1)).Nodup→(Value.bool false:Value)=.bool (cq bF b):=by
  rintro l ⟨r,hr⟩ hn
  have:¬ ((aM b).map (·.1)).Nodup:=by
   rw[hr,List.map_append]
   exact fun h=>hn (List.nodup_append.1 h).1
  simp only[cq,this,decide_false,Bool.false_and]
 refine ah fun r0=>zZ (kd:=.i64) fun mv O1 hm=>ah fun r1=>ae (am (EF r0 1 H _) rfl ⟨rfl,rfl,rfl,rfl,trivial⟩ fun H1 l1=>?_)
 refine ai (ai (ai (ai (ae (ab _ (len1 h.s0.lib) ?_)))))
 replace h:=h.le l1
 refine pf (mv:=mv) (pre:=[]) (Ox:=O) h.s0.lib rfl hm (List.Perm.refl _) (by simp) (by intros;simp[Eqs]) (fun H' _ hn=>⟨failB (l:=[]++b.s0.lib.map fun i=>(i,0)) ⟨_,by simp[aM,fw];rfl⟩ hn,rfl⟩) ?_
 intro H2 O2 Om2 l2 nd2 hm2 hO2
 replace h:=h.le l2
 refine ae (ab _ (len1 h.s0.hand) ?_)
 refine pf (mv:=mv) (pre:=[]++b.s0.lib.map fun i=>(i,0)) (Ox:=O) h.s0.hand rfl hm2 hO2 nd2 (by intros;simp[Eqs]) (fun H' _ hn=>⟨failB ⟨_,by simp[aM,fw];rfl⟩ hn,rfl⟩) ?_
 intro H3 O3 Om3 l3 nd3 hm3 hO3
 replace h:=h.le l3
 refine ae (ab _ (len1 h.s0.field) ?_)
 refine pf (mv:=mv) (Ox:=O) h.s0.field rfl hm3 hO3 nd3 (by intros;simp[Eqs]) (fun H' _ hn=>⟨failB ⟨_,by simp[aM,fw];rfl⟩ hn,rfl⟩) ?_
 intro H4 O4 Om4 l4 nd4 hm4 hO4
 replace h:=h.le l4
 refine ae (ab _ (len1 h.s0.grave) ?_)
 refine pf (mv:=mv) (Ox:=O) h.s0.grave rfl hm4 hO4 nd4 (by intros;simp[Eqs]) (fun H' _ hn=>⟨failB ⟨_,by simp[aM,fw];rfl⟩ hn,rfl⟩) ?_
 intro H5 O5 Om5 l5 nd5 hm5 hO5
 replace h:=h.le l5
 refine am (EF r0 15 H5 _) rfl ⟨rfl,rfl,rfl,rfl,trivial⟩ fun H6 l6=>?_
 replace h:=h.le l6
 refine ai (ai (ai (ai (ae (ab _ (len1 h.s1.lib) ?_)))))
 refine pf (mv:=mv) (Ox:=O) h.s1.lib rfl hm5 hO5 nd5 (by intros;simp[Eqs]) (fun H' _ hn=>⟨failB ⟨_,by simp[aM,fw];rfl⟩ hn,rfl⟩) ?_
 intro H7 O7 Om7 l7 nd7 hm7 hO7
 replace h:=h.le l7
 refine ae (ab _ (len1 h.s1.hand) ?_)
 refine pf (mv:=mv) (Ox:=O) h.s1.hand rfl hm7 hO7 nd7 (by intros;simp[Eqs]) (fun H' _ hn=>⟨failB ⟨_,by simp[aM,fw];rfl⟩ hn,rfl⟩) ?_
 intro H8 O8 Om8 l8 nd8 hm8 hO8
 replace h:=h.le l8
 refine ae (ab _ (len1 h.s1.field) ?_)
 refine pf (mv:=mv) (Ox:=O) h.s1.field rfl hm8 hO8 nd8 (by intros;simp[Eqs]) (fun H' _ hn=>⟨failB ⟨_,by simp[aM,fw];rfl⟩ hn,rfl⟩) ?_
 intro H9 O9 Om9 l9 nd9 hm9 hO9
 replace h:=h.le l9
 refine ae (ab _ (len1 h.s1.grave) ?_)
 refine pf (mv:=mv) (Ox:=O) h.s1.grave rfl hm9 hO9 nd9 (by intros;simp[Eqs]) (fun H' _ hn=>⟨failB ⟨_,by simp[aM,fw];rfl⟩ hn,rfl⟩) ?_
 intro H10 O10 Om10 l10 nd10 hm10 hO10
 replace h:=h.le l10
 have hpre:∃ pre,pre=fw b.s0 0++fw b.s1 1:=⟨_,rfl⟩
 obtain⟨pre,hpe⟩:=hpre
 have e10:([]++b.s0.lib.map (fun i=>(i,(0:Int)))++b.s0.hand.map (fun i=>(i,0))++b.s0.field.map (fun i=>(i,0))++b.s0.grave.map (fun i=>(i,0))++b.s1.lib.map (fun i=>(i,1))++b.s1.hand.map (fun i=>(i,1))++b.s1.field.map (fun i=>(i,1))++b.s1.grave.map (fun i=>(i,1)))=pre:=by
  rw[hpe];simp[fw]
 rw[e10] at nd10 hm10
 have hpb:aM b=pre++iy b.stack:=by rw[hpe];simp[aM]
 refine zZ (kd:=.i64) fun cv Oc0 hc0=>ae (ab _ (ItsR.len h.stack) ?_)
 have stk:=h.stack
 obtain⟨rows,hrs,hrl,hit⟩:=stk
 refine qP b.stack.length (fun i xs H' O'=>xs=[mv]∧Heap.le H10 H'∧∃ Om Oc,O'.Perm (Om++(Oc++O))∧OMap .i64 mv (gu (pre++iy (b.stack.take i))) Om∧OMap .i64 cv (gu (bM (b.stack.take i))) Oc∧((pre++iy (b.stack.take i)).map (·.1)).Nodup)
  ⟨rfl,Heap.le_refl _,Om10,Oc0,?_,by simpa [iy,iO] using hm10,by simpa [bM,iO,gu] using hc0,by simpa [iy,iO] using nd10⟩ ?_
 ·exact ((hO10.append_left Oc0).trans (by rw[← List.append_assoc,← List.append_assoc];exact List.perm_append_comm.append_right O))
 rintro i xs H11 O11 hi - - - ⟨rfl,l11,Om,Oc,hO,hm,hc,hnd⟩
 refine ab _ (aG _ _) (aj (fun hb=>?_) (fun hb=>?_))
 ·have hlt:i < b.stack.length:=by simpa using hb
  have hsub:∀ p ∈ O,p ∈ O11:=fun p hp=>hO.mem_iff.2 (by simp[hp])
  obtain⟨a,h1,h2,_,h3,h4⟩:=((hrs.le l11).own hsub).idx .i64 i rows[i] (by simp[hrl,hlt])
  obtain⟨s,hrow,_⟩:=hit i rows[i] b.stack[i] (by simp[hrl,hlt]) (by simp[hlt])
  rw[hrow] at h2 h3 h4
  have etk:b.stack.take (i + 1)=b.stack.take i++[b.stack[i]]:=by rw[List.take_add_one,List.getElem?_eq_getElem hlt];rfl
  refine ab _ h1 (aA h2 h3 h4 (ah fun r2=>ae (ae (ab _ (aG _ _) (aj (fun hb=>?_) (fun hb=>?_))))))
  ·
   have htr:b.stack[i].trig < 0:=by simpa using hb
   have eow:iy (b.stack.take (i + 1))=iy (b.stack.take i)++[(b.stack[i].id,b.stack[i].player)]:=by
    rw[etk,pg,L8 htr]
   have eca:bM (b.stack.take (i + 1))=bM (b.stack.take i)++[(b.stack[i].id,b.stack[i].card)]:=by
    rw[etk,uc,KF htr]
   have hone:((bH (gu (pre++iy (b.stack.take i))) b.stack[i].id).getD (iV 0)).oneCell'=true:=by
    rw[dw];cases dQ (pre++iy (b.stack.take i)) b.stack[i].id <;> rfl
   refine ae (ae ?_)
   have hcall:=CM hm r1 b.stack[i].id b.stack[i].player H11 hone
   intro _
   refine⟨H11,Om,Oc++O,_,Ghost.perm hO,hcall,?_⟩
   rintro w H12 O12 ⟨rfl,Om2,rfl,hm2⟩ l12
   refine⟨[_],[[mv]],Om2,rfl,⟨rfl,trivial⟩,⟨rfl,⟨hm2.one,trivial⟩,trivial⟩,rfl,?_⟩
   refine ab _ (aC _) (aj (fun hb=>?_) (fun hb=>ae (ae ?_)))
   ·have hin:b.stack[i].id ∈ (pre++iy (b.stack.take i)).map (·.1):=by
     rw[dw] at hb
     simp only[Bool.not_eq_true',Option.isNone_map] at hb
     rcases Classical.em (b.stack[i].id ∈ (pre++iy (b.stack.take i)).map (·.1)) with h | h
     ·exact h
     ·rw[gZ.2 h] at hb;cases hb
    refine oh (X:=Om2++Oc) (by rw[List.append_assoc]) ⟨failB (l:=pre++iy (b.stack.take (i + 1))) ⟨iy (b.stack.drop (i + 1)),?_⟩ ?_,rfl⟩
    ·rw[hpb,List.append_assoc,← pg,List.take_append_drop]
    ·rw[eow,← List.append_assoc,List.map_append]
     intro hn
     exact (List.nodup_append.1 hn).2.2 _ hin _ (by simp) rfl
   ·have hnin:b.stack[i].id ∉ (pre++iy (b.stack.take i)).map (·.1):=by
     rw[dw] at hb
     simp only[Bool.not_eq_false',Option.isNone_map,Option.isNone_iff_eq_none] at hb
     exact gZ.1 hb
    have hninc:b.stack[i].id ∉ (bM (b.stack.take i)).map (·.1):=by
     intro hin
     refine hnin ?_
     rw[List.map_append]
     refine List.mem_append_right _ ?_
     simpa [bM,iy] using hin
    refine ku MM M1 hc (O2:=Om2++O) ?_ b.stack[i].id (iV b.stack[i].card) ?_
    ·rw[← List.append_assoc,← List.append_assoc]
     exact List.perm_append_comm.append_right O
    intro w2 Oc2 hc2 _
    refine ab _ (aD (by have:=hrs.lenB;omega)) (kq (by simp[Eqs]) hlt ⟨rfl,Heap.le_trans l11 l12,Om2,Oc2,?_,?_,?_,?_⟩)
    ·rw[← List.append_assoc,← List.append_assoc]
     exact List.perm_append_comm.append_right O
    ·rw[eow,← List.append_assoc,← Dm hnin];exact hm2
    ·rw[eca,← Dm hninc];exact hc2
    ·rw[eow,← List.append_assoc,List.map_append,List.nodup_append]
     refine⟨hnd,by simp,?_⟩
     intro x hx y hy
     simp only[List.map_cons,List.map_nil,List.mem_singleton] at hy
     subst hy
     rintro rfl
     exact hnin hx
  ·have htr:¬ b.stack[i].trig < 0:=by simpa using hb
   have eow:iy (b.stack.take (i + 1))=iy (b.stack.take i):=by
    rw[etk,pg,J3 htr,List.append_nil]
   have eca:bM (b.stack.take (i + 1))=bM (b.stack.take i):=by
    rw[etk,uc,Im htr,List.append_nil]
   refine ab _ (aD (by have:=hrs.lenB;omega)) (kq (by simp[Eqs]) hlt ⟨rfl,l11,Om,Oc,hO,?_,?_,?_⟩)
   ·rw[eow];exact hm
   ·rw[eca];exact hc
   ·rw[eow];exact hnd
 ·have hie:i=b.stack.length:=by
   have:¬ ((i:Int) < (b.stack.length:Int)):=by simpa using hb
   omega
  subst hie
  rw[List.take_length] at hm hc hnd
  rw[← hpb] at hm hnd
  replace h:=h.le l11
  have lo:=h.objs.len
  rw[List.length_map] at lo
  have hsub:∀ p ∈ O,p ∈ O11:=fun p hp=>hO.mem_iff.2 (by simp[hp])
  have hsubm:∀ p ∈ Om,p ∈ O11:=fun p hp=>hO.mem_iff.2 (by simp[hp])
  have hsubc:∀ p ∈ Oc,p ∈ O11:=fun p hp=>hO.mem_iff.2 (by simp[hp])
  have hpl:cq bF b=(mE bF (aM b) (bM b.stack) none b.objs && decide ((aM b).length=b.objs.length)):=by
   simp only[cq,hnd,decide_true,Bool.true_and]
  refine ae (ab _ lo ?_)
  refine aY b.objs.length (fun i H' O'=>O'=O11∧Heap.le H11 H'∧mE bF (aM b) (bM b.stack) none b.objs=mE bF (aM b) (bM b.stack) (tL b.objs i) (b.objs.drop i)) ⟨rfl,Heap.le_refl _,by simp[tL]⟩ ?_
  rintro i H12 O12 hi - ⟨rfl,l12,hor⟩
  refine ab _ (aG _ _) (aj (fun hb=>?_) (fun hb=>?_))
  ·have hlt:i < b.objs.length:=by simpa using hb
   obtain⟨a,h1,h2,_,h3,h4⟩:=((h.objs.le l12).own hsub).idx .i64 i (Ob.row b.objs[i]) (by simp[hlt])
   refine ab _ h1 (aA h2 h3 h4 (ah fun r3=>ae (ae (ae ?_))))
   have hone:((bH (gu (aM b)) b.objs[i].id).getD (iV 0)).oneCell'=true:=by
    rw[dw];cases dQ (aM b) b.objs[i].id <;> rfl
   have honec:((bH (gu (bM b.stack)) b.objs[i].id).getD (iV 0)).oneCell'=true:=by
    rw[dw];cases dQ (bM b.stack) b.objs[i].id <;> rfl
   refine sT MM M1 Rq hm hsubm _ hone (ae (sT MM M1 Rq hc hsubc _ honec (ae ?_)))
   have g1:(bH (gu (aM b)) b.objs[i].id).getD (iV 0)=iV ((dQ (aM b) b.objs[i].id).getD 0):=by rw[dw];cases dQ (aM b) b.objs[i].id <;> rfl
   have g2:(bH (gu (bM b.stack)) b.objs[i].id).getD (iV 0)=iV ((dQ (bM b.stack) b.objs[i].id).getD 0):=by rw[dw];cases dQ (bM b.stack) b.objs[i].id <;> rfl
   have g3:(bH (gu (aM b)) b.objs[i].id).isSome=!(dQ (aM b) b.objs[i].id).isNone:=by rw[dw];cases dQ (aM b) b.objs[i].id <;> rfl
   have g4:(bH (gu (bM b.stack)) b.objs[i].id).isSome=(dQ (bM b.stack) b.objs[i].id).isSome:=by rw[dw];cases dQ (bM b.stack) b.objs[i].id <;> rfl
   rw[g1,g2,g3,g4]
   refine am (BD b.objs[i] H12 O12) rfl ⟨rfl,trivial⟩ fun H13 l13=>?_
   have l13':=Heap.le_trans l12 l13
   have hp:∃ (pv:Value) (x:Int),pv.oneCell'=true∧(0 < i→al (.idx 12) [v.o,iV ((i:Int) - 1)]=some pv∧Gk pv=true∧Reads H13 O12 pv 1 [iV x])∧nA (tL b.objs i) b.objs[i].id=(decide ((i:Int) > 0) && decide (x ≥ b.objs[i].id)):=by
    rcases Nat.eq_zero_or_pos i with rfl | hpos
    ·exact⟨iV 0,0,rfl,fun h=>absurd h (Nat.lt_irrefl 0),by simp[tL,nA]⟩
    ·obtain⟨j,rfl⟩:∃ j,i=j + 1:=⟨i - 1,by omega⟩
     have hj:j < b.objs.length:=by omega
     obtain⟨a,k1,k2,k3,_⟩:=((h.objs.le l13').own hsub).idx .i64 j (Ob.row b.objs[j]) (by simp[hj])
     refine⟨.pointer (some a),b.objs[j].id,rfl,fun _=>⟨?_,rfl,?_⟩,?_⟩
     ·have e:((j + 1:Nat):Int) - 1=(j:Int):=by omega
      rw[e];exact k1
     ·have:=k3 0 1 (by omega)
      have e:an (.pointer (some a)) 0=.pointer (some a):=by simp[an,Addr.add]
      rwa [e] at this
     ·rw[FN hj]
      have:((j + 1:Nat):Int) > 0:=by omega
      simp only[nA,this,decide_true,Bool.true_and]
   obtain⟨pv,x,hpone,hpv,hprev⟩:=hp
   have hiB:(i:Int) + 1 < 9223372036854775808:=by have:=h.objs.lenB;simp at this;omega
   have hsub1:al (.bin .sub .int) [iV i,iV 1]=some (iV ((i:Int) - 1)):=by
    simp only[al,bA,bq,if_true]
    rw[dN (by omega) (by omega)]
   have hon:∀ {u:Bool},On [((.bool (decide ((i:Int) > 0)):Value),true),(.bool u,false)]→0 < i:=fun h=>by
    have:=h.1
    simp at this
    omega
   refine ab _ (aC _) (ai (ab _ (bG _ _) ?_))
   repeat (first | refine ae ?_ | refine ai ?_ | refine ab _ hsub1 ?_)
   refine⟨pv,fun ho=>(hpv (hon ho)).1,.inr hpone,?_⟩
   refine⟨fun ho=>(hpv (hon ho)).2.1,?_⟩
   refine ai (ai (ai (ai ?_)))
   refine⟨[iV x],rfl,⟨rfl,trivial⟩,fun ho=>(hpv (hon ho)).2.2,?_⟩
   repeat (first | refine ae ?_ | refine ai ?_ | refine ah fun _=>?_ | refine ab _ (aG _ _) ?_ | refine ab _ (bG _ _) ?_ | refine ab _ (rh _ _) ?_ | refine ab _ (eC _ _) ?_ | refine ab _ (aw _ _) ?_ | refine ab _ (fx _ _) ?_ | refine ab _ (bu _ _) ?_ | refine ab _ (aO _ _) ?_ | refine ab _ (aC _) ?_ | refine ab _ (Oh _ _) ?_ | refine ab _ (Of _ _) ?_)
   have hbad:BW (aM b) (bM b.stack) (tL b.objs i) (bF b.objs[i]) b.objs[i] =
     ((((!bF b.objs[i] || (decide ((i:Int) > 0) && decide (x ≥ b.objs[i].id))) || (dQ (aM b) b.objs[i].id).isNone) || ((dQ (aM b) b.objs[i].id).getD 0 != b.objs[i].owner)) || ((dQ (bM b.stack) b.objs[i].id).isSome && ((dQ (bM b.stack) b.objs[i].id).getD 0 != b.objs[i].card))):=by
    unfold BW;rw[hprev]
   have hstep:mE bF (aM b) (bM b.stack) (tL b.objs i) (b.objs.drop i)=(!BW (aM b) (bM b.stack) (tL b.objs i) (bF b.objs[i]) b.objs[i] && mE bF (aM b) (bM b.stack) (some b.objs[i].id) (b.objs.drop (i + 1))):=by
    rw[List.drop_eq_getElem_cons hlt,mE]
   refine aj (fun hb=>?_) (fun hb=>?_)
   ·refine oh (X:=Om++Oc) (by rw[List.append_assoc];exact hO) ⟨?_,rfl⟩
    rw[hpl,hor,hstep,hbad]
    simp only[Bool.not_not] at hb
    rw[hb];rfl
   ·refine ab _ (aD (by omega)) (aN (by simp[Eqs]) hlt ⟨rfl,l13',?_⟩)
    simp only[Bool.not_not] at hb
    rw[hor,hstep,hbad,hb,FN hlt];rfl
  ·have hie:i=b.objs.length:=by
    have:¬ ((i:Int) < (b.objs.length:Int)):=by simpa using hb
    omega
   subst hie
   rw[List.drop_length] at hor
   refine ae ?_
   refine NI hm hsubm (ae (ab _ lo (ab _ (aw _ _) (oh (X:=Om++Oc) (by rw[List.append_assoc];exact hO) ⟨?_,rfl⟩))))
   rw[hpl,hor]
   simp only[mE,Bool.true_and,gu,List.length_map]
   congr 1
   rw[Bool.eq_iff_iff]
   simp only[beq_iff_eq,decide_eq_true_eq]
   omega
theorem Lc:∀ w,(zeroValue IL).run PP w=.ok (.bool false) w:=by
 intro w
 have:(PP.info? IL).bind (·.zero)=some (.bool false):=by kernel_rfl
 simp only[Option.bind_eq_some_iff] at this
 obtain⟨i,hi,hz⟩:=this
 simp[zeroValue,typeInfo,hi,hz]
theorem Kr:PP.underlying cL=some (.map aQ IL):=by kernel_rfl
theorem Q0 (a:Int):al .neg [iV a]=some (iV (IntKind.i64.wrap (0 - a))):=rfl
theorem Cm {lab1 key1 lab2 key2:Nat} {fo ft av bv:Value} {own other att:List Int} {bl:List Bl} {H:Heap} {O:Go.Sx.Own} {Q:Value→Heap→Go.Sx.Own→Prop} {r0:Nat}
  {eqs1:List Value→Value→List (List Value × List Value)}
  {eqs2:List Value→Value→List (List Value × List Value)}
  (ho:RSl H O 1 fo (aJ own)) (ht:RSl H O 1 ft (aJ other)) (ha:RSl H O 1 av (aJ att)) (hb:RSl H O 2 bv (bl.map Bl.row)) (hpo:∀ x ∈ own,0 < x) (hpt:∀ x ∈ other,0 < x∧x≤500)
  (heq1:∀ a b,Eqs (eqs1 a b)) (heq2:∀ a b,Eqs (eqs2 a b))
  (hQ:∀ H',Heap.le H H'→Q (.bool (sP own other att bl)) H' O) :
  (Tree.prim (.makeMap cL false) [] [] [] .one fun l1 _ =>
   .chk (.eqN r0 r0)<|
   .pure [] .len [av] fun v2 =>
   .loop lab1 key1 [(.int .i64 0)] fun C23 l3 =>
    .pure [] (.bin .lss .int) [(g l3 0),v2] fun v4 =>
    .br v4 (
     .pure [] (.idx 1) [av,(g l3 0)] fun v5 =>
     .load [] v5 1 fun l6 =>
     .prim (.lookup cL false) [(g l1 0),(g l6 0)] [] [] .one fun l7 _ =>
     .br (g l7 0) (
      .ret (.bool false) []) (
      .call false bC [fo,(g l6 0)] [] [] .one fun l8 _ =>
      .pure [] .not [(g l8 0)] fun v9 =>
      .br v9 (
       .ret (.bool false) []) (
       .prim (.mapUpdate cL) [(g l1 0),(g l6 0),(.bool true)] [] [] .one fun l10 _ =>
       .pure [] (.bin .add .int) [(g l3 0),(.int .i64 1)] fun v11 =>
       .cont lab1 C23 [v11] (eqs1 l1 v2)))) (
     .chk (.eqN r0 r0)<|
     .pure [] .len [bv] fun v12 =>
     .loop lab2 key2 [(.int .i64 0)] fun C29 l13 =>
      .pure [] (.bin .lss .int) [(g l13 0),v12] fun v14 =>
      .br v14 (
       .pure [] (.idx 2) [bv,(g l13 0)] fun v15 =>
       .load [] v15 2 fun l16 =>
       .newbox fun r1 =>
       .chk (.eqN r1 r1)<|
       .chk (.eqN r1 r1)<|
       .prim (.lookup cL false) [(g l1 0),(g l16 1)] [] [] .one fun l17 _ =>
       .pure [] .not [(g l17 0)] fun v18 =>
       .br v18 (
        .ret (.bool false) []) (
        .chk (.eqN r1 r1)<|
        .pure [] .neg [(g l16 0)] fun v19 =>
        .prim (.lookup cL false) [(g l1 0),v19] [] [] .one fun l20 _ =>
        .br (g l20 0) (
         .ret (.bool false) []) (
         .chk (.eqN r0 r0)<|
         .chk (.eqN r1 r1)<|
         .call false bC [av,(g l16 1)] [] [] .one fun l21 _ =>
         .pure [] .not [(g l21 0)] fun v22 =>
         .br v22 (
          .ret (.bool false) []) (
          .chk (.eqN r1 r1)<|
          .call false bC [ft,(g l16 0)] [] [] .one fun l23 _ =>
          .pure [] .not [(g l23 0)] fun v24 =>
          .br v24 (
           .ret (.bool false) []) (
           .chk (.eqN r1 r1)<|
           .chk (.eqN r1 r1)<|
           .pure [] .neg [(g l16 0)] fun v25 =>
           .prim (.mapUpdate cL) [(g l1 0),(g l16 1),(.bool false)] [] [] .one fun l26 _ =>
           .prim (.mapUpdate cL) [(g l1 0),v25,(.bool true)] [] [] .one fun l27 _ =>
           .pure [] (.bin .add .int) [(g l13 0),(.int .i64 1)] fun v28 =>
           .cont lab2 C29 [v28] (eqs2 l1 v12)))))) (
       .ret (.bool true) []))).den PP Q H O:=by
 have la:=ha.len
 have lb:=hb.len
 rw[aJ,List.length_map] at la
 rw[List.length_map] at lb
 refine zZ (kd:=.i64) fun mv Om0 hm0=>ae (ab _ la ?_)
 refine aY att.length (fun i H' O'=>Heap.le H H'∧∃ m Om,O'.Perm (Om++O)∧OMap .i64 mv m Om∧(∀ k,(bH m k).getD (.bool false)=.bool (nv (att.take i) [] [] k))∧(att.take i).Nodup∧∀ x ∈ att.take i,x ∈ own)
  ⟨Heap.le_refl H,[],Om0,List.Perm.refl _,hm0,fun k=>by simp[bH,nv],by simp,by simp⟩ ?_
 rintro i H1 O1 hi - ⟨l1,m,Om,hO,hm,hs,hnd,hall⟩
 have hsubO:∀ p ∈ O,p ∈ O1:=fun p hp=>hO.mem_iff.2 (List.mem_append_right Om hp)
 have hsubM:∀ p ∈ Om,p ∈ O1:=fun p hp=>hO.mem_iff.2 (List.mem_append_left O hp)
 refine ab _ (aG _ _) (aj (fun hlt=>?_) (fun hge=>?_))
 ·have hlt:i < att.length:=by simpa using hlt
  obtain⟨a,h1,h2,_,h3,h4⟩:=((ha.le l1).own hsubO).idx .i64 i [iV att[i]] (by simp[aJ,hlt])
  refine ab _ h1 (aA h2 h3 h4 ?_)
  refine pV Kr M1 Lc hm hsubM att[i] (by show ((bH m att[i]).getD (.bool false)).oneCell'=true;rw[hs];rfl) ?_
  show Tree.den PP Q (.br ((bH m att[i]).getD (.bool false)) _ _) H1 O1
  rw[hs]
  have etk:att.take (i + 1)=att.take i++[att[i]]:=by rw[List.take_add_one,List.getElem?_eq_getElem hlt];rfl
  refine aj (fun hin=>?_) (fun hnin=>?_)
  ·refine oh hO ?_
   have:¬ att.Nodup:=by
    intro hn
    have hin:att[i] ∈ att.take i:=by simpa [nv] using hin
    have hn2:(att.take (i + 1)).Nodup:=hn.sublist (List.take_sublist _ _)
    rw[etk,List.nodup_append] at hn2
    exact hn2.2.2 _ hin _ (by simp) rfl
   have:=hQ H1 l1
   simpa [sP,‹¬ att.Nodup›] using this
  ·refine am (aZ ((ho.le l1).own hsubO) att[i]) rfl ⟨rfl,trivial⟩ fun H2 l2=>ab _ (aC _) (aj (fun hc=>?_) (fun hc=>?_))
   ·refine oh hO ?_
    have hf:(att.all fun x=>own.contains x)=false:=by
     rw[Bool.eq_false_iff]
     intro hh
     have:=List.all_eq_true.1 hh att[i] (List.getElem_mem hlt)
     rw[this] at hc;cases hc
    have:=hQ H2 (Heap.le_trans l1 l2)
    simpa only[sP,hf,Bool.false_and,Bool.and_false] using this
   ·refine ku Kr M1 hm hO att[i] (.bool true) ?_
    intro w Om2 hm2 _
    refine ab _ (aD (by have:=ha.lenB;simp[aJ] at this;omega)) (aN (heq1 _ _) hlt ⟨Heap.le_trans l1 l2,_,Om2,List.Perm.refl _,hm2,?_,?_,?_⟩)
    ·intro k
     rw[zn]
     by_cases hk:k=att[i]
     ·rw[if_pos hk,etk]
      have:nv (att.take i++[att[i]]) [] [] k=true:=by simp only[nv,decide_eq_true_eq,List.mem_append,List.mem_singleton];exact .inl ⟨.inr hk,by simp⟩
      rw[this];rfl
     ·rw[if_neg hk,hs,etk]
      congr 1
      simp only[nv,List.mem_append,List.mem_singleton,hk,or_false]
    ·rw[etk,List.nodup_append]
     refine⟨hnd,by simp,?_⟩
     intro x hx y hy
     simp only[List.mem_singleton] at hy
     subst hy
     rintro rfl
     simp[nv] at hnin
     exact hnin hx
    ·rw[etk]
     intro x hx
     rcases List.mem_append.1 hx with hx | hx
     ·exact hall x hx
     ·simp only[List.mem_singleton] at hx
      subst hx
      simpa using hc
 ·have hie:i=att.length:=by
   have:¬ ((i:Int) < (att.length:Int)):=by simpa using hge
   omega
  subst hie
  rw[List.take_length] at hs hnd hall
  have hfb:sP own other att bl=IF att other [] [] bl:=by
   have:(att.all fun x=>own.contains x)=true:=by
    rw[List.all_eq_true]
    intro x hx
    simpa using hall x hx
   simp only[sP,hnd,decide_true,this,Bool.true_and]
  refine ae (ab _ lb ?_)
  refine aY bl.length (fun i H' O'=>Heap.le H1 H'∧∃ m Om ua ub,O'.Perm (Om++O)∧OMap .i64 mv m Om∧(∀ k,(bH m k).getD (.bool false)=.bool (nv att ua ub k))∧(∀ x ∈ ub,0 < x)∧IF att other [] [] bl=IF att other ua ub (bl.drop i))
   ⟨Heap.le_refl H1,m,Om,[],[],hO,hm,hs,by simp,by simp⟩ ?_
  rintro i H2 O2 hi - ⟨l2,m,Om,ua,ub,hO,hm,hs,hub,hgo⟩
  have l2':=Heap.le_trans l1 l2
  have hsubO:∀ p ∈ O,p ∈ O2:=fun p hp=>hO.mem_iff.2 (List.mem_append_right Om hp)
  have hsubM:∀ p ∈ Om,p ∈ O2:=fun p hp=>hO.mem_iff.2 (List.mem_append_left O hp)
  refine ab _ (aG _ _) (aj (fun hlt=>?_) (fun hge=>?_))
  ·have hlt:i < bl.length:=by simpa using hlt
   obtain⟨a,h1,h2,_,h3,h4⟩:=((hb.le l2').own hsubO).idx .i64 i (Bl.row bl[i]) (by simp[hlt])
   rw[List.drop_eq_getElem_cons hlt,IF] at hgo
   generalize bl[i]=x at hgo h2 h3 h4
   have hone:∀ k,((bH m k).getD (.bool false)).oneCell'=true:=fun k=>by rw[hs];rfl
   have fin:∀ H',Heap.le H H'→((!ua.contains x.attacker && att.contains x.attacker && (!ub.contains x.blocker && other.contains x.blocker))=false)→Q (.bool false) H' O:=by
    intro H' hl hf
    have:=hQ H' hl
    rwa [hfb,hgo,hf,Bool.false_and] at this
   refine ab _ h1 (aA h2 h3 h4 (ah fun r1=>ae (ae ?_)))
   refine pV Kr M1 Lc hm hsubM x.attacker (hone _) ?_
   show Tree.den PP Q (.pure [] .not [(bH m x.attacker).getD (.bool false)] _) H2 O2
   rw[hs]
   refine ab _ (aC _) (aj (fun h1=>oh hO (fin H2 l2' ?_)) (fun h1=>ae (ab _ (Q0 _) ?_)))
   ·simp only[Bool.not_eq_true',nv,decide_eq_false_iff_not,not_or,not_and,Decidable.not_not] at h1
    by_cases hin:x.attacker ∈ att
    ·have:=h1.1 hin
     simp[this]
    ·simp[hin]
   refine pV Kr M1 Lc hm hsubM _ (hone _) ?_
   show Tree.den PP Q (.br ((bH m (IntKind.i64.wrap (0 - x.blocker))).getD (.bool false)) _ _) H2 O2
   rw[hs]
   refine aj (fun h2=>oh hO (fin H2 l2' ?_)) (fun h2=>ae (ae ?_))
   ·by_cases hin:x.blocker ∈ other
    ·have hr:=hpt _ hin
     rw[dN (by omega) (by omega)] at h2
     simp only[nv,decide_eq_true_eq,Int.zero_sub,Int.neg_neg] at h2
     rcases h2 with ⟨h2,_⟩ | h2
     ·have:=hpo _ (hall _ h2);omega
     ·simp[h2]
    ·simp[hin]
   refine am (aZ ((ha.le l2').own hsubO) x.attacker) rfl ⟨rfl,trivial⟩ fun H3 l3=>ab _ (aC _) (aj (fun h3=>oh hO (fin H3 (Heap.le_trans l2' l3) ?_)) (fun h3=>ae ?_))
   ·simp only[Bool.not_eq_true'] at h3
    rw[h3];simp
   refine am (aZ ((ht.le (Heap.le_trans l2' l3)).own hsubO) x.blocker) rfl ⟨rfl,trivial⟩ fun H4 l4=>ab _ (aC _) (aj (fun h4=>oh hO (fin H4 (Heap.le_trans l2' (Heap.le_trans l3 l4)) ?_)) (fun h4=>ae (ae (ab _ (Q0 _) ?_))))
   ·simp only[Bool.not_eq_true'] at h4
    rw[h4];simp
   simp only[Bool.not_eq_false'] at h1 h3 h4
   have hain:x.attacker ∈ att:=by simpa using h3
   have hbin:x.blocker ∈ other:=by simpa using h4
   have hr:=hpt _ hbin
   have hapos:=hpo _ (hall _ hain)
   rw[dN (by omega) (by omega)] at h2 ⊢
   rw[Int.zero_sub] at h2 ⊢
   refine ku Kr M1 hm hO x.attacker (.bool false) ?_
   intro w Om2 hm2 _
   refine ku Kr M1 hm2 (List.Perm.refl _) (-x.blocker) (.bool true) ?_
   intro w Om3 hm3 _
   refine ab _ (aD (by have:=hb.lenB;simp at this;omega)) (aN (heq2 _ _) hlt ⟨Heap.le_trans l2 (Heap.le_trans l3 l4),_,Om3,x.attacker::ua,x.blocker::ub,List.Perm.refl _,hm3,OQ hs hub hapos hr.1,?_,?_⟩)
   ·intro y hy
    rcases List.mem_cons.1 hy with rfl | hy
    ·exact hr.1
    ·exact hub y hy
   ·rw[hgo]
    have hua:ua.contains x.attacker=false:=by
     simp only[nv,decide_eq_true_eq] at h1
     rcases h1 with ⟨_,h1⟩ | h1
     ·simpa using h1
     ·have:=hub _ h1;omega
    have hubn:ub.contains x.blocker=false:=by
     simp only[nv,decide_eq_false_iff_not,not_or,Int.neg_neg] at h2
     simpa using h2.2
    rw[hua,h3,hubn,h4];rfl
  ·have hie:i=bl.length:=by
    have:¬ ((i:Int) < (bl.length:Int)):=by simpa using hge
    omega
   subst hie
   rw[List.drop_length] at hgo
   refine oh hO ?_
   have:=hQ H2 l2'
   rwa [hfb,hgo,IF] at this
theorem Jf {α:Type} [DecidableEq α]:∀ {l r:List α},l.Nodup→(∀ x ∈ l,x ∈ r)→l.length≤r.length
 | [],_,_,_=>Nat.zero_le _
 | a::l,r,hn,hs=>by
  rw[List.nodup_cons] at hn
  have har:a ∈ r:=hs a (by simp)
  have h1:=Jf (r:=r.erase a) hn.2 fun x hx=>by
   have:x ≠ a:=fun e=>hn.1 (e ▸ hx)
   exact (List.mem_erase_of_ne this).2 (hs x (by simp[hx]))
  rw[List.length_erase_of_mem har] at h1
  have:=List.length_pos_of_mem har
  simp only[List.length_cons];omega
theorem J6 {α:Type} [DecidableEq α] {l r:List α} (hn:l.Nodup) (hs:∀ x ∈ l,x ∈ r) (hl:r.length≤l.length):∀ x ∈ r,x ∈ l:=by
 intro x hx
 rcases Classical.em (x ∈ l) with h | h
 ·exact h
 ·have:=Jf (l:=x::l) (r:=r) (List.nodup_cons.2 ⟨h,hn⟩) (fun y hy=>by
   rcases List.mem_cons.1 hy with rfl | hy
   ·exact hx
   ·exact hs y hy)
  simp only[List.length_cons] at this;omega
theorem FT {val:Ob→Bool} {ps cs:List (Int × Int)}:∀ {l:List Ob} {prev:Option Int},mE val ps cs prev l=true →
  (∀ o ∈ l,val o=true∧(dQ ps o.id).isSome=true∧∀ p,prev=some p→p < o.id)∧(l.map (·.id)).Nodup
 | [],_,_=>⟨by simp,by simp⟩
 | o::r,prev,h=>by
  simp only[mE,BW,Bool.and_eq_true,Bool.not_eq_true',Bool.or_eq_false_iff,Bool.not_eq_false'] at h
  obtain⟨⟨⟨⟨⟨h1,h2⟩,h3⟩,_⟩,_⟩,h6⟩:=h
  obtain⟨k1,k2⟩:=FT h6
  have hp:∀ p,prev=some p→p < o.id:=by
   rintro p rfl
   simp only[nA,decide_eq_false_iff_not] at h2
   omega
  refine⟨?_,?_⟩
  ·intro x hx
   rcases List.mem_cons.1 hx with rfl | hx
   ·refine⟨h1,?_,hp⟩
    cases hl:dQ ps x.id with
    | none=>rw[hl] at h3;cases h3
    | some v=>rfl
   ·obtain⟨a1,a2,a3⟩:=k1 x hx
    exact⟨a1,a2,fun p e=>by have:=a3 _ rfl;have:=hp p e;omega⟩
  ·rw[List.map_cons,List.nodup_cons]
   refine⟨?_,k2⟩
   intro hm
   obtain⟨x,hx,e⟩:=List.mem_map.1 hm
   have:=(k1 x hx).2.2 _ rfl
   omega
theorem BQ {val:Ob→Bool} {b:Bd} (h:cq val b=true):∀ x ∈ (aM b).map (·.1),∃ o ∈ b.objs,o.id=x∧val o=true:=by
 simp only[cq,Bool.and_eq_true,decide_eq_true_eq] at h
 obtain⟨_,h2,h3⟩:=h
 obtain⟨k1,k2⟩:=FT h2
 intro x hx
 have:=J6 (l:=b.objs.map (·.id)) (r:=(aM b).map (·.1)) k2 (fun y hy=>by
  obtain⟨o,ho,rfl⟩:=List.mem_map.1 hy
  have:=(k1 o ho).2.1
  rcases Classical.em (o.id ∈ (aM b).map (·.1)) with h | h
  ·exact h
  ·rw[gZ.2 h] at this;cases this) (by simp[h3]) x hx
 obtain⟨o,ho,rfl⟩:=List.mem_map.1 this
 exact⟨o,ho,rfl,(k1 o ho).1⟩
theorem s7 {o:Ob} (h:bF o=true):1≤o.id∧o.id≤500:=by
 simp only[bF,Bool.and_eq_true,decide_eq_true_eq] at h
 exact⟨h.1.2.1.1.1.2,h.1.2.1.1.2⟩
theorem J0 {b:Bd} (h:cq bF b=true):∀ x,x ∈ b.s0.field∨x ∈ b.s1.field→0 < x∧x≤500:=by
 intro x hx
 obtain⟨o,_,rfl,ho⟩:=BQ h x (by
  simp only[aM,fw,List.map_append,List.map_map,List.mem_append,List.mem_map,Function.comp]
  rcases hx with hx | hx
  ·left;right;right;left;exact⟨x,hx,rfl⟩
  ·right;left;right;right;left;exact⟨x,hx,rfl⟩)
 have:=s7 ho
 omega
def jc (b:Bd):Bool:=if b.active=0 then sP b.s0.field b.s1.field b.att b.blocks else sP b.s1.field b.s0.field b.att b.blocks
theorem Qv {H:Heap} {O:Go.Sx.Own} {v:cI} {b:Bd} (h:BdR H O v b) (ha:b.active=0∨b.active=1) (hp:∀ x,x ∈ b.s0.field∨x ∈ b.s1.field→0 < x∧x≤500) :
  RetO PP sf [.agg (ao v b).toArray] H O (.bool (jc b)):=by
 refine xW (vs:=ao v b) (by kernel_rfl) (ap h) ?_
 simp only[rJ]
 refine ah fun r0=>ae ?_
 have e34:g (ao v b) 34=iV b.active:=rfl
 rw[e34]
 have hs:∀ n:Int,n=0∨n=1→al (.bin .sub .int) [iV 1,iV n]=some (iV (1 - n)):=by
  rintro n (rfl | rfl) <;> rfl
 rcases ha with ha | ha
 ·rw[ha]
  refine⟨.i64,0,rfl,fun _=>ae (ae (ab _ (hs 0 (.inl rfl)) ⟨.i64,1,rfl,fun e=>absurd e (by omega),fun _=>⟨.i64,1,rfl,fun _=>?_,fun e=>absurd rfl e⟩⟩)),fun e=>absurd rfl e⟩
  refine ae ?_
  refine Cm h.s0.field h.s1.field h.att h.blocks (fun x hx=>(hp x (.inl hx)).1) (fun x hx=>hp x (.inr hx)) ?_ ?_ ?_
  ·intros;simp[Eqs]
  ·intros;simp[Eqs]
  ·exact fun H' _=>⟨by simp[jc,ha],rfl⟩
 ·rw[ha]
  refine⟨.i64,1,rfl,fun e=>absurd e (by omega),fun _=>⟨.i64,1,rfl,fun _=>ae (ae (ab _ (hs 1 (.inr rfl)) ⟨.i64,0,rfl,fun _=>?_,fun e=>absurd rfl e⟩)),fun e=>absurd rfl e⟩⟩
  refine ae ?_
  refine Cm h.s1.field h.s0.field h.att h.blocks (fun x hx=>(hp x (.inr hx)).1) (fun x hx=>hp x (.inl hx)) ?_ ?_ ?_
  ·intros;simp[Eqs]
  ·intros;simp[Eqs]
  ·exact fun H' _=>⟨by simp[jc,ha],rfl⟩
theorem Br {b:Bool} (h:(!b)=true):b=false:=by simpa using h
theorem yk {b:Bool} (h:(!b)=false):b=true:=by simpa using h
def eJ (s:St):Bool:=ay s.life 0 9999 && (([s.p0,s.p1,s.p2,s.p3].all fun n=>ay n 0 99) && (ay s.mull 0 7 && ay s.acts 0 255))
def BZ (b:Bd):Bool:=((!ay b.passes 0 2 || decide ((b.objs.length:Int) > 500)) || decide ((b.stack.length:Int) > 200)) || decide ((b.queue.length:Int) > 200)
def aE (b:Bd):Bool:=ay b.active 0 1 && (ay b.turn 0 1000 && (ay b.phase 0 10 && (ay b.holder (-1) 1 && (!BZ b && (eJ b.s0 && (eJ b.s1 &&
 (!(b.stack.any fun x=>!vz x false) && (!(b.queue.any fun x=>!vz x true) && (cq bF b && jc b)))))))))
theorem bE {H:Heap} {O:Go.Sx.Own} {v:cI} {b:Bd} (h:BdR H O v b):RetO PP oc [.agg (ao v b).toArray] H O (.bool (aE b)):=by
 refine yV (vs:=ao v b) (by kernel_rfl) (ap h) ?_
 simp only[uD]
 refine ah fun r0=>?_
 refine ae (am (cd b.active 0 1 H O) rfl ⟨rfl,trivial⟩ fun H1 l1=>ab _ (aC _) (aj (fun hb=>af ⟨?_,rfl⟩) (fun hb=>?_)))
 ·have kf:ay b.active 0 1=false:=Br hb
  simp only[aE,kf,Bool.true_and,Bool.false_and,Bool.and_false]
 have k1:ay b.active 0 1=true:=yk hb
 replace h:=h.le l1
 clear hb
 refine ae (am (cd b.turn 0 1000 H1 O) rfl ⟨rfl,trivial⟩ fun H2 l2=>ab _ (aC _) (aj (fun hb=>af ⟨?_,rfl⟩) (fun hb=>?_)))
 ·have kf:ay b.turn 0 1000=false:=Br hb
  simp only[aE,k1,kf,Bool.true_and,Bool.false_and,Bool.and_false]
 have k2:ay b.turn 0 1000=true:=yk hb
 replace h:=h.le l2
 clear hb
 refine ae (am (cd b.phase 0 10 H2 O) rfl ⟨rfl,trivial⟩ fun H3 l3=>ab _ (aC _) (aj (fun hb=>af ⟨?_,rfl⟩) (fun hb=>?_)))
 ·have kf:ay b.phase 0 10=false:=Br hb
  simp only[aE,k1,k2,kf,Bool.true_and,Bool.false_and,Bool.and_false]
 have k3:ay b.phase 0 10=true:=yk hb
 replace h:=h.le l3
 clear hb
 refine ae (am (cd b.holder (-1) 1 H3 O) rfl ⟨rfl,trivial⟩ fun H4 l4=>ab _ (aC _) (aj (fun hb=>af ⟨?_,rfl⟩) (fun hb=>?_)))
 ·have kf:ay b.holder (-1) 1=false:=Br hb
  simp only[aE,k1,k2,k3,kf,Bool.true_and,Bool.false_and,Bool.and_false]
 have k4:ay b.holder (-1) 1=true:=yk hb
 replace h:=h.le l4
 clear hb
 refine ae (am (cd b.passes 0 2 H4 O) rfl ⟨rfl,trivial⟩ fun H5 l5=>ab _ (aC _) ?_)
 replace h:=h.le l5
 have lo:=h.objs.len
 rw[List.length_map] at lo
 refine ae (ai (ai ?_))
 refine ab _ (lo) (ai (ab _ (bG _ _) (ai (ab _ (aO _ _) ?_))))
 refine ae (ai (ai ?_))
 refine ab _ (ItsR.len h.stack) (ai (ab _ (bG _ _) (ai (ab _ (aO _ _) ?_))))
 refine ae (ai (ai ?_))
 refine ab _ (ItsR.len h.queue) (ai (ab _ (bG _ _) (ai (ab _ (aO _ _) ?_))))
 refine aj (fun hb=>af ⟨?_,rfl⟩) (fun hb=>?_)
 ·have kf:BZ b=true:=hb
  simp only[aE,k1,k2,k3,k4,kf,Bool.true_and,Bool.not_true,Bool.false_and]
 have kmid:BZ b=false:=hb
 clear hb
 refine ae (ah fun r1=>ae ?_)
 refine ae (am (cd b.s0.life 0 9999 H5 O) rfl ⟨rfl,trivial⟩ fun H6 l6=>ab _ (aC _) (aj (fun hb=>af ⟨?_,rfl⟩) (fun hb=>?_)))
 ·have kf:ay b.s0.life 0 9999=false:=Br hb
  simp only[aE,eJ,k1,k2,k3,k4,kmid,kf,Bool.true_and,Bool.false_and,Bool.and_false,Bool.not_false]
 have k6:ay b.s0.life 0 9999=true:=yk hb
 replace h:=h.le l6
 clear hb
 refine ae (am (wx b.s0.p0 b.s0.p1 b.s0.p2 b.s0.p3 H6 O) rfl ⟨rfl,trivial⟩ fun H7 l7=>ab _ (aC _) (aj (fun hb=>af ⟨?_,rfl⟩) (fun hb=>?_)))
 ·have kf:([b.s0.p0,b.s0.p1,b.s0.p2,b.s0.p3].all fun n=>ay n 0 99)=false:=Br hb
  simp only[aE,eJ,k1,k2,k3,k4,kmid,k6,kf,Bool.true_and,Bool.false_and,Bool.and_false,Bool.not_false]
 have k7:([b.s0.p0,b.s0.p1,b.s0.p2,b.s0.p3].all fun n=>ay n 0 99)=true:=yk hb
 replace h:=h.le l7
 clear hb
 refine ae (am (cd b.s0.mull 0 7 H7 O) rfl ⟨rfl,trivial⟩ fun H8 l8=>ab _ (aC _) (aj (fun hb=>af ⟨?_,rfl⟩) (fun hb=>?_)))
 ·have kf:ay b.s0.mull 0 7=false:=Br hb
  simp only[aE,eJ,k1,k2,k3,k4,kmid,k6,k7,kf,Bool.true_and,Bool.false_and,Bool.and_false,Bool.not_false]
 have k8:ay b.s0.mull 0 7=true:=yk hb
 replace h:=h.le l8
 clear hb
 refine ae (am (cd b.s0.acts 0 255 H8 O) rfl ⟨rfl,trivial⟩ fun H9 l9=>ab _ (aC _) (aj (fun hb=>af ⟨?_,rfl⟩) (fun hb=>?_)))
 ·have kf:ay b.s0.acts 0 255=false:=Br hb
  simp only[aE,eJ,k1,k2,k3,k4,kmid,k6,k7,k8,kf,Bool.true_and,Bool.false_and,Bool.and_false,Bool.not_false]
 have k9:ay b.s0.acts 0 255=true:=yk hb
 replace h:=h.le l9
 clear hb
 refine ah fun r2=>ae ?_
 refine ae (am (cd b.s1.life 0 9999 H9 O) rfl ⟨rfl,trivial⟩ fun H10 l10=>ab _ (aC _) (aj (fun hb=>af ⟨?_,rfl⟩) (fun hb=>?_)))
 ·have kf:ay b.s1.life 0 9999=false:=Br hb
  simp only[aE,eJ,k1,k2,k3,k4,kmid,k6,k7,k8,k9,kf,Bool.true_and,Bool.false_and,Bool.and_false,Bool.not_false]
 have k10:ay b.s1.life 0 9999=true:=yk hb
 replace h:=h.le l10
 clear hb
 refine ae (am (wx b.s1.p0 b.s1.p1 b.s1.p2 b.s1.p3 H10 O) rfl ⟨rfl,trivial⟩ fun H11 l11=>ab _ (aC _) (aj (fun hb=>af ⟨?_,rfl⟩) (fun hb=>?_)))
 ·have kf:([b.s1.p0,b.s1.p1,b.s1.p2,b.s1.p3].all fun n=>ay n 0 99)=false:=Br hb
  simp only[aE,eJ,k1,k2,k3,k4,kmid,k6,k7,k8,k9,k10,kf,Bool.true_and,Bool.false_and,Bool.and_false,Bool.not_false]
 have k11:([b.s1.p0,b.s1.p1,b.s1.p2,b.s1.p3].all fun n=>ay n 0 99)=true:=yk hb
 replace h:=h.le l11
 clear hb
 refine ae (am (cd b.s1.mull 0 7 H11 O) rfl ⟨rfl,trivial⟩ fun H12 l12=>ab _ (aC _) (aj (fun hb=>af ⟨?_,rfl⟩) (fun hb=>?_)))
 ·have kf:ay b.s1.mull 0 7=false:=Br hb
  simp only[aE,eJ,k1,k2,k3,k4,kmid,k6,k7,k8,k9,k10,k11,kf,Bool.true_and,Bool.false_and,Bool.and_false,Bool.not_false]
 have k12:ay b.s1.mull 0 7=true:=yk hb
 replace h:=h.le l12
 clear hb
 refine ae (am (cd b.s1.acts 0 255 H12 O) rfl ⟨rfl,trivial⟩ fun H13 l13=>ab _ (aC _) (aj (fun hb=>af ⟨?_,rfl⟩) (fun hb=>?_)))
 ·have kf:ay b.s1.acts 0 255=false:=Br hb
  simp only[aE,eJ,k1,k2,k3,k4,kmid,k6,k7,k8,k9,k10,k11,k12,kf,Bool.true_and,Bool.false_and,Bool.and_false,Bool.not_false]
 have k13:ay b.s1.acts 0 255=true:=yk hb
 replace h:=h.le l13
 clear hb
 refine ae (am (kz (p:=fun x=>!vz x false) h.stack rfl (dE fc (by decide)) fun H' _ row x hx=>NZ hx) rfl ⟨rfl,trivial⟩ fun H20 l20=>aj (fun hb=>af ⟨?_,rfl⟩) (fun hb=>?_))
 ·simp only[aE,eJ,k1,k2,k3,k4,kmid,k6,k7,k8,k9,k10,k11,k12,k13,hb,Bool.true_and,Bool.not_true,Bool.not_false,Bool.false_and]
 replace h:=h.le l20
 refine ae (am (kz (p:=fun x=>!vz x true) h.queue rfl (dE fc (by decide)) fun H' _ row x hx=>NY hx) rfl ⟨rfl,trivial⟩ fun H21 l21=>ab _ (aC _) (aj (fun hq=>?_) (fun hq=>af ⟨?_,rfl⟩)))
 ·replace h:=h.le l21
  simp only[Bool.not_eq_true'] at hq
  have hfin:aE b=(cq bF b && jc b):=by simp only[aE,eJ,k1,k2,k3,k4,kmid,k6,k7,k8,k9,k10,k11,k12,k13,hb,hq,Bool.true_and,Bool.not_false]
  refine ae (am (Qr h) rfl ⟨rfl,trivial⟩ fun H22 l22=>aj (fun hp=>?_) (fun hp=>af ⟨?_,rfl⟩))
  ·replace h:=h.le l22
   have ha:b.active=0∨b.active=1:=by have:=k1;simp only[ay,decide_eq_true_eq] at this;omega
   refine ae (am (Qv h ha (J0 hp)) rfl ⟨rfl,trivial⟩ fun H23 l23=>af ⟨?_,rfl⟩)
   rw[hfin,hp,Bool.true_and];rfl
  ·rw[hfin,hp];rfl
 ·simp only[Bool.not_eq_false'] at hq
  simp only[aE,eJ,k1,k2,k3,k4,kmid,k6,k7,k8,k9,k10,k11,k12,k13,hb,hq,Bool.true_and,Bool.not_false,Bool.not_true,Bool.false_and]
theorem uS (o:Ob):bF o=true ↔ ((0≤o.power∧o.power≤99)∧(0≤o.tough∧o.tough≤99)∧(0≤o.dmg∧o.dmg≤99)∧(0≤o.cnt∧o.cnt≤99)∧(0≤o.pp∧o.pp≤99)∧(0≤o.pt∧o.pt≤99)) ∧
  (o.card=-1∨(o.power=0∧o.tough=0))∧1≤o.id∧o.id≤500∧-1≤o.card∧o.card < 400∧(o.owner=0∨o.owner=1):=by
 simp only[bF,ay,List.all_cons,List.all_nil,Bool.and_true,Bool.and_eq_true,Bool.or_eq_true,decide_eq_true_eq,beq_iff_eq,ge_iff_le]
 omega
abbrev IY (n:Nat) (R:Nat→Value→Heap→Go.Sx.Own→Prop):List Value→Heap→Go.Sx.Own→Prop:=fun vs H O=>∃ (i:Nat) (x:Value),vs=[x,iV i]∧i≤n∧R i x H O
abbrev MY (n:Nat):List Value→Heap→Go.Sx.Own→Nat:=fun vs _ _=>match g vs 1 with | .int _ k=>n - k.toNat | _=>0
theorem eE {P:Program} {lab key:Nat} {x0:Value} {body:(List Value→Heap→Go.Sx.Own→Prop)→List Value→Tree} {H:Heap} {O:Go.Sx.Own} {Q:Value→Heap→Go.Sx.Own→Prop} (n:Nat) (R:Nat→Value→Heap→Go.Sx.Own→Prop)
  (h0:R 0 x0 H O) (step:∀ i x H' O',i≤n→Heap.le H H'→R i x H' O'→(body (K5 (IY n R) (MY n) (n - i)) [x,iV i]).den P Q H' O') :
  (Tree.loop lab key [x0,.int .i64 0] body).den P Q H O:=by
 refine dG (IY n R) (MY n) ⟨0,x0,rfl,Nat.zero_le _,h0⟩ ?_
 rintro vs H' O' _ _ hle ⟨i,x,rfl,hi,hr⟩
 exact step i x H' O' hi hle hr
theorem aV {P:Program} {lab n i:Nat} {R:Nat→Value→Heap→Go.Sx.Own→Prop} {x:Value} {eqs:List (List Value × List Value)} {H:Heap} {O:Go.Sx.Own} {Q:Value→Heap→Go.Sx.Own→Prop} (he:Eqs eqs) (hi:i < n) (hr:R (i + 1) x H O) :
  (Tree.cont lab (K5 (IY n R) (MY n) (n - i)) [x,iV ((i + 1:Nat):Int)] eqs).den P Q H O:=by
 refine cU he ⟨i + 1,x,rfl,hi,hr⟩ ?_
 show n - ((i + 1:Nat):Int).toNat < n - i
 simp;omega
def Bz (b:Bd) (id:Int):Int:=mJ (fun o=>o.id == id) b.objs 0
theorem zD {α:Type} (p:α→Bool):∀ (l:List α) (i:Int),0≤i→(mJ p l i=-1∧∀ x ∈ l,p x=false)∨∃ (k:Nat) (x:α),l[k]?=some x∧p x=true∧mJ p l i=i + k
 | [],i,_=>.inl ⟨rfl,by simp⟩
 | a::l,i,h=>by
  simp only[mJ]
  by_cases hp:p a=true
  ·right;exact⟨0,a,rfl,hp,by rw[if_pos hp];simp⟩
  ·rw[if_neg hp]
   rcases zD p l (i + 1) (by omega) with ⟨h1,h2⟩ | ⟨k,x,h1,h2,h3⟩
   ·left
    refine⟨h1,fun x hx=>?_⟩
    rcases List.mem_cons.1 hx with rfl | hx
    ·simpa using hp
    ·exact h2 x hx
   ·right;exact⟨k + 1,x,by simpa using h1,h2,by rw[h3];omega⟩
theorem E2 {o:Ob} (h:bF o=true):o.owner=0∨o.owner=1:=((uS o).1 h).2.2.2.2.2.2
def EY:Option Int→List Ob→Bool
 | _,[]=>true
 | prev,o::r=>!nA prev o.id && EY (some o.id) r
def ok1 (ps cs:List (Int × Int)) (o:Ob):Bool:=bF o && ((dQ ps o.id).isSome && (((dQ ps o.id).getD 0 == o.owner) && !((dQ cs o.id).isSome && ((dQ cs o.id).getD 0 != o.card))))
theorem pn {ps cs:List (Int × Int)}:∀ (l:List Ob) (prev:Option Int),mE bF ps cs prev l=(EY prev l && l.all (ok1 ps cs))
 | [],_=>rfl
 | o::r,prev=>by
  simp only[mE,BW,EY,List.all_cons,ok1,pn r (some o.id),bne]
  cases bF o <;> cases nA prev o.id <;> cases dQ ps o.id <;> cases dQ cs o.id <;> simp[Bool.and_assoc,Bool.and_comm,Bool.and_left_comm]
theorem pj:∀ {l:List Ob} {prev:Option Int},EY prev l=true→(∀ o ∈ l,∀ p,prev=some p→p < o.id)∧(l.map (·.id)).Nodup
 | [],_,_=>⟨by simp,by simp⟩
 | o::r,prev,h=>by
  simp only[EY,Bool.and_eq_true,Bool.not_eq_true'] at h
  obtain⟨k1,k2⟩:=pj h.2
  have hp:∀ p,prev=some p→p < o.id:=by
   rintro p rfl
   have:=h.1
   simp only[nA,decide_eq_false_iff_not] at this
   omega
  refine⟨fun x hx p e=>?_,?_⟩
  ·rcases List.mem_cons.1 hx with rfl | hx
   ·exact hp p e
   ·have:=k1 x hx _ rfl;have:=hp p e;omega
  ·rw[List.map_cons,List.nodup_cons]
   refine⟨fun hm=>?_,k2⟩
   obtain⟨x,hx,e⟩:=List.mem_map.1 hm
   have:=k1 x hx _ rfl
   omega
def my (o:Ob) (z:Int):Ob:={ o with dmg:=0,pp:=0,pt:=0,cnt:=0,tap:=false,doom:=false,sick:=z == 2 }
def cg (b:Bd) (p:Int):St:=if p=0 then b.s0 else b.s1
def jL (b:Bd) (p:Int) (s:St):Bd:=if p=0 then { b with s0:=s } else { b with s1:=s }
def Wl (s:St) (z id:Int):St :=
 if z=0 then { s with lib:=s.lib++[id] } else if z=1 then { s with hand:=s.hand++[id] } else if z=2 then { s with field:=s.field++[id] } else if z=3 then { s with grave:=s.grave++[id] } else s
def tp (b:Bd) (k:Nat) (o:Ob):Bd:={ b with objs:=b.objs.set k o }
def V6 (b:Bd) (p z id:Int):Bd:=jL b p (Wl (cg b p) z id)
def VC (s:St):List Int:=s.lib++(s.hand++(s.field++s.grave))
def VD (b:Bd):List Int:=VC b.s0++(VC b.s1++(iO b.stack).map (·.id))
theorem pF (b:Bd):(aM b).map (·.1)=VD b:=by
 simp[aM,fw,VD,VC,iy,Function.comp_def]
theorem kU {b:Bd} {val:Ob→Bool} (h:cq val b=true):(VD b).Nodup:=by
 simp only[cq,Bool.and_eq_true,decide_eq_true_eq] at h
 rw[← pF];exact h.1
theorem eI {b:Bd} (h:aE b=true):cq bF b=true∧jc b=true∧(b.active=0∨b.active=1)∧b.stack.all (fun x=>vz x false)=true:=by
 simp only[aE,Bool.and_eq_true,ay,decide_eq_true_eq,Bool.not_eq_true',List.any_eq_false] at h
 refine⟨h.2.2.2.2.2.2.2.2.2.1,h.2.2.2.2.2.2.2.2.2.2,by have:=h.1;omega,?_⟩
 rw[List.all_eq_true]
 intro x hx
 have:=h.2.2.2.2.2.2.2.1 x hx
 simpa using this
theorem iL {b:Bd} (h:cq bF b=true):EY none b.objs=true∧b.objs.all (ok1 (aM b) (bM b.stack))=true∧(aM b).length=b.objs.length:=by
 simp only[cq,Bool.and_eq_true,decide_eq_true_eq,pn] at h
 exact⟨h.2.1.1,h.2.1.2,h.2.2⟩
theorem Ni {α:Type} {p:α→Bool}:∀ {l:List α} {k:Nat} {x:α} (i:Int),l[k]?=some x→p x=true→(∀ (j:Nat) (y:α),j < k→l[j]?=some y→p y=false)→mJ p l i=i + k
 | [],k,x,i,h,_,_=>by simp at h
 | a::l,0,x,i,h,hp,_=>by
  simp at h;subst h
  simp[mJ,hp]
 | a::l,k + 1,x,i,h,hp,hb=>by
  have h0:=hb 0 a (by omega) rfl
  have:=Ni (i + 1) (l:=l) (k:=k) (by simpa using h) hp fun j y hj e=>hb (j + 1) y (by omega) (by simpa using e)
  simp only[mJ,h0,Bool.false_eq_true,if_false,this]
  omega
theorem Nl {b:Bd} (hn:(b.objs.map (·.id)).Nodup) {k:Nat} {o:Ob} (h:b.objs[k]?=some o):Bz b o.id=k:=by
 have:=Ni (p:=fun x:Ob=>x.id == o.id) (l:=b.objs) 0 h (by simp) fun j y hj e=>by
  have hlt:=(List.getElem?_eq_some_iff.1 h).1
  have h1:(b.objs.map (·.id))[j]?=some y.id:=by rw[List.getElem?_map,e];rfl
  have h2:(b.objs.map (·.id))[k]?=some o.id:=by rw[List.getElem?_map,h];rfl
  have hne:y.id ≠ o.id:=by
   intro e2
   rw[e2] at h1
   have:=(List.getElem?_inj (by simpa using (by omega:j < b.objs.length)) hn).1 (h1.trans h2.symm)
   omega
  simpa using hne
 rw[Bz,this];omega
theorem mF {b:Bd} (h:cq bF b=true) {k:Nat} {o:Ob} (hk:b.objs[k]?=some o):bF o=true∧(o.id,o.owner) ∈ aM b∧Bz b o.id=k∧(o.owner=0∨o.owner=1):=by
 obtain⟨h1,h2,_⟩:=iL h
 have hm:=List.mem_of_getElem? hk
 have ho:=List.all_eq_true.1 h2 o hm
 simp only[ok1,Bool.and_eq_true,beq_iff_eq] at ho
 obtain⟨v,hl,hown,_⟩:=ho
 have hn:=kU h
 rw[← pF] at hn
 refine⟨v,?_,Nl (pj h1).2 hk,E2 v⟩
 cases e:dQ (aM b) o.id with
 | none=>rw[e] at hl;cases hl
 | some w =>
  rw[e] at hown
  have:w=o.owner:=hown
  rw[this] at e
  exact (j7 hn).1 e
theorem Q3 {b:Bd} (h:cq bF b=true) {id p:Int} (hm:(id,p) ∈ aM b):∃ (k:Nat) (o:Ob),b.objs[k]?=some o∧o.id=id∧o.owner=p:=by
 obtain⟨o,ho,e,_⟩:=BQ h id (List.mem_map_of_mem (f:=Prod.fst) hm)
 obtain⟨k,hk⟩:=List.mem_iff_getElem?.1 ho
 refine⟨k,o,hk,e,?_⟩
 obtain⟨_,h2,_⟩:=mF h hk
 have hn:=kU h
 rw[← pF] at hn
 rw[e] at h2
 have a:=(j7 hn).2 h2
 have c:=(j7 hn).2 hm
 rw[a] at c
 exact Option.some.inj c
theorem Ks {l l':List (Int × Int)} (hn:(l.map (·.1)).Nodup) (hp:l.Perm l') (k:Int):dQ l k=dQ l' k:=by
 have hn':(l'.map (·.1)).Nodup:=(hp.map _).nodup_iff.1 hn
 cases e:dQ l k with
 | none =>
  rw[gZ] at e
  symm
  rw[gZ]
  intro h
  exact e ((hp.map _).mem_iff.2 h)
 | some v =>
  rw[j7 hn] at e
  exact ((j7 hn').2 (hp.mem_iff.1 e)).symm
theorem Jb:∀ {l:List Ob} {prev:Option Int} {k:Nat} {o o':Ob},l[k]?=some o→o'.id=o.id→EY prev (l.set k o')=EY prev l
 | [],_,_,_,_,h,_=>by simp at h
 | a::l,prev,0,o,o',h,e=>by
  simp at h;subst h
  simp only[List.set_cons_zero,EY,e]
 | a::l,prev,k + 1,o,o',h,e=>by
  simp only[List.set_cons_succ,EY]
  rw[Jb (by simpa using h) e]
theorem JZ {b:Bd} {k:Nat} {o o':Ob} (h:cq bF b=true) (hk:b.objs[k]?=some o) (h1:o'.id=o.id) (h2:o'.owner=o.owner) (h3:o'.card=o.card) (hv:bF o'=true):cq bF (tp b k o')=true:=by
 obtain⟨p1,p2,p3⟩:=iL h
 have hn:=kU h
 have e1:aM (tp b k o')=aM b:=rfl
 have e2:(tp b k o').stack=b.stack:=rfl
 have e3:(tp b k o').objs=b.objs.set k o':=rfl
 simp only[cq,Bool.and_eq_true,decide_eq_true_eq,pn,e1,e2,e3,List.length_set,pF]
 refine⟨hn,⟨by rw[Jb hk h1];exact p1,?_⟩,p3⟩
 rw[List.all_eq_true]
 intro x hx
 rcases List.mem_or_eq_of_mem_set hx with hx | rfl
 ·exact List.all_eq_true.1 p2 x hx
 ·have:=List.all_eq_true.1 p2 o (List.mem_of_getElem? hk)
  simp only[ok1,Bool.and_eq_true] at this ⊢
  rw[h1,h2,h3]
  exact⟨hv,this.2⟩
theorem eM {b c:Bd} (h:cq bF b=true) (hp:(aM b).Perm (aM c)) (ho:c.objs=b.objs) (hc:bM c.stack=bM b.stack):cq bF c=true:=by
 obtain⟨p1,p2,p3⟩:=iL h
 have hn:=kU h
 rw[← pF] at hn
 simp only[cq,Bool.and_eq_true,decide_eq_true_eq,pn,ho,hc]
 refine⟨(hp.map _).nodup_iff.1 hn,⟨p1,?_⟩,by rw[← hp.length_eq];exact p3⟩
 have:(b.objs.all (ok1 (aM c) (bM b.stack)))=b.objs.all (ok1 (aM b) (bM b.stack)):=by
  congr 1
  funext o
  simp only[ok1,Ks hn hp]
 rw[this];exact p2
theorem E1 {o:Ob} (z:Int) (h:bF o=true):bF (my o z)=true:=by
 rw[uS] at h ⊢
 simp only[my]
 obtain⟨⟨a1,a2,a3,a4,a5,a6⟩,a7⟩:=h
 exact⟨⟨a1,a2,by omega,by omega,by omega,by omega⟩,a7⟩
def TT (s:St) (id:Int):St:={ s with lib:=s.lib.dropLast,hand:=s.hand++[id] }
def F5 (b:Bd) (p id:Int):Bd:=jL b p (TT (cg b p) id)
theorem FR {s:St} {l:List Int} {id:Int} (p:Int) (hl:s.lib=l++[id]):(fw s p).Perm (fw (TT s id) p):=by
 simp only[fw,TT,hl,List.dropLast_concat]
 refine List.Perm.map _ ?_
 simp only[List.append_assoc]
 exact List.Perm.append_left l ((List.perm_append_comm_assoc _ _ _))
theorem F4 {b:Bd} {p:Int} (hp:p=0∨p=1) {l:List Int} {id:Int} (hl:(cg b p).lib=l++[id]) :
  (aM b).Perm (aM (F5 b p id))∧(F5 b p id).objs=b.objs∧(F5 b p id).stack=b.stack∧(id,p) ∈ aM b:=by
 rcases hp with rfl | rfl
 ·have hl':b.s0.lib=l++[id]:=hl
  refine⟨?_,rfl,rfl,?_⟩
  ·exact (FR 0 hl').append_right _
  ·simp[aM,fw,hl']
 ·have hl':b.s1.lib=l++[id]:=hl
  refine⟨?_,rfl,rfl,?_⟩
  ·exact ((FR 1 hl').append_right _).append_left _
  ·simp[aM,fw,hl']
theorem IR {b c:Bd} (h:aE b=true) (hpl:cq bF c=true) (hf:jc c=jc b) (h0:eJ c.s0=eJ b.s0) (h1:eJ c.s1=eJ b.s1)
  (e1:c.active=b.active) (e2:c.turn=b.turn) (e3:c.phase=b.phase) (e4:c.holder=b.holder) (e5:c.passes=b.passes) (e6:c.stack=b.stack) (e7:c.queue=b.queue) (e8:c.objs.length=b.objs.length):aE c=true:=by
 have hp:=(eI h).1
 have:aE c=aE b:=by
  simp only[aE,BZ,hf,h0,h1,e1,e2,e3,e4,e5,e6,e7,e8,hpl,hp]
 rw[this];exact h
theorem MJ {b:Bd} (h:aE b=true) {p:Int} (hp:p=0∨p=1) {l:List Int} {id:Int} (hl:(cg b p).lib=l++[id]):aE (F5 b p id)=true:=by
 obtain⟨m1,m2,m3,_⟩:=F4 hp hl
 have hpl:=eM (eI h).1 m1 m2 (by rw[m3])
 rcases hp with rfl | rfl <;> exact IR h hpl rfl rfl rfl rfl rfl rfl rfl rfl rfl rfl rfl
theorem LG {b:Bd} {k:Nat} {o o':Ob} (h:aE b=true) (hk:b.objs[k]?=some o) (h1:o'.id=o.id) (h2:o'.owner=o.owner) (h3:o'.card=o.card) (hv:bF o'=true):aE (tp b k o')=true :=
 IR h (JZ (eI h).1 hk h1 h2 h3 hv) rfl rfl rfl rfl rfl rfl rfl rfl rfl rfl (by simp[tp])
theorem Aa {P:Program} {f:FuncId} {args:List Value} {H:Heap} {O:Go.Sx.Own} {S:Value→Heap→Prop} {d:Bool} {shp:Shp} {K:List Value→List (List Value)→Heap→Go.Sx.Own→Prop}
  (h:Triple P f args H O fun v H' O'=>S v H'∧O'=O) (hk:∀ v H',S v H'→Heap.le H H'→∃ vs,shp.open v=some vs∧Ones vs∧K vs [] H' O) :
  dc (fun H1 O1 R=>Triple P f args H1 O1 R) d [] [] shp K H O:=by
 intro _
 refine⟨H,O,[],fun v H' O'=>S v H'∧O'=O,?_,h,?_⟩
 ·cases d
  ·show Ghost H O H (O++[])
   rw[List.append_nil];exact Ghost.refl _ _
  ·exact⟨rfl,.inr ⟨rfl,rfl,rfl,fun v H' O' h=>h.2⟩⟩
 ·rintro v H' O' ⟨hs,rfl⟩ hle
  obtain⟨vs,h1,h2,h3⟩:=hk v H' hs hle
  exact⟨vs,[],O',h1,h2,trivial,rfl,by rw[List.append_nil];exact h3⟩
abbrev i64 (n:Int):Prop:=-9223372036854775808≤n∧n≤9223372036854775807
theorem ga (o:Ob):Ones o.row:=⟨rfl,rfl,rfl,rfl,rfl,rfl,rfl,rfl,rfl,rfl,rfl,rfl,trivial⟩
theorem GP (o:Ob) (id:Int) (H:Heap) (O:Go.Sx.Own):RetO PP ix [.agg o.row.toArray,iV id] H O (iV (IntKind.i64.wrap (o.id - id))):=by
 refine vi (vs:=o.row++[iV id]) (by kernel_rfl) (aK (ga o) ⟨rfl,trivial⟩) ?_
 simp only[qi]
 exact ah fun r0=>ae (ab _ rfl (af ⟨rfl,rfl⟩))
theorem E0 {a id:Int} (h:i64 id) (ha:1≤a) (hb:a≤500):(IntKind.i64.wrap (a - id) == 0)=(a == id):=by
 rw[Bool.eq_iff_iff]
 simp only[beq_iff_eq,IntKind.wrap,IntKind.bits,IntKind.signed]
 simp
 omega
theorem BI {a id:Int} (ha:1≤a) (hb:a≤500) (h1:1≤id) (h2:id≤500):IntKind.i64.wrap (a - id)=a - id:=dN (by omega) (by omega)
theorem Ja:∀ {l:List Ob} {prev:Option Int},EY prev l=true→∀ {j k:Nat} {x y:Ob},j < k→l[j]?=some x→l[k]?=some y→x.id < y.id
 | [],_,_,j,k,x,y,_,h,_=>by simp at h
 | a::l,prev,h,j,k,x,y,hjk,hx,hy=>by
  simp only[EY,Bool.and_eq_true] at h
  cases k with
  | zero=>omega
  | succ k =>
   cases j with
   | zero =>
    simp at hx;subst hx
    have hm:y ∈ l:=List.mem_of_getElem? (by simpa using hy)
    exact (pj h.2).1 y hm _ rfl
   | succ j=>exact Ja h.2 (j:=j) (k:=k) (by omega) (by simpa using hx) (by simpa using hy)
theorem QN {i n:Nat} (h:i + n < 2 ^ 63):al (.bin .add .int) [iV (i:Int),iV (n:Int)]=some (iV ((i + n:Nat):Int)):=EU h
theorem Uw {n:Nat} (h:n < 2 ^ 63):al (.conv .u64) [iV (n:Int)]=some (.int .u64 (n:Int)):=by
 simp only[al,IntKind.wrap,IntKind.bits,IntKind.signed]
 simp
 omega
theorem Ux {n:Nat} (h:n < 2 ^ 63):al (.conv .i64) [.int .u64 (n:Int)]=some (iV (n:Int)):=by
 simp only[al]
 rw[dN (by omega) (by omega)]
theorem RG {n:Nat} (h:n < 2 ^ 63):al (.bin .shr .int) [.int .u64 (n:Int),.int .u64 1]=some (.int .u64 ((n / 2:Nat):Int)):=by
 simp only[al,bA,mK]
 simp[IntKind.bits]
 rw[Int.fdiv_eq_ediv_of_nonneg]
 all_goals omega
theorem BF {H:Heap} {O:Go.Sx.Own} {v:Value} {l:List Ob} (h:RSl H O 12 v (l.map Ob.row)) {id:Int} (hid:i64 id) (hv:∀ o ∈ l,1≤o.id∧o.id≤500) (ho:EY none l=true) (hlen:l.length≤1000000) :
  Triple PP bh [v,iV id,.func (.func ix) #[] #[]] H O fun r _ O'=>(∃ (i:Nat) (f:Bool),r=.tuple #[iV i,.bool f]∧(f=true→∃ o,l[i]?=some o∧o.id=id)∧(f=false→∀ o ∈ l,o.id ≠ id))∧O'=O:=by
 refine dh (vs:=[v,iV id,.func (.func ix) #[] #[]]) (by kernel_rfl) ⟨h.one,rfl,rfl,trivial⟩ ?_
 simp only[bf]
 have hl:=h.len
 have hB:=h.lenB
 rw[List.length_map] at hl hB
 refine ab _ hl ?_
 refine dG (fun vs H' O'=>∃ i j:Nat,vs=[iV i,iV j]∧i≤j∧j≤l.length∧O'=O∧Heap.le H H'∧(1≤id→id≤500→(∀ (k:Nat) (o:Ob),k < i→l[k]?=some o→o.id < id)∧∀ (k:Nat) (o:Ob),j≤k→l[k]?=some o→id≤o.id))
  (fun vs _ _=>match g vs 0,g vs 1 with | .int _ a,.int _ b=>(b - a).toNat | _,_=>0) ⟨0,l.length,rfl,Nat.zero_le _,Nat.le_refl _,rfl,Heap.le_refl _,fun _ _=>⟨fun k o hk=>absurd hk (Nat.not_lt_zero k),fun k o hk e=>by
   have:=(List.getElem?_eq_some_iff.1 e).1;omega⟩⟩ ?_
 rintro vs H' O' - - - ⟨i,j,rfl,hij,hj,rfl,hle,hinv⟩
 refine ab _ (aG _ _) (aj (fun hb=>?_) (fun hb=>?_))
 ·have hlt:i < j:=by simpa using hb
  have hm:(i + j) / 2 < l.length:=by omega
  obtain⟨a,h1,h2,_,h3,h4⟩:=(h.le hle).idx .i64 ((i + j) / 2) (Ob.row l[(i + j) / 2]) (by simp[hm])
  refine ab _ (QN (by omega)) (ab _ (Uw (by omega)) (ab _ (RG (by omega)) (ab _ (Ux (by omega)) (ab _ h1 (aA h2 h3 h4 ?_)))))
  refine dU rfl (dE fc (by decide)) (GP l[(i + j) / 2] id H' O') rfl ⟨rfl,trivial⟩ fun H2 l2=>ab _ (aG _ _) (aj (fun hc=>?_) (fun hc=>?_))
  ·refine ab _ (aD (by omega)) (cU (by simp[Eqs]) ⟨(i + j) / 2 + 1,j,rfl,by omega,hj,rfl,Heap.le_trans hle l2,fun a1 a2=>⟨fun k o hk e=>?_,(hinv a1 a2).2⟩⟩ ?_)
   ·have hc:=of_decide_eq_true hc
    have hm1:=hv _ (List.getElem_mem hm)
    rw[BI hm1.1 hm1.2 a1 a2] at hc
    rcases Nat.lt_or_ge k ((i + j) / 2) with hk2 | hk2
    ·have:=Ja ho hk2 e (List.getElem?_eq_getElem hm);omega
    ·have:k=(i + j) / 2:=by omega
     subst this
     rw[List.getElem?_eq_getElem hm] at e
     obtain rfl:=Option.some.inj e
     omega
   ·show (((j:Int) - (((i + j) / 2 + 1:Nat):Int)).toNat) < ((j:Int) - (i:Int)).toNat
    omega
  ·refine cU (by simp[Eqs]) ⟨i,(i + j) / 2,rfl,by omega,by omega,rfl,Heap.le_trans hle l2,fun a1 a2=>⟨(hinv a1 a2).1,fun k o hk e=>?_⟩⟩ ?_
   ·have hc:=of_decide_eq_false hc
    have hm1:=hv _ (List.getElem_mem hm)
    rw[BI hm1.1 hm1.2 a1 a2] at hc
    rcases Nat.lt_or_ge ((i + j) / 2) k with hk2 | hk2
    ·have:=Ja ho hk2 (List.getElem?_eq_getElem hm) e;omega
    ·have:k=(i + j) / 2:=by omega
     subst this
     rw[List.getElem?_eq_getElem hm] at e
     obtain rfl:=Option.some.inj e
     omega
   ·show (((((i + j) / 2:Nat):Int) - (i:Int)).toNat) < ((j:Int) - (i:Int)).toNat
    omega
 ·have hie:i=j:=by
   have:¬ ((i:Int) < (j:Int)):=of_decide_eq_false hb
   omega
  subst hie
  refine ab _ (aG _ _) (aj (fun hb=>?_) (fun hb=>?_))
  ·have hlt:i < l.length:=by simpa using hb
   obtain⟨a,h1,h2,_,h3,h4⟩:=(h.le hle).idx .i64 i (Ob.row l[i]) (by simp[hlt])
   have hm1:=hv _ (List.getElem_mem hlt)
   refine ab _ h1 (aA h2 h3 h4 (dU rfl (dE fc (by decide)) (GP l[i] id H' O') rfl ⟨rfl,trivial⟩ fun H2 l2=>ab _ (aw _ _) (af ⟨⟨i,(IntKind.i64.wrap (l[i].id - id) == 0),rfl,fun hc=>?_,fun hc=>?_⟩,rfl⟩)))
   ·rw[E0 hid hm1.1 hm1.2] at hc
    exact⟨l[i],List.getElem?_eq_getElem hlt,by simpa using hc⟩
   ·rw[E0 hid hm1.1 hm1.2] at hc
    have hne:l[i].id ≠ id:=by simpa using hc
    intro o hmem e
    have hob:=hv o hmem
    obtain⟨i1,i2⟩:=hinv (by omega) (by omega)
    obtain⟨k,hk⟩:=List.mem_iff_getElem?.1 hmem
    rcases Nat.lt_trichotomy k i with hki | hki | hki
    ·have:=i1 k o hki hk;omega
    ·subst hki
     rw[List.getElem?_eq_getElem hlt] at hk
     obtain rfl:=Option.some.inj hk
     exact hne e
    ·have:=Ja ho hki (List.getElem?_eq_getElem hlt) hk
     have:=i2 i l[i] (Nat.le_refl _) (List.getElem?_eq_getElem hlt)
     omega
  ·have hge:l.length≤i:=by simpa using hb
   refine af ⟨⟨i,false,rfl,fun hc=>(by cases hc),fun _ o hmem e=>?_⟩,rfl⟩
   have hob:=hv o hmem
   obtain⟨i1,_⟩:=hinv (by omega) (by omega)
   obtain⟨k,hk⟩:=List.mem_iff_getElem?.1 hmem
   have:=i1 k o (by have:=(List.getElem?_eq_some_iff.1 hk).1;omega) hk
   omega
theorem Lj {b:Bd} (h:aE b=true):(∀ o ∈ b.objs,1≤o.id∧o.id≤500)∧EY none b.objs=true:=by
 obtain⟨p1,p2,_⟩:=iL (eI h).1
 refine⟨fun o ho=>?_,p1⟩
 have:=List.all_eq_true.1 p2 o ho
 simp only[ok1,Bool.and_eq_true] at this
 exact s7 this.1
theorem yx {b:Bd} (h:aE b=true):b.objs.length≤1000000:=by
 simp only[aE,BZ,Bool.and_eq_true,Bool.not_eq_true',Bool.or_eq_false_iff,decide_eq_false_iff_not] at h
 have:=h.2.2.2.2.1.1.1.2
 omega
theorem Nk {b:Bd} {id:Int} (h:∀ o ∈ b.objs,o.id ≠ id):Bz b id=-1:=by
 rcases zD (fun o:Ob=>o.id == id) b.objs 0 (by omega) with ⟨e,_⟩ | ⟨k,o,e1,e2,_⟩
 ·exact e
 ·exact absurd (by simpa using e2) (h o (List.mem_of_getElem? e1))
theorem Nj {b:Bd} {id:Int} (h:¬ Bz b id < 0):∃ (k:Nat) (o:Ob),b.objs[k]?=some o∧o.id=id∧Bz b id=k:=by
 rcases zD (fun o:Ob=>o.id == id) b.objs 0 (by omega) with ⟨e,_⟩ | ⟨k,o,e1,e2,e3⟩
 ·exact absurd (show Bz b id < 0 by rw[Bz,e];omega) h
 ·exact⟨k,o,e1,by simpa using e2,by rw[Bz,e3];omega⟩
def mI (b:Bd) (id:Int):Int:=if aE b=true then (if Bz b id < 0 then 9 else 0) else 2
def wc (b:Bd) (id:Int):Int:=if aE b=true then (if Bz b id < 0 then 0 else Bz b id) else 0
theorem Is {H:Heap} {O:Go.Sx.Own} {v:cI} {b:Bd} (h:BdR H O v b) {id:Int} (hid:i64 id):RetO PP uO [.agg (ao v b).toArray,iV id] H O (.tuple #[iV (wc b id),iV (mI b id)]):=by
 refine yT (vs:=ao v b++[iV id]) (by kernel_rfl) (aK (ap h) ⟨rfl,trivial⟩) ?_
 simp only[uB]
 refine ah fun r0=>ae (am (bE h) rfl ⟨rfl,trivial⟩ fun H1 l1=>ab _ (aC _) (aj (fun hb=>af ⟨?_,rfl⟩) (fun hb=>ae ?_)))
 ·have hf:aE b=false:=Br hb
  simp[wc,mI,hf]
 have ht:aE b=true:=yk hb
 obtain⟨hv,ho⟩:=Lj ht
 refine Aa (BF (h.le l1).objs hid hv ho (yx ht)) ?_
 rintro _ H2 ⟨i,f,rfl,f1,f2⟩ l2
 refine⟨[iV i,.bool f],rfl,⟨rfl,rfl,trivial⟩,ab _ (aC _) (aj (fun hb=>af ⟨?_,rfl⟩) (fun hb=>af ⟨?_,rfl⟩))⟩
 ·have hf:f=false:=Br hb
  have:=Nk (f2 hf)
  simp[wc,mI,ht,this]
 ·have hf:f=true:=yk hb
  obtain⟨o,e1,rfl⟩:=f1 hf
  have:=Nl (pj ho).2 e1
  have hn:¬ ((i:Int) < 0):=by omega
  simp only[wc,mI,ht,this,hn,if_true,if_false]
  rfl
def tys:Tys:=⟨aQ,di,lu,ee,aF⟩
theorem uk {H:Heap} {v:Value} {l:List (List Value)} (h:Sl H 12 v l) (hb:l.length≤2 ^ 40):Triple PP du [v] H [] fun v' H' O'=>OSl di 12 v' l O':=by
 refine fU (vs:=[v]) (by kernel_rfl) ⟨h.one,trivial⟩ ?_
 simp only[dq]
 obtain⟨a,cap,rfl,h1,h2,h3⟩:=h
 have hev:al (.bin .eql .slice) [.slice a l.length cap,.slice none 0 0]=some (.bool a.isNone):=by cases a <;> rfl
 refine ab _ hev (aj (fun hn=>af ?_) (fun hn=>fun r0=>?_))
 ·have hl:l=[]:=by
   by_cases hl:l=[]
   ·exact hl
   ·obtain⟨ad,rfl,_⟩:=h3 hl;cases hn
  subst hl
  exact OSl.nil di 12
 ·refine aH (rows:=[]) (news:=l) (O1:=[]) (O2:=[]) (e:=di) (size:=12) (bytes:=80) (by kernel_rfl) (List.Perm.refl _) (.inl ⟨⟨_,rfl⟩,rfl,rfl⟩) (fun Hf hl _=>Sl.le hl ⟨a,cap,rfl,h1,h2,h3⟩) (by simp;omega) (by simp;omega) ?_
  intro v' O1' H' _ ho
  refine af ?_
  rw[List.append_nil]
  exact ho
theorem vK {H:Heap} {v:Value} {l:List (List Value)} (h:Sl H 2 v l) (hb:l.length≤2 ^ 40):Triple PP dM [v] H [] fun v' H' O'=>OSl lu 2 v' l O':=by
 refine gm (vs:=[v]) (by kernel_rfl) ⟨h.one,trivial⟩ ?_
 simp only[dL]
 obtain⟨a,cap,rfl,h1,h2,h3⟩:=h
 have hev:al (.bin .eql .slice) [.slice a l.length cap,.slice none 0 0]=some (.bool a.isNone):=by cases a <;> rfl
 refine ab _ hev (aj (fun hn=>af ?_) (fun hn=>fun r0=>?_))
 ·have hl:l=[]:=by
   by_cases hl:l=[]
   ·exact hl
   ·obtain⟨ad,rfl,_⟩:=h3 hl;cases hn
  subst hl
  exact OSl.nil lu 2
 ·refine aH (rows:=[]) (news:=l) (O1:=[]) (O2:=[]) (e:=lu) (size:=2) (bytes:=16) (by kernel_rfl) (List.Perm.refl _) (.inl ⟨⟨_,rfl⟩,rfl,rfl⟩) (fun Hf hl _=>Sl.le hl ⟨a,cap,rfl,h1,h2,h3⟩) (by simp;omega) (by simp;omega) ?_
  intro v' O1' H' _ ho
  refine af ?_
  rw[List.append_nil]
  exact ho
theorem ye {H:Heap} {v:Value} {l:List (List Value)} (h:Sl H 5 v l) (hb:l.length≤2 ^ 40):Triple PP ej [v] H [] fun v' H' O'=>OSl ee 5 v' l O':=by
 refine hZ (vs:=[v]) (by kernel_rfl) ⟨h.one,trivial⟩ ?_
 simp only[eh]
 obtain⟨a,cap,rfl,h1,h2,h3⟩:=h
 have hev:al (.bin .eql .slice) [.slice a l.length cap,.slice none 0 0]=some (.bool a.isNone):=by cases a <;> rfl
 refine ab _ hev (aj (fun hn=>af ?_) (fun hn=>fun r0=>?_))
 ·have hl:l=[]:=by
   by_cases hl:l=[]
   ·exact hl
   ·obtain⟨ad,rfl,_⟩:=h3 hl;cases hn
  subst hl
  exact OSl.nil ee 5
 ·refine aH (rows:=[]) (news:=l) (O1:=[]) (O2:=[]) (e:=ee) (size:=5) (bytes:=56) (by kernel_rfl) (List.Perm.refl _) (.inl ⟨⟨_,rfl⟩,rfl,rfl⟩) (fun Hf hl _=>Sl.le hl ⟨a,cap,rfl,h1,h2,h3⟩) (by simp;omega) (by simp;omega) ?_
  intro v' O1' H' _ ho
  refine af ?_
  rw[List.append_nil]
  exact ho
theorem uj {H:Heap} {v:Value} {l:List (List Value)} (h:Sl H 2 v l) (hb:l.length≤2 ^ 40):Triple PP dt [v] H [] fun v' H' O'=>OSl aF 2 v' l O':=by
 refine fS (vs:=[v]) (by kernel_rfl) ⟨h.one,trivial⟩ ?_
 simp only[dp]
 obtain⟨a,cap,rfl,h1,h2,h3⟩:=h
 have hev:al (.bin .eql .slice) [.slice a l.length cap,.slice none 0 0]=some (.bool a.isNone):=by cases a <;> rfl
 refine ab _ hev (aj (fun hn=>af ?_) (fun hn=>fun r0=>?_))
 ·have hl:l=[]:=by
   by_cases hl:l=[]
   ·exact hl
   ·obtain⟨ad,rfl,_⟩:=h3 hl;cases hn
  subst hl
  exact OSl.nil aF 2
 ·refine aH (rows:=[]) (news:=l) (O1:=[]) (O2:=[]) (e:=aF) (size:=2) (bytes:=16) (by kernel_rfl) (List.Perm.refl _) (.inl ⟨⟨_,rfl⟩,rfl,rfl⟩) (fun Hf hl _=>Sl.le hl ⟨a,cap,rfl,h1,h2,h3⟩) (by simp;omega) (by simp;omega) ?_
  intro v' O1' H' _ ho
  refine af ?_
  rw[List.append_nil]
  exact ho
theorem NR {H:Heap} {v:Value} {l:List It} (h:ItsS H v l) (hB:VA l):Triple PP uN [v] H [] fun v' H' O'=>OItsS aF ee v' l O':=by
 obtain⟨rows,hs,hrl,hit⟩:=h
 refine yS (vs:=[v]) (by kernel_rfl) ⟨hs.one,trivial⟩ ?_
 simp only[uA]
 refine az (ye hs (by have:=hB.1;omega)) fun v' H1 O1 ho l1=>⟨[v'],rfl,⟨ho.one,trivial⟩,?_⟩
 have hlen:=ho.len
 rw[hrl] at hlen
 refine ab _ hlen ?_
 refine aY l.length (fun i H' O'=>Heap.le H1 H'∧∃ rows' A Ts,O'.Perm (A++List.flatten Ts)∧OSl ee 5 v' rows' A∧rows'.length=l.length∧Ts.length=i ∧
  (∀ (j:Nat) (r:List Value) (x:It) (T:Go.Sx.Own),rows'[j]?=some r→l[j]?=some x→Ts[j]?=some T→∃ s,r=[iV x.player,iV x.id,iV x.card,iV x.trig,s]∧OSl aF 2 s (x.tgs.map Tg.row) T)∧∀ j,i≤j→rows'[j]?=rows[j]?)
  ⟨Heap.le_refl _,rows,O1,[],by simp,ho,hrl,rfl,fun j r x T _ _ h=>by simp at h,fun _ _=>rfl⟩ ?_
 rintro i H' O' hi - ⟨hle,rows',A,Ts,hp,hA,hrl',htl,hspec,hrest⟩
 refine ab _ (aG _ _) (aj (fun hb=>?_) (fun hb=>?_))
 ·have hlt:i < l.length:=by simpa using hb
  have hri:rows'[i]?=some rows[i]:=by rw[hrest i (Nat.le_refl _)];exact List.getElem?_eq_getElem (by omega)
  obtain⟨s,hrow,hst⟩:=hit i rows[i] l[i] (List.getElem?_eq_getElem (by omega)) (List.getElem?_eq_getElem hlt)
  obtain⟨a,k1,_,_,k3⟩:=hA.idx (fun p hp'=>hp.mem_iff.2 (List.mem_append_left _ hp')) H' (k:=.i64) hri
  have hr:=k3 4 1 (by omega)
  rw[hrow] at hr
  refine ab _ k1 (ak rfl (aA hr rfl ⟨hst.one,trivial⟩ ?_))
  refine az (uj (hst.le (Heap.le_trans l1 hle)) (by have:=hB.2 _ (List.getElem_mem hlt);simp;omega)) fun s' H2 T hT l2=>⟨[s'],rfl,⟨hT.one,trivial⟩,?_⟩
  have hp2:(T++O').Perm (A++(T++List.flatten Ts)):=(hp.append_left T).trans (List.perm_append_comm_assoc _ _ _)
  obtain⟨a2,j1,j2⟩:=hA.store hp2 (k:=.i64) hri
  obtain⟨A',hst2,hA'⟩:=j2 4 [s'] (by simp) ⟨hT.one,trivial⟩
  refine ab _ j1 (ak rfl (ak rfl ⟨_,hst2,?_⟩))
  have hsp:bL rows[i] 4 [s']=[iV l[i].player,iV l[i].id,iV l[i].card,iV l[i].trig,s']:=by rw[hrow];rfl
  rw[hsp] at hA'
  refine ab _ (aD (by have:=hB.1;omega)) (aN (by simp[Eqs]) hlt ⟨Heap.le_trans hle l2,_,A',Ts++[T],?_,hA',by simp[hrl'],by simp[htl],?_,?_⟩)
  ·refine List.Perm.append_left A' ?_
   rw[List.flatten_append]
   simpa using List.perm_append_comm
  ·intro j r x T' h1 h2 h3
   by_cases hj:j=i
   ·subst hj
    rw[List.getElem?_set_self (by omega)] at h1
    rw[List.getElem?_eq_getElem hlt] at h2
    rw[List.getElem?_append_right (by omega),htl,Nat.sub_self] at h3
    simp only[Option.some.injEq,List.getElem?_cons_zero] at h1 h2 h3
    subst h1;subst h2;subst h3
    exact⟨s',rfl,hT⟩
   ·rw[List.getElem?_set_ne (by omega)] at h1
    have hjlt:j < Ts.length:=by
     have:=(List.getElem?_eq_some_iff.1 h3).1
     simp at this;omega
    rw[List.getElem?_append_left hjlt] at h3
    exact hspec j r x T' h1 h2 h3
  ·intro j hj
   rw[List.getElem?_set_ne (by omega)]
   exact hrest j (by omega)
 ·have hie:i=l.length:=by
   have:¬ ((i:Int) < (l.length:Int)):=by simpa using hb
   omega
  subst hie
  exact af ⟨rows',A,Ts,hp,hA,hrl',htl,hspec⟩
theorem OIts.one {te ti:TypeId} {v:Value} {l:List It} {O:Go.Sx.Own} (h:OIts te ti v l O):v.oneCell'=true:=by
 obtain⟨rows,A,Ts,_,h1,_⟩:=h;exact h1.one
theorem TC {H:Heap} {v:cI} {b:Bd} (h:BdS H v b) (hB:bdB b):Triple PP lU [.agg (ao v b).toArray] H [] fun r H' O'=>∃ w,r=.agg (ao w b).toArray∧OwnBS tys w b O':=by
 refine Bh (vs:=ao v b) (by kernel_rfl) (ap (h.r [])) ?_
 simp only[w8]
 obtain⟨b1,⟨b2,b3,b4,b5⟩,⟨b6,b7,b8,b9⟩,b10,b11,b12,b13⟩:=hB
 have cl:∀ {l:List Int},l.length≤1000000→(aJ l).length≤2 ^ 40:=fun h=>by rw[aJ,List.length_map];omega
 refine ah fun r0=>ah fun r1=>?_
 refine ae (ae (ae ?_))
 refine az (uk h.objs (by rw[List.length_map];omega)) fun xo H1 Oo po l1=>⟨_,rfl,⟨po.one,trivial⟩,?_⟩
 replace h:=h.le l1
 refine az (ed h.att (cl b12)) fun xa H1 Oa pa l1=>⟨_,rfl,⟨pa.one,trivial⟩,?_⟩
 replace h:=h.le l1
 refine az (vK h.blocks (by rw[List.length_map];omega)) fun xb H1 Obk pb l1=>⟨_,rfl,⟨pb.one,trivial⟩,?_⟩
 replace h:=h.le l1
 repeat (first | refine ae ?_ | refine ai ?_)
 refine az (NR h.stack b10) fun xs H1 Os ps l1=>⟨_,rfl,⟨OItsS.one ps,trivial⟩,?_⟩
 replace h:=h.le l1
 refine az (NR h.queue b11) fun xq H1 Oq pq l1=>⟨_,rfl,⟨OItsS.one pq,trivial⟩,?_⟩
 replace h:=h.le l1
 refine ae (ae ?_)
 refine am (EF r0 1 _ _) rfl ⟨rfl,rfl,rfl,rfl,trivial⟩ fun H1 l1=>?_
 replace h:=h.le l1
 repeat (first | refine ae ?_ | refine ai ?_)
 refine az (ed h.s0.lib (cl b2)) fun x1 H1 A0 p1 l1=>⟨_,rfl,⟨p1.one,trivial⟩,?_⟩
 replace h:=h.le l1
 refine ae (ae ?_)
 refine az (ed h.s0.hand (cl b3)) fun x2 H1 B0 p2 l1=>⟨_,rfl,⟨p2.one,trivial⟩,?_⟩
 replace h:=h.le l1
 refine ae (ae ?_)
 refine az (ed h.s0.field (cl b4)) fun x3 H1 C0 p3 l1=>⟨_,rfl,⟨p3.one,trivial⟩,?_⟩
 replace h:=h.le l1
 refine ae (ae ?_)
 refine az (ed h.s0.grave (cl b5)) fun x4 H1 D0 p4 l1=>⟨_,rfl,⟨p4.one,trivial⟩,?_⟩
 replace h:=h.le l1
 refine ae ?_
 refine am (EF r0 15 _ _) rfl ⟨rfl,rfl,rfl,rfl,trivial⟩ fun H1 l1=>?_
 replace h:=h.le l1
 repeat (first | refine ae ?_ | refine ai ?_)
 refine az (ed h.s1.lib (cl b6)) fun x5 H1 A1 p5 l1=>⟨_,rfl,⟨p5.one,trivial⟩,?_⟩
 replace h:=h.le l1
 refine ae (ae ?_)
 refine az (ed h.s1.hand (cl b7)) fun x6 H1 B1 p6 l1=>⟨_,rfl,⟨p6.one,trivial⟩,?_⟩
 replace h:=h.le l1
 refine ae (ae ?_)
 refine az (ed h.s1.field (cl b8)) fun x7 H1 C1 p7 l1=>⟨_,rfl,⟨p7.one,trivial⟩,?_⟩
 replace h:=h.le l1
 refine ae (ae ?_)
 refine az (ed h.s1.grave (cl b9)) fun x8 H1 D1 p8 l1=>⟨_,rfl,⟨p8.one,trivial⟩,?_⟩
 refine ae (ae (ae (ae ?_)))
 refine af ⟨⟨xo,x1,x2,x3,x4,x5,x6,x7,x8,xs,xq,xa,xb⟩,rfl,Os,Oo++(A0++(B0++(C0++(D0++(A1++(B1++(C1++(D1++(Oq++(Oa++Obk)))))))))),?_,ps,fun v' l' A' h'=>⟨Oo,A0,B0,C0,D0,A1,B1,C1,D1,A',Oq,Oa,Obk,?_,⟨po,p1,p2,p3,p4,p5,p6,p7,p8,h',pq.weak,pa,pb⟩⟩⟩
 ·refine dO fun a _ _=>?_
  simp only[List.count_append,List.count_nil]
  omega
 ·refine dO fun a _ _=>?_
  simp only[List.count_append]
  omega
theorem GX {H:Heap} {v:cI} {b:Bd} (h:BdS H v b) (hB:bdB b):Triple PP lU [.agg (ao v b).toArray] H [] fun r H' O'=>∃ w,r=.agg (ao w b).toArray∧OwnB tys w b O' :=
 Triple.mono (TC h hB) fun _ _ _ _ ⟨w,e,h⟩=>⟨w,e,OwnBS.weak h⟩
theorem V7 (a:Addr):an (.pointer (some a)) 0=.pointer (some a):=by simp[an,Addr.add]
theorem tM {w:cI} {b:Bd} {O:Go.Sx.Own} (H:Heap) (h:OwnB tys w b O):Ones (ao w b):=ap (h.r (fun _ h=>h) H)
def zO:Ob:=⟨0,0,0,0,0,0,0,0,0,false,false,false⟩
theorem Nc {b:Bd} {id:Int} (h:(mI b id != 0)=false):aE b=true∧∃ (k:Nat) (o:Ob),b.objs[k]?=some o∧o.id=id∧Bz b id=k∧wc b id=k:=by
 unfold mI at h
 by_cases hv:aE b=true
 ·rw[if_pos hv] at h
  by_cases hi:Bz b id < 0
  ·rw[if_pos hi] at h;simp at h
  ·obtain⟨k,o,e1,e2,e3⟩:=Nj hi
   exact⟨hv,k,o,e1,e2,e3,by rw[wc,if_pos hv,if_neg hi,e3]⟩
 ·rw[if_neg hv] at h;simp at h
def BA (b:Bd) (id:Int):Ob:=if mI b id != 0 then zO else b.objs.getD (Bz b id).toNat zO
theorem P4 {b:Bd} {id:Int} (h:(mI b id != 0)=false) {k:Nat} {o:Ob} (e:b.objs[k]?=some o) (hi:Bz b id=k):BA b id=o:=by
 simp[BA,h,hi,e]
theorem UX {H:Heap} {O:Go.Sx.Own} {v:cI} {b:Bd} (h:BdR H O v b) {id:Int} (hid:i64 id):RetO PP xB [.agg (ao v b).toArray,iV id] H O (.tuple #[.agg (BA b id).row.toArray,iV (mI b id)]):=by
 refine Bf (vs:=ao v b++[iV id]) (by kernel_rfl) (aK (ap h) ⟨rfl,trivial⟩) ?_
 simp only[wY]
 refine ah fun r0=>ah fun r1=>ae (am (Is h hid) rfl ⟨rfl,rfl,trivial⟩ fun H1 l1=>ab _ (fx _ _) (aj (fun hb=>?_) (fun hb=>?_)))
 ·refine ae (ae ?_)
  refine af ⟨?_,rfl⟩
  have e:BA b id=zO:=by rw[BA,if_pos hb]
  rw[e];rfl
 ·obtain⟨_,k,o,e1,e2,e3,e4⟩:=Nc hb
  obtain⟨a,h1,h2,_,h3,h4⟩:=((h.le l1).objs).idx .i64 k (Ob.row o) (by rw[List.getElem?_map,e1];rfl)
  rw[e4]
  refine ae ?_
  refine ab _ h1 (aA h2 h3 h4 ?_)
  refine ae (ae ?_)
  refine af ⟨?_,rfl⟩
  have hz:mI b id=0:=by simpa using hb
  rw[P4 hb e1 e3,hz];rfl
theorem OwnB.store_ob {t:Tys} {w:cI} {b:Bd} {O X O':Go.Sx.Own} (h:OwnB t w b O) (hO:O'.Perm (O++X)) {k:Nat} {o:Ob} (hk:b.objs[k]?=some o) (o':Ob) :
  ∃ a,al (.idx 12) [w.o,iV k]=some (.pointer (some a))∧∃ O1,uE O' (.pointer (some a)) o'.row O1∧∃ O2,O1.Perm (O2++X)∧OwnB t w (tp b k o') O2:=by
 obtain⟨Oo,A0,B0,C0,D0,A1,B1,C1,D1,Os,Oq,Oa,Obk,hp,h⟩:=h
 have hp':O'.Perm (Oo++((A0++(B0++(C0++(D0++(A1++(B1++(C1++(D1++(Os++(Oq++(Oa++Obk)))))))))))++X)):=by
  refine hO.trans ((hp.append_right X).trans (List.Perm.of_eq ?_))
  simp only[List.append_assoc]
 obtain⟨a,k1,k2⟩:=h.objs.store hp' (k:=.i64) (i:=k) (row:=o.row) (by rw[List.getElem?_map,hk];rfl)
 obtain⟨O1',s1,s2⟩:=k2 0 o'.row (by simp[Ob.row]) (ga o')
 rw[V7] at s1
 refine⟨a,k1,_,s1,O1'++(A0++(B0++(C0++(D0++(A1++(B1++(C1++(D1++(Os++(Oq++(Oa++Obk))))))))))),List.Perm.of_eq (by simp only[List.append_assoc]),O1',A0,B0,C0,D0,A1,B1,C1,D1,Os,Oq,Oa,Obk,List.Perm.refl _,?_⟩
 have e:(b.objs.map Ob.row).set k (bL o.row 0 o'.row)=(tp b k o').objs.map Ob.row:=by
  have:bL o.row 0 o'.row=o'.row:=by simp[bL,Ob.row]
  rw[this,tp,List.map_set]
 rw[e] at s2
 exact⟨s2,h.l0,h.h0,h.f0,h.g0,h.l1,h.h1,h.f1,h.g1,h.stack,h.queue,h.att,h.blocks⟩
theorem OwnB.perm {t:Tys} {w:cI} {b:Bd} {O O':Go.Sx.Own} (h:OwnB t w b O) (hp:O'.Perm O):OwnB t w b O' :=
 let ⟨Oo,A0,B0,C0,D0,A1,B1,C1,D1,Os,Oq,Oa,Obk,hq,h⟩:=h
 ⟨Oo,A0,B0,C0,D0,A1,B1,C1,D1,Os,Oq,Oa,Obk,hp.trans hq,h⟩
theorem OwnB.zero (t:Tys):OwnB t QX zBd [] :=
 ⟨[],[],[],[],[],[],[],[],[],[],[],[],[],List.Perm.refl _,OSl.nil _ _,OSl.nil _ _,OSl.nil _ _,OSl.nil _ _,OSl.nil _ _,OSl.nil _ _,OSl.nil _ _,OSl.nil _ _,OSl.nil _ _,
  ⟨[],[],[],List.Perm.refl _,OSl.nil _ _,rfl,rfl,fun i r x T h=>by simp at h⟩,⟨[],[],[],List.Perm.refl _,OSl.nil _ _,rfl,rfl,fun i r x T h=>by simp at h⟩,OSl.nil _ _,OSl.nil _ _⟩
theorem vx {α:Type} (p:α→Bool):∀ (l:List α) (i:Int),0≤i→(mJ p l i=-1∧∀ x ∈ l,p x=false)∨∃ (k:Nat) (x:α),l[k]?=some x∧p x=true∧(∀ y ∈ l.take k,p y=false)∧mJ p l i=i + k
 | [],i,_=>.inl ⟨rfl,by simp⟩
 | a::l,i,h=>by
  simp only[mJ]
  by_cases hp:p a=true
  ·right;exact⟨0,a,rfl,hp,by simp,by rw[if_pos hp];simp⟩
  ·rw[if_neg hp]
   have hp:p a=false:=by simpa using hp
   rcases vx p l (i + 1) (by omega) with ⟨h1,h2⟩ | ⟨k,x,h1,h2,h3,h4⟩
   ·left
    refine⟨h1,fun x hx=>?_⟩
    rcases List.mem_cons.1 hx with rfl | hx
    ·exact hp
    ·exact h2 x hx
   ·right
    refine⟨k + 1,x,by simpa using h1,h2,fun y hy=>?_,by rw[h4];omega⟩
    rw[List.take_succ_cons] at hy
    rcases List.mem_cons.1 hy with rfl | hy
    ·exact hp
    ·exact h3 y hy
theorem zH {α:Type} {p:α→Bool} {l:List α} (h:∀ x ∈ l,p x=false):(l.filter fun x=>!p x)=l:=by
 rw[List.filter_eq_self]
 intro x hx
 rw[h x hx];rfl
theorem OwnB.pick_l0 {t:Tys} {w:cI} {b:Bd} {O:Go.Sx.Own} (h:OwnB t w b O):∃ A R,O.Perm (A++R)∧OSl t.int 1 w.l0 (aJ b.s0.lib) A∧∀ v' l' A',OSl t.int 1 v' (aJ l') A'→OwnB t { w with l0:=v' } { b with s0:={ b.s0 with lib:=l' } } (A'++R):=by
 obtain⟨Oo,A0,B0,C0,D0,A1,B1,C1,D1,Os,Oq,Oa,Obk,hp,h⟩:=h
 refine⟨A0,Oo++(B0++(C0++(D0++(A1++(B1++(C1++(D1++(Os++(Oq++(Oa++(Obk))))))))))),hp.trans (dO fun a _ _=>by simp only[List.count_append] <;> omega),h.l0,fun v' l' A' h'=>⟨Oo,A',B0,C0,D0,A1,B1,C1,D1,Os,Oq,Oa,Obk,dO fun a _ _=>by simp only[List.count_append] <;> omega,⟨h.objs,h',h.h0,h.f0,h.g0,h.l1,h.h1,h.f1,h.g1,h.stack,h.queue,h.att,h.blocks⟩⟩⟩
theorem OwnB.pick_h0 {t:Tys} {w:cI} {b:Bd} {O:Go.Sx.Own} (h:OwnB t w b O):∃ A R,O.Perm (A++R)∧OSl t.int 1 w.h0 (aJ b.s0.hand) A∧∀ v' l' A',OSl t.int 1 v' (aJ l') A'→OwnB t { w with h0:=v' } { b with s0:={ b.s0 with hand:=l' } } (A'++R):=by
 obtain⟨Oo,A0,B0,C0,D0,A1,B1,C1,D1,Os,Oq,Oa,Obk,hp,h⟩:=h
 refine⟨B0,Oo++(A0++(C0++(D0++(A1++(B1++(C1++(D1++(Os++(Oq++(Oa++(Obk))))))))))),hp.trans (dO fun a _ _=>by simp only[List.count_append] <;> omega),h.h0,fun v' l' A' h'=>⟨Oo,A0,A',C0,D0,A1,B1,C1,D1,Os,Oq,Oa,Obk,dO fun a _ _=>by simp only[List.count_append] <;> omega,⟨h.objs,h.l0,h',h.f0,h.g0,h.l1,h.h1,h.f1,h.g1,h.stack,h.queue,h.att,h.blocks⟩⟩⟩
theorem OwnB.pick_l1 {t:Tys} {w:cI} {b:Bd} {O:Go.Sx.Own} (h:OwnB t w b O):∃ A R,O.Perm (A++R)∧OSl t.int 1 w.l1 (aJ b.s1.lib) A∧∀ v' l' A',OSl t.int 1 v' (aJ l') A'→OwnB t { w with l1:=v' } { b with s1:={ b.s1 with lib:=l' } } (A'++R):=by
 obtain⟨Oo,A0,B0,C0,D0,A1,B1,C1,D1,Os,Oq,Oa,Obk,hp,h⟩:=h
 refine⟨A1,Oo++(A0++(B0++(C0++(D0++(B1++(C1++(D1++(Os++(Oq++(Oa++(Obk))))))))))),hp.trans (dO fun a _ _=>by simp only[List.count_append] <;> omega),h.l1,fun v' l' A' h'=>⟨Oo,A0,B0,C0,D0,A',B1,C1,D1,Os,Oq,Oa,Obk,dO fun a _ _=>by simp only[List.count_append] <;> omega,⟨h.objs,h.l0,h.h0,h.f0,h.g0,h',h.h1,h.f1,h.g1,h.stack,h.queue,h.att,h.blocks⟩⟩⟩
theorem OwnB.pick_h1 {t:Tys} {w:cI} {b:Bd} {O:Go.Sx.Own} (h:OwnB t w b O):∃ A R,O.Perm (A++R)∧OSl t.int 1 w.h1 (aJ b.s1.hand) A∧∀ v' l' A',OSl t.int 1 v' (aJ l') A'→OwnB t { w with h1:=v' } { b with s1:={ b.s1 with hand:=l' } } (A'++R):=by
 obtain⟨Oo,A0,B0,C0,D0,A1,B1,C1,D1,Os,Oq,Oa,Obk,hp,h⟩:=h
 refine⟨B1,Oo++(A0++(B0++(C0++(D0++(A1++(C1++(D1++(Os++(Oq++(Oa++(Obk))))))))))),hp.trans (dO fun a _ _=>by simp only[List.count_append] <;> omega),h.h1,fun v' l' A' h'=>⟨Oo,A0,B0,C0,D0,A1,A',C1,D1,Os,Oq,Oa,Obk,dO fun a _ _=>by simp only[List.count_append] <;> omega,⟨h.objs,h.l0,h.h0,h.f0,h.g0,h.l1,h',h.f1,h.g1,h.stack,h.queue,h.att,h.blocks⟩⟩⟩
theorem OwnB.pick_queue {t:Tys} {w:cI} {b:Bd} {O:Go.Sx.Own} (h:OwnB t w b O):∃ A R,O.Perm (A++R)∧OIts t.tg t.it w.q b.queue A∧∀ v' l' A',OIts t.tg t.it v' l' A'→OwnB t { w with q:=v' } { b with queue:=l' } (A'++R):=by
 obtain⟨Oo,A0,B0,C0,D0,A1,B1,C1,D1,Os,Oq,Oa,Obk,hp,h⟩:=h
 refine⟨Oq,Oo++(A0++(B0++(C0++(D0++(A1++(B1++(C1++(D1++(Os++(Oa++(Obk))))))))))),hp.trans (dO fun a _ _=>by simp only[List.count_append] <;> omega),h.queue,fun v' l' A' h'=>⟨Oo,A0,B0,C0,D0,A1,B1,C1,D1,Os,A',Oa,Obk,dO fun a _ _=>by simp only[List.count_append] <;> omega,⟨h.objs,h.l0,h.h0,h.f0,h.g0,h.l1,h.h1,h.f1,h.g1,h.stack,h',h.att,h.blocks⟩⟩⟩
theorem RF {t e:TypeId} (h:(match PP.underlying t with | some (.slice x)=>x == e | _=>false)=true):PP.underlying t=some (.slice e):=by
 split at h
 ·rename_i x hx;rw[hx,beq_iff_eq.1 h]
 ·cases h
theorem Vu {b:Bool} (h:(!b)=true):b=false:=by simpa using h
theorem Vv {b:Bool} (h:(!b)=false):b=true:=by simpa using h
theorem oq {H:Heap} {O:Go.Sx.Own} {v fv:Value} {rows:List (List Value)} {pr:List Value→Bool} (h:RSl H O 1 v rows) {f:FuncId} {caps:Array Value} (hf:fv=.func (.func f) #[] caps) (hok:mc PP f)
  (hp:∀ H',Heap.le H H'→∀ row ∈ rows,RetO PP f ([g row 0]++caps.toList) H' O (.bool (pr row))):RetO PP f4 [v,fv] H O (iV (mJ pr rows 0)):=by
 subst hf
 refine jM (vs:=[v,.func (.func f) #[] caps]) (by kernel_rfl) ⟨h.one,rfl,trivial⟩ ?_
 simp only[fZ]
 have hB:=h.lenB
 refine ab _ h.len ?_
 refine aY rows.length (fun i H' O'=>O'=O∧Heap.le H H'∧mJ pr rows 0=mJ pr (rows.drop i) i) ⟨rfl,Heap.le_refl H,by simp⟩ ?_
 rintro i H' O' hi - ⟨rfl,hle,hor⟩
 refine ab _ (aG _ _) (aj (fun hb=>?_) (fun hb=>?_))
 ·have hlt:i < rows.length:=by simpa using hb
  obtain⟨a,h1,h2,_,h3,h4⟩:=(h.le hle).idx .i64 i rows[i] (List.getElem?_eq_getElem hlt)
  refine ab _ h1 (aA h2 h3 h4 ?_)
  refine dU rfl hok (hp H' hle rows[i] (List.getElem_mem hlt)) rfl ⟨rfl,trivial⟩ fun H2 hle2=>aj (fun hb=>?_) (fun hb=>?_)
  ·refine af ⟨?_,rfl⟩
   have hb:pr rows[i]=true:=hb
   rw[hor,List.drop_eq_getElem_cons hlt,mJ,if_pos hb];rfl
  ·have hb:pr rows[i]=false:=hb
   refine ab _ (aD (by omega)) (aN (by simp[Eqs]) hlt ⟨rfl,Heap.le_trans hle hle2,?_⟩)
   rw[hor,List.drop_eq_getElem_cons hlt,mJ,if_neg (by rw[hb];simp)];rfl
 ·have hge:rows.length≤i:=by simpa using hb
  refine af ⟨?_,rfl⟩
  rw[hor,List.drop_of_length_le hge];rfl
theorem OC:∀ w,(zeroValue aQ).run PP w=.ok (iV 0) w:=by
 intro w
 have:(PP.info? aQ).bind (·.zero)=some (iV 0):=by kernel_rfl
 simp only[Option.bind_eq_some_iff] at this
 obtain⟨i,hi,hz⟩:=this
 simp[zeroValue,typeInfo,hi,hz]
theorem mM {H:Heap} {B A:Go.Sx.Own} {v fv:Value} {rows:List (List Value)} {pr:List Value→Bool} (h:OSl aQ 1 v rows A) {f:FuncId} {caps:Array Value} (hf:fv=.func (.func f) #[] caps) (hok:mc PP f)
  (hp:∀ H',Heap.le H H'→∀ row ∈ rows,RetO PP f ([g row 0]++caps.toList) H' B (.bool (pr row))) :
  Triple PP fL [v,fv] H (B++A) fun v' _ O'=>∃ A',O'=B++A'∧OSl aQ 1 v' (rows.filter fun r=>!pr r) A':=by
 subst hf
 have hR:=h.rsl (O:=B++A) (fun p hp=>List.mem_append_right _ hp) H
 have hB:=h.lenB
 refine jp (vs:=[v,.func (.func f) #[] caps]) (by kernel_rfl) ⟨h.one,rfl,trivial⟩ ?_
 simp only[fJ]
 refine am (oq hR rfl hok fun H' hl row hr=>(hp H' hl row hr).frame A) rfl ⟨rfl,trivial⟩ fun H1 l1=>ab _ (aw _ _) (aj (fun hb=>?_) (fun hb=>?_))
 ·have e:mJ pr rows 0=-1:=by simpa using hb
  rcases vx pr rows 0 (by omega) with ⟨_,hn⟩ | ⟨k,x,_,_,_,e2⟩
  ·exact af ⟨A,rfl,by rw[zH hn];exact h⟩
  ·omega
 rcases vx pr rows 0 (by omega) with ⟨e,_⟩ | ⟨k,x,e1,e2,e3,e4⟩
 ·rw[e] at hb;simp at hb
 have e4:mJ pr rows 0=(k:Int):=by omega
 have hklt:k < rows.length:=(List.getElem?_eq_some_iff.1 e1).1
 rw[e4]
 refine ab _ (aD (by omega)) ?_
 refine dG (fun vs H' O'=>∃ (i j:Nat) (rows':List (List Value)) (A':Go.Sx.Own),vs=[iV i,iV j]∧i < j∧j≤rows.length∧O'.Perm (B++A')∧Heap.le H1 H'∧OSl aQ 1 v rows' A'∧rows'.length=rows.length∧rows'.take i=((rows.take j).filter fun r=>!pr r)∧rows'.drop j=rows.drop j)
  (fun vs _ _=>match g vs 1 with | .int _ n=>rows.length - n.toNat | _=>0) ⟨k,k + 1,rows,A,rfl,by omega,by omega,List.Perm.refl _,Heap.le_refl _,h,rfl,?_,rfl⟩ ?_
 ·rw[List.take_add_one,e1,List.filter_append,zH e3]
  simp[e2]
 rintro vs H' O' - - - ⟨i,j,rows',A',rfl,hij,hj,hp',hle,hA,hl',ht,hd⟩
 have hlen:=hA.len
 rw[hl'] at hlen
 have hp2:O'.Perm (A'++B):=hp'.trans List.perm_append_comm
 refine ab _ hlen (ab _ (aG _ _) (aj (fun hb=>?_) (fun hb=>?_)))
 ·have hlt:j < rows.length:=by simpa using hb
  have hrj:rows'[j]?=some rows[j]:=by
   have:=congrArg (fun l=>l[0]?) hd
   simp only[List.getElem?_drop,Nat.add_zero] at this
   rw[this,List.getElem?_eq_getElem hlt]
  have ro:=hA.rows_ok hrj
  obtain⟨a,k1,_,k2,_⟩:=hA.idx (fun p h=>hp'.mem_iff.2 (List.mem_append_right _ h)) H' (k:=.i64) hrj
  have htj:(rows.take (j + 1)).filter (fun r=>!pr r)=((rows.take j).filter fun r=>!pr r)++(if pr rows[j] then [] else [rows[j]]):=by
   rw[List.take_add_one,List.getElem?_eq_getElem hlt,List.filter_append]
   cases hpr:pr rows[j] <;> simp[hpr]
  refine ab _ k1 (aA k2 ro.1 ro.2 ?_)
  refine dU rfl hok (((hp H' (Heap.le_trans l1 hle) _ (List.getElem_mem hlt)).frame A').perm hp'.symm) rfl ⟨rfl,trivial⟩ fun H2 l2=>ab _ (aC _) (aj (fun hc=>?_) (fun hc=>?_))
  ·have hc:pr rows[j]=false:=Vu hc
   have hri:rows'[i]?=some rows'[i]:=List.getElem?_eq_getElem (by omega)
   have ri:=hA.rows_ok hri
   obtain⟨a2,j1,j2⟩:=hA.store hp2 (k:=.i64) hri
   have hy:[g rows[j] 0]=rows[j]:=QQ ro.1
   obtain⟨A2,hst,hA2⟩:=j2 0 [g rows[j] 0] (by rw[hy,ro.1];simp) (by rw[hy];exact ro.2)
   rw[V7] at hst
   rw[hy,JM (by rw[ri.1,ro.1])] at hA2
   refine ab _ j1 ?_
   refine ak rfl ?_
   refine⟨_,hst,?_⟩
   refine ab _ (aD (by omega)) (ab _ (aD (by omega)) (cU (by simp[Eqs]) ⟨i + 1,j + 1,rows'.set i rows[j],A2,rfl,by omega,by omega,List.perm_append_comm,Heap.le_trans hle l2,hA2,by simp[hl'],?_,?_⟩ ?_))
   ·rw[htj,hc,← ht,List.take_add_one,List.getElem?_set_self (by omega),List.take_set,List.set_eq_of_length_le (by rw[List.length_take];omega)]
    simp
   ·rw[List.drop_set_of_lt (by omega)]
    have:=congrArg (fun l=>l.drop 1) hd
    simpa [List.drop_drop] using this
   ·show rows.length - ((j + 1:Nat):Int).toNat < rows.length - ((j:Nat):Int).toNat
    omega
  ·have hc:pr rows[j]=true:=Vv hc
   refine ab _ (aD (by omega)) (cU (by simp[Eqs]) ⟨i,j + 1,rows',A',rfl,by omega,by omega,hp',Heap.le_trans hle l2,hA,hl',?_,?_⟩ ?_)
   ·rw[htj,hc,ht];simp
   ·have:=congrArg (fun l=>l.drop 1) hd
    simpa [List.drop_drop] using this
   ·show rows.length - ((j + 1:Nat):Int).toNat < rows.length - ((j:Nat):Int).toNat
    omega
 ·have hje:j=rows.length:=by
   have:¬ ((j:Int) < (rows.length:Int)):=of_decide_eq_false hb
   omega
  rw[hje,List.take_length] at ht
  obtain⟨u,c1,c2⟩:=KI (P:=PP) (t:=25) (ty:=0) (e:=aQ) (RF (by kernel_rfl)) OC rfl (by simp[Value.cells,Value.oneCell']) hA hp2 (i:=i) (by omega)
  refine ab _ c1 (c2 H' _ fun rows2 A2 f1 f2 hA2=>?_)
  obtain⟨u2,d1,hu⟩:=hA2.upto (i:=i) (by omega)
  refine ab _ d1 (FB List.perm_append_comm ⟨A2,rfl,?_⟩)
  rw[f1,ht] at hu
  exact hu
def Uc (o:Ob):Ob:={ o with dmg:=0,pp:=0,pt:=0 }
theorem UP (o:Ob) (H:Heap) (O:Go.Sx.Own):RetO PP nW [.agg o.row.toArray] H O (.agg (Uc o).row.toArray):=by
 refine yL (vs:=o.row) (by kernel_rfl) (ga o) ?_
 simp only[uv]
 refine ah fun r0=>ah fun r1=>?_
 repeat (first | refine ae ?_ | refine ai ?_)
 exact af ⟨rfl,rfl⟩
theorem N3 (o:Ob) (z:Int) (H:Heap) (O:Go.Sx.Own):RetO PP rW [.agg o.row.toArray,iV z] H O (.agg (my o z).row.toArray):=by
 refine xO (vs:=o.row++[iV z]) (by kernel_rfl) (aK (ga o) ⟨rfl,trivial⟩) ?_
 simp only[rD]
 refine ah fun r0=>ah fun r1=>?_
 refine ae ?_
 refine am (UP o H O) rfl (vs:=(Uc o).row) (ga _) fun H1 l1=>ah fun r2=>?_
 refine ae ?_
 refine ab _ (aw _ _) ?_
 repeat (first | refine ae ?_ | refine ai ?_)
 exact af ⟨rfl,rfl⟩
end Go.Proofs.YteakpllehopodaaGreatDoor
