/- Small functions: numbers, slices of ints, function values over slices. -/
import Derived.Test.YtdhobpmnkfmcfaaGreatDoorBT6
import Derived.Test.YtdhobpmnkfmcfaaGreatDoorFw2
import Derived.Test.YtdhobpmnkfmcfaaGreatDoorFw2
import Derived.Test.YtdhobpmnkfmcfaaGreatDoorFw2
namespace Go.Proofs.YtdhobpmnkfmcfaaGreatDoor
open Go Go.Sx
set_option maxRecDepth 100000
set_option maxHeartbeats 1000000
abbrev I (n:Int):Value:=.int .i64 n
theorem dp (a lo hi:Int) (H:Heap) (O:Own):RetO PP wl [I a,I lo,I hi] H O (.bool (decide (lo≤a∧a≤hi))):=by
 refine Bg (vs:=[I a,I lo,I hi]) (by kernel_rfl) ⟨rfl,rfl,rfl,trivial⟩ ?_
 unfold vV
 refine ab _ (cI _ _) (ae (ae (ab _ (eR _ _) (ae (ab _ (aT _ _) (ah ⟨?_,rfl⟩))))))
 simp[Bool.decide_and]
def lh:List Int→Int→Int→Int
 | [],_,_=>-1
 | a::r,x,i=>if x == a then i else lh r x (i + 1)
theorem GM:∀ (l:List Int) (x i:Int),0≤i→(decide (0≤lh l x i)=l.contains x)
 | [],x,i,_=>by simp[lh]
 | a::r,x,i,h=>by
  simp only[lh,List.contains_cons]
  by_cases hx:x=a
  ·simp[hx,h]
  ·simp only[beq_iff_eq,hx,if_false]
   rw[GM r x (i + 1) (by omega)]
   simp[hx]
theorem fN {H:Heap} {O:Own} {v:Value} {l:List Int} (h:RSl H O 1 v (l.map fun n=>[I n])) (x:Int):RetO PP kK [v,I x] H O (I (lh l x 0)):=by
 refine qj (vs:=[v,I x]) (by kernel_rfl) ⟨h.one,rfl,trivial⟩ ?_
 simp only[ku]
 refine ab _ h.len ?_
 refine aQ l.length (fun i H' O'=>O'=O∧Heap.le H H'∧lh l x 0=lh (l.drop i) x i) ⟨rfl,Heap.le_refl H,by simp⟩ ?_
 rintro i H' O' hi - ⟨rfl,hle,hor⟩
 refine ab _ (aB _ _) (ai (fun hb=>?_) (fun hb=>?_))
 ·have hlt:i < l.length:=by simpa using hb
  obtain⟨a,h1,h2,_,h3,h4⟩:=(h.le hle).idx .i64 i [I l[i]] (by simp[hlt])
  refine ab _ h1 (ap h2 h3 h4 (ab _ (ay _ _) (ai (fun hb=>?_) (fun hb=>?_))))
  ·refine ah ⟨?_,rfl⟩
   rw[hor,List.drop_eq_getElem_cons hlt,lh,if_pos hb];rfl
  ·refine ab _ (az (by have:=h.lenB;simp at this;omega)) (aI (by simp[Eqs]) hlt ⟨rfl,hle,?_⟩)
   rw[hor,List.drop_eq_getElem_cons hlt,lh,if_neg (by rw[hb];simp)];rfl
 ·have hge:l.length≤i:=by simpa using hb
  refine ah ⟨?_,rfl⟩
  rw[hor,List.drop_of_length_le hge];rfl
theorem fh {H:Heap} {O:Own} {v:Value} {l:List Int} (h:RSl H O 1 v (l.map fun n=>[I n])) (x:Int):RetO PP cw [v,I x] H O (.bool (l.contains x)):=by
 refine nH (vs:=[v,I x]) (by kernel_rfl) ⟨h.one,rfl,trivial⟩ ?_
 simp only[iM]
 refine aj (fN h x) rfl ⟨rfl,trivial⟩ fun H1 _=>ab _ (cI _ _) (ah ⟨?_,rfl⟩)
 rw[← GM l x 0 (by omega)]
theorem fO {H:Heap} {v:Value} {l:List (List Value)} (h:Sl H 1 v l) (hb:l.length≤2 ^ 40):Triple PP kL [v] H [] fun v' H' O'=>OSl aK 1 v' l O':=by
 refine qk (vs:=[v]) (by kernel_rfl) ⟨h.one,trivial⟩ ?_
 simp only[kw]
 obtain⟨a,cap,rfl,h1,h2,h3⟩:=h
 have hev:ak (.bin .eql .slice) [.slice a l.length cap,.slice none 0 0]=some (.bool a.isNone):=by cases a <;> rfl
 refine ab _ hev (ai (fun hn=>ah ?_) (fun hn=>fun r0=>?_))
 ·have hl:l=[]:=by
   by_cases hl:l=[]
   ·exact hl
   ·obtain⟨ad,rfl,_⟩:=h3 hl;cases hn
  subst hl
  exact OSl.nil aK 1
 ·refine aC (rows:=[]) (news:=l) (O1:=[]) (O2:=[]) (e:=aK) (size:=1) (bytes:=8) (by kernel_rfl) (List.Perm.refl _) (.inl ⟨⟨_,rfl⟩,rfl,rfl⟩) (fun Hf hl _=>Sl.le hl ⟨a,cap,rfl,h1,h2,h3⟩) (by simp;omega) (by simp;omega) ?_
  intro v' O1' H' _ ho
  refine ah ?_
  rw[List.append_nil]
  exact ho
end Go.Proofs.YtdhobpmnkfmcfaaGreatDoor
namespace Go.Sx
open Go
abbrev iV (n:Int):Value:=.int .i64 n
def aE (l:List Int):List (List Value):=l.map fun n=>[iV n]
structure Ob where
 (id card owner power tough dmg cnt pp pt:Int)
 (tap sick doom:Bool)
deriving DecidableEq
def Ob.row (o:Ob):List Value:=[iV o.id,iV o.card,iV o.owner,iV o.power,iV o.tough,iV o.dmg,iV o.cnt,iV o.pp,iV o.pt,.bool o.tap,.bool o.sick,.bool o.doom]
structure Tg where
 (id player:Int)
deriving DecidableEq
def Tg.row (t:Tg):List Value:=[iV t.id,iV t.player]
structure It where
 (player id card trig:Int)
 tgs:List Tg
deriving DecidableEq
structure Bl where
 (blocker attacker:Int)
deriving DecidableEq
def Bl.row (b:Bl):List Value:=[iV b.blocker,iV b.attacker]
structure St where
 (life p0 p1 p2 p3:Int)
 (lib hand field grave:List Int)
 (empty played kept:Bool)
 (mull acts:Int)
deriving DecidableEq
structure Bd where
 objs:List Ob
 (s0 s1:St)
 (stack queue:List It)
 att:List Int
 blocks:List Bl
 (turn active phase holder passes:Int)
deriving DecidableEq
def ItR (H:Heap) (O:Own) (row:List Value) (x:It):Prop:=∃ s,row=[iV x.player,iV x.id,iV x.card,iV x.trig,s]∧RSl H O 2 s (x.tgs.map Tg.row)
def ItsR (H:Heap) (O:Own) (v:Value) (l:List It):Prop:=∃ rows,RSl H O 5 v rows∧rows.length=l.length∧∀ (i:Nat) (r:List Value) (x:It),rows[i]?=some r→l[i]?=some x→ItR H O r x
structure StR (H:Heap) (O:Own) (vl vh vf vg:Value) (s:St):Prop where
 lib:RSl H O 1 vl (aE s.lib)
 hand:RSl H O 1 vh (aE s.hand)
 field:RSl H O 1 vf (aE s.field)
 grave:RSl H O 1 vg (aE s.grave)
def Rq (vl vh vf vg:Value) (s:St):List Value:=[iV s.life,iV s.p0,iV s.p1,iV s.p2,iV s.p3,vl,vh,vf,vg,.bool s.empty,.bool s.played,.bool s.kept,iV s.mull,iV s.acts]
structure cn where
 (o l0 h0 f0 g0 l1 h1 f1 g1 s q a b:Value)
def al (v:cn) (b:Bd):List Value :=
  [v.o,iV b.s0.life,iV b.s0.p0,iV b.s0.p1,iV b.s0.p2,iV b.s0.p3,v.l0,v.h0,v.f0,v.g0,.bool b.s0.empty,.bool b.s0.played,.bool b.s0.kept,iV b.s0.mull,iV b.s0.acts,
   iV b.s1.life,iV b.s1.p0,iV b.s1.p1,iV b.s1.p2,iV b.s1.p3,v.l1,v.h1,v.f1,v.g1,.bool b.s1.empty,.bool b.s1.played,.bool b.s1.kept,iV b.s1.mull,iV b.s1.acts,
   v.s,v.q,v.a,v.b,iV b.turn,iV b.active,iV b.phase,iV b.holder,iV b.passes]
structure BdR (H:Heap) (O:Own) (v:cn) (b:Bd):Prop where
 objs:RSl H O 12 v.o (b.objs.map Ob.row)
 s0:StR H O v.l0 v.h0 v.f0 v.g0 b.s0
 s1:StR H O v.l1 v.h1 v.f1 v.g1 b.s1
 stack:ItsR H O v.s b.stack
 queue:ItsR H O v.q b.queue
 att:RSl H O 1 v.a (aE b.att)
 blocks:RSl H O 2 v.b (b.blocks.map Bl.row)
theorem ItR.le {H H':Heap} {O:Own} {row:List Value} {x:It} (h:ItR H O row x) (hl:Heap.le H H'):ItR H' O row x:=let ⟨s,h1,h2⟩:=h;⟨s,h1,h2.le hl⟩
theorem ItsR.le {H H':Heap} {O:Own} {v:Value} {l:List It} (h:ItsR H O v l) (hl:Heap.le H H'):ItsR H' O v l :=
 let ⟨rows,h1,h2,h3⟩:=h;⟨rows,h1.le hl,h2,fun i r x a b=>(h3 i r x a b).le hl⟩
theorem StR.le {H H':Heap} {O:Own} {vl vh vf vg:Value} {s:St} (h:StR H O vl vh vf vg s) (hl:Heap.le H H'):StR H' O vl vh vf vg s:=⟨h.lib.le hl,h.hand.le hl,h.field.le hl,h.grave.le hl⟩
theorem BdR.le {H H':Heap} {O:Own} {v:cn} {b:Bd} (h:BdR H O v b) (hl:Heap.le H H'):BdR H' O v b :=
 ⟨h.objs.le hl,h.s0.le hl,h.s1.le hl,h.stack.le hl,h.queue.le hl,h.att.le hl,h.blocks.le hl⟩
def au (a lo hi:Int):Bool:=decide (lo≤a∧a≤hi)
def jM (t:Tg):Bool:=au t.id 0 500 && (au t.player 0 1 && (t.id == 0 || t.player == 0))
def cQ (x:It) (q:Bool):Bool :=
 au x.player 0 1 && (au x.id 1 500 && (au x.card 0 399 && (au x.trig (-1) 1 && (!(decide ((x.tgs.length:Int) > 4) || (decide (x.trig ≥ 0) && decide ((x.tgs.length:Int) > 0)) || (q && decide (x.trig < 0))) && !x.tgs.any (fun t=>!jM t)))))
def gm {α:Type} (p:α→Bool):List α→Int→Int
 | [],_=>-1
 | a::r,i=>if p a then i else gm p r (i + 1)
theorem zz {α:Type} (p:α→Bool):∀ (l:List α) (i:Int),0≤i→decide (0≤gm p l i)=l.any p
 | [],i,_=>by simp[gm]
 | a::r,i,h=>by
  simp only[gm,List.any_cons]
  by_cases hx:p a
  ·simp[hx,h]
  ·simp only[hx,Bool.false_eq_true,if_false,Bool.false_or]
   exact zz p r (i + 1) (by omega)
end Go.Sx
namespace Go.Proofs.YtdhobpmnkfmcfaaGreatDoor
open Go Go.Sx
set_option maxRecDepth 100000
set_option maxHeartbeats 1000000
theorem Vd (t:Tg) (H:Heap) (O:Own):RetO PP yV [.agg #[iV t.id,iV t.player]] H O (.bool (jM t)):=by
 refine CB (vs:=[iV t.id,iV t.player]) (by kernel_rfl) ⟨rfl,rfl,trivial⟩ ?_
 simp only[yI]
 refine fun r0=>aa (aj (dp t.id 0 500 H O) rfl ⟨rfl,trivial⟩ fun H1 _=>ai (fun hb=>aa ?_) (fun hb=>ah ⟨?_,rfl⟩))
 ·refine aj (dp t.player 0 1 H1 O) rfl ⟨rfl,trivial⟩ fun H2 _=>?_
  refine aa (ae (ae (ab _ (ay _ _) (ae (aa (ae (ae (ae (ae (ab _ (ay _ _) (ae (ae (ae (ab _ (aR _ _) (ae (ab _ (aT _ _) ?_))))))))))))))))
  refine ah ⟨?_,rfl⟩
  simp only[jM,au,hb,Bool.true_and]
 ·simp only[jM,au,hb,Bool.false_and]
theorem SO (t:Tg) (H:Heap) (O:Own):RetO PP wn [.agg #[iV t.id,iV t.player]] H O (.bool (!jM t)):=by
 refine Bi (vs:=[iV t.id,iV t.player]) (by kernel_rfl) ⟨rfl,rfl,trivial⟩ ?_
 simp only[vX]
 exact fun r0=>aa (aj (Vd t H O) rfl ⟨rfl,trivial⟩ fun H1 _=>ab _ (aJ _) (ah ⟨rfl,rfl⟩))
theorem yn {H:Heap} {O:Own} {v fv:Value} {l:List Tg} {p:Tg→Bool} (h:RSl H O 2 v (l.map Tg.row)) {f:FuncId} (hf:fv=.func (.func f) #[] #[]) (hok:vA PP f)
  (hp:∀ H',Heap.le H H'→∀ t,RetO PP f [.agg #[iV t.id,iV t.player]] H' O (.bool (p t))):RetO PP dk [v,fv] H O (iV (gm p l 0)):=by
 subst hf
 refine fV (vs:=[v,.func (.func f) #[] #[]]) (by kernel_rfl) ⟨h.one,rfl,trivial⟩ ?_
 simp only[di]
 refine ab _ h.len ?_
 rw[List.length_map]
 refine aQ l.length (fun i H' O'=>O'=O∧Heap.le H H'∧gm p l 0=gm p (l.drop i) i) ⟨rfl,Heap.le_refl H,by simp⟩ ?_
 rintro i H' O' hi - ⟨rfl,hle,hor⟩
 refine ab _ (aB _ _) (ai (fun hb=>?_) (fun hb=>?_))
 ·have hlt:i < l.length:=by simpa using hb
  obtain⟨a,h1,h2,_,h3,h4⟩:=(h.le hle).idx .i64 i (Tg.row l[i]) (by simp[hlt])
  refine ab _ h1 (ap h2 h3 h4 (hJ rfl hok (hp H' hle l[i]) rfl ⟨rfl,trivial⟩ fun H2 hle2=>ai (fun hb=>?_) (fun hb=>?_)))
  ·refine ah ⟨?_,rfl⟩
   rw[hor,List.drop_eq_getElem_cons hlt,gm,if_pos hb];rfl
  ·refine ab _ (az (by have:=h.lenB;simp at this;omega)) (aI (by simp[Eqs,E]) hlt ⟨rfl,Heap.le_trans hle hle2,?_⟩)
   rw[hor,List.drop_eq_getElem_cons hlt,gm,if_neg (by rw[hb];simp)];rfl
 ·have hge:l.length≤i:=by simpa using hb
  refine ah ⟨?_,rfl⟩
  rw[hor,List.drop_of_length_le hge];rfl
theorem uv {H:Heap} {O:Own} {v fv:Value} {l:List Tg} {p:Tg→Bool} (h:RSl H O 2 v (l.map Tg.row)) {f:FuncId} (hf:fv=.func (.func f) #[] #[]) (hok:vA PP f)
  (hp:∀ H',Heap.le H H'→∀ t,RetO PP f [.agg #[iV t.id,iV t.player]] H' O (.bool (p t))):RetO PP cO [v,fv] H O (.bool (l.any p)):=by
 have hone:fv.oneCell'=true:=by subst hf;rfl
 refine fw (vs:=[v,fv]) (by kernel_rfl) ⟨h.one,hone,trivial⟩ ?_
 simp only[cM]
 refine aj (yn h hf hok hp) rfl ⟨rfl,trivial⟩ fun H1 _=>ab _ (cI _ _) (ah ⟨?_,rfl⟩)
 rw[← zz p l 0 (by omega)]
theorem TL {H:Heap} {O:Own} {row:List Value} {x:It} (h:ItR H O row x) (q:Bool):RetO PP AS [.agg row.toArray,.bool q] H O (.bool (cQ x q)):=by
 obtain⟨s,rfl,hs⟩:=h
 refine EF (vs:=[iV x.player,iV x.id,iV x.card,iV x.trig,s,.bool q]) (by kernel_rfl) ⟨rfl,rfl,rfl,rfl,hs.one,rfl,trivial⟩ ?_
 simp only[AH]
 have hlen:ak .len [s]=some (iV x.tgs.length):=by have:=hs.len;rwa [List.length_map] at this
 refine fun r0=>aa (aj (dp x.player 0 1 H O) rfl ⟨rfl,trivial⟩ fun H1 l1=>ai (fun h1=>aa ?_) (fun h1=>ah ⟨by simp only[cQ,au,h1,Bool.false_and],rfl⟩))
 refine aj (dp x.id 1 500 H1 O) rfl ⟨rfl,trivial⟩ fun H2 l2=>ai (fun h2=>aa ?_) (fun h2=>ah ⟨by simp only[cQ,au,h1,h2,Bool.false_and,Bool.true_and],rfl⟩)
 refine aj (dp x.card 0 399 H2 O) rfl ⟨rfl,trivial⟩ fun H3 l3=>ai (fun h3=>aa ?_) (fun h3=>ah ⟨by simp only[cQ,au,h1,h2,h3,Bool.false_and,Bool.true_and],rfl⟩)
 refine aj (dp x.trig (-1) 1 H3 O) rfl ⟨rfl,trivial⟩ fun H4 l4=>?_
 repeat (first | refine aa ?_ | refine ae ?_ | refine ab _ hlen ?_ | refine ab _ (aB _ _) ?_ | refine ab _ (bK _ _) ?_ | refine ab _ (cI _ _) ?_ | refine ab _ (aT _ _) ?_ | refine ab _ (aR _ _) ?_ | refine ab _ (aJ _) ?_)
 have hle:=Heap.le_trans (Heap.le_trans (Heap.le_trans l1 l2) l3) l4
 have hfb:cQ x q=(!(!decide (-1≤x.trig∧x.trig≤1) || decide ((x.tgs.length:Int) > 4) || (decide (x.trig ≥ 0) && decide ((x.tgs.length:Int) > 0)) || (q && decide (x.trig < 0))) && !x.tgs.any (fun t=>!jM t)):=by
  simp only[cQ,au,h1,h2,h3,Bool.true_and]
  cases decide (-1≤x.trig∧x.trig≤1) <;> simp
 refine ai (fun hb=>ah ⟨?_,rfl⟩) (fun hb=>aa ?_)
 ·rw[hfb,hb];simp
 ·refine aj (uv (p:=fun t=>!jM t) (hs.le hle) rfl (iW lT (by decide)) fun H' _ t=>SO t H' O) rfl ⟨rfl,trivial⟩ fun H5 _=>ab _ (aJ _) (ah ⟨?_,rfl⟩)
  rw[hfb,hb];simp
theorem rS {H:Heap} {O:Own} {v fv:Value} {l:List It} {p:It→Bool} (h:ItsR H O v l) {f:FuncId} {caps:Array Value} (hf:fv=.func (.func f) #[] caps) (hok:vA PP f)
  (hp:∀ H',Heap.le H H'→∀ row x,ItR H' O row x→RetO PP f ([.agg row.toArray]++caps.toList) H' O (.bool (p x))):RetO PP cu [v,fv] H O (iV (gm p l 0)):=by
 subst hf
 obtain⟨rows,hr,hlen,hit⟩:=h
 refine dC (vs:=[v,.func (.func f) #[] caps]) (by kernel_rfl) ⟨hr.one,rfl,trivial⟩ ?_
 simp only[ct]
 refine ab _ hr.len ?_
 rw[hlen]
 refine aQ l.length (fun i H' O'=>O'=O∧Heap.le H H'∧gm p l 0=gm p (l.drop i) i) ⟨rfl,Heap.le_refl H,by simp⟩ ?_
 rintro i H' O' hi - ⟨rfl,hle,hor⟩
 refine ab _ (aB _ _) (ai (fun hb=>?_) (fun hb=>?_))
 ·have hlt:i < l.length:=by simpa using hb
  have hlt':i < rows.length:=by omega
  obtain⟨a,h1,h2,_,h3,h4⟩:=(hr.le hle).idx .i64 i rows[i] (by simp[hlt'])
  have hx:=(hit i rows[i] l[i] (by simp[hlt']) (by simp[hlt])).le hle
  have hx':=hx
  obtain⟨s,hrow,hs⟩:=hx
  have hcall:=hp H' hle rows[i] l[i] hx'
  rw[hrow] at h2 h3 h4 hcall
  refine ab _ h1 (ap h2 h3 h4 (hJ rfl hok hcall rfl ⟨rfl,trivial⟩ fun H2 hle2=>ai (fun hb=>?_) (fun hb=>?_)))
  ·refine ah ⟨?_,rfl⟩
   rw[hor,List.drop_eq_getElem_cons hlt,gm,if_pos hb];rfl
  ·refine ab _ (az (by have:=hr.lenB;omega)) (aI (by simp[Eqs,E]) hlt ⟨rfl,Heap.le_trans hle hle2,?_⟩)
   rw[hor,List.drop_eq_getElem_cons hlt,gm,if_neg (by rw[hb];simp)];rfl
 ·have hge:l.length≤i:=by simpa using hb
  refine ah ⟨?_,rfl⟩
  rw[hor,List.drop_of_length_le hge];rfl
theorem ItsR.one {H:Heap} {O:Own} {v:Value} {l:List It} (h:ItsR H O v l):v.oneCell'=true:=by
 obtain⟨_,h,_⟩:=h
 exact h.one
theorem ItsR.len {H:Heap} {O:Own} {v:Value} {l:List It} (h:ItsR H O v l):ak .len [v]=some (iV l.length):=by
 obtain⟨rows,h1,h2,_⟩:=h
 rw[h1.len,h2]
theorem nY {H:Heap} {O:Own} {v fv:Value} {l:List It} {p:It→Bool} (h:ItsR H O v l) {f:FuncId} {caps:Array Value} (hf:fv=.func (.func f) #[] caps) (hok:vA PP f)
  (hp:∀ H',Heap.le H H'→∀ row x,ItR H' O row x→RetO PP f ([.agg row.toArray]++caps.toList) H' O (.bool (p x))):RetO PP dB [v,fv] H O (.bool (l.any p)):=by
 have hone:fv.oneCell'=true:=by subst hf;rfl
 refine gi (vs:=[v,fv]) (by kernel_rfl) ⟨ItsR.one h,hone,trivial⟩ ?_
 simp only[dz]
 refine aj (rS h hf hok hp) rfl ⟨rfl,trivial⟩ fun H1 _=>ab _ (cI _ _) (ah ⟨?_,rfl⟩)
 rw[← zz p l 0 (by omega)]
theorem QH {H:Heap} {O:Own} {row:List Value} {x:It} (h:ItR H O row x):RetO PP uT [.agg row.toArray] H O (.bool (!cQ x false)):=by
 have hf:=TL h false
 obtain⟨s,rfl,hs⟩:=h
 refine zi (vs:=[iV x.player,iV x.id,iV x.card,iV x.trig,s]) (by kernel_rfl) ⟨rfl,rfl,rfl,rfl,hs.one,trivial⟩ ?_
 simp only[uG]
 exact fun r0=>aa (aj hf rfl ⟨rfl,trivial⟩ fun H1 _=>ab _ (aJ _) (ah ⟨rfl,rfl⟩))
theorem QG {H:Heap} {O:Own} {row:List Value} {x:It} (h:ItR H O row x):RetO PP uS [.agg row.toArray] H O (.bool (!cQ x true)):=by
 have hf:=TL h true
 obtain⟨s,rfl,hs⟩:=h
 refine zh (vs:=[iV x.player,iV x.id,iV x.card,iV x.trig,s]) (by kernel_rfl) ⟨rfl,rfl,rfl,rfl,hs.one,trivial⟩ ?_
 simp only[uF]
 exact fun r0=>aa (aj hf rfl ⟨rfl,trivial⟩ fun H1 _=>ab _ (aJ _) (ah ⟨rfl,rfl⟩))
theorem QP {l:List Value} {i:Nat} {v:Value} (h:l[i]?=some v):ak .aidx (iV i::l)=some v:=by
 have hlt:=(List.getElem?_eq_some_iff.1 h).1
 simp only[ak,ve]
 rw[if_pos ⟨by omega,by omega⟩]
 simpa using h
theorem GZ (a b c d m:Int) (H:Heap) (O:Own):RetO PP yR [.agg #[iV a,iV b,iV c,iV d],iV m] H O (.bool ([a,b,c,d].all fun n=>au n 0 m)):=by
 refine B7 (vs:=[iV a,iV b,iV c,iV d,iV m]) (by kernel_rfl) ⟨rfl,rfl,rfl,rfl,rfl,trivial⟩ ?_
 simp only[yB]
 refine fun r0=>aa (aQ 4 (fun i H' O'=>O'=O∧([a,b,c,d].all fun n=>au n 0 m)=(([a,b,c,d].drop i).all fun n=>au n 0 m)) ⟨rfl,rfl⟩ ?_)
 rintro i H' O' hi - ⟨rfl,hor⟩
 refine ab _ (aB _ _) (ai (fun hb=>?_) (fun hb=>?_))
 ·have hlt:i < 4:=by have:=of_decide_eq_true hb;omega
  have hlt':i < [a,b,c,d].length:=hlt
  have hv:[iV a,iV b,iV c,iV d][i]?=some (iV [a,b,c,d][i]):=by
   have:[iV a,iV b,iV c,iV d]=[a,b,c,d].map iV:=rfl
   rw[this,List.getElem?_map,List.getElem?_eq_getElem hlt'];rfl
  refine ab _ (QP hv) (ab _ (aB _ _) (ae (ae (ab _ (bK _ _) (ae (ab _ (aR _ _) (ai (fun hb=>ah ⟨?_,rfl⟩) (fun hb=>ab _ (az (by omega)) (aI (by simp[Eqs,E]) hlt ⟨rfl,?_⟩)))))))))
  ·rw[hor,List.drop_eq_getElem_cons hlt',List.all_cons]
   have:au [a,b,c,d][i] 0 m=false:=by simp[au] at hb ⊢;omega
   rw[this];rfl
  ·rw[hor,List.drop_eq_getElem_cons hlt',List.all_cons]
   have:au [a,b,c,d][i] 0 m=true:=by simp[au] at hb ⊢;omega
   rw[this];rfl
 ·have:i=4:=by have:=of_decide_eq_false hb;omega
  subst this
  exact ah ⟨by rw[hor];rfl,rfl⟩
theorem AC (a b c d:Int) (H:Heap) (O:Own):RetO PP AQ [.agg #[iV a,iV b,iV c,iV d]] H O (.bool ([a,b,c,d].all fun n=>au n 0 99)):=by
 refine EE (vs:=[iV a,iV b,iV c,iV d]) (by kernel_rfl) ⟨rfl,rfl,rfl,rfl,trivial⟩ ?_
 simp only[AG]
 exact fun r0=>aa (aj (GZ a b c d 99 H O) rfl ⟨rfl,trivial⟩ fun H1 _=>ah ⟨rfl,rfl⟩)
def aW (o:Ob):Bool:=([o.power,o.tough,o.dmg,o.cnt,o.pp,o.pt].all fun n=>au n 0 99) &&
 ((((((o.card == -1) || ((o.power == 0) && (o.tough == 0))) && decide (o.id ≥ 1)) && decide (o.id≤500)) && decide (o.card ≥ -1)) && decide (o.card < 400)) && ((o.owner == 0) || (o.owner == 1))
theorem vM (o:Ob) (H:Heap) (O:Own):RetO PP wh [.agg o.row.toArray] H O (.bool (aW o)):=by
 refine AZ (vs:=o.row) (by kernel_rfl) (by simp[Ob.row,Ones,Value.oneCell']) ?_
 simp only[vQ]
 refine fun r0=>aa (aa (aa (aa (aa (aa (aQ 6 (fun i H' O'=>O'=O∧([o.power,o.tough,o.dmg,o.cnt,o.pp,o.pt].all fun n=>au n 0 99)=(([o.power,o.tough,o.dmg,o.cnt,o.pp,o.pt].drop i).all fun n=>au n 0 99)) ⟨rfl,rfl⟩ ?_))))))
 rintro i H' O' hi - ⟨rfl,hor⟩
 refine ab _ (aB _ _) (ai (fun hb=>?_) (fun hb=>?_))
 ·have hlt:i < 6:=by have:=of_decide_eq_true hb;omega
  have hlt':i < [o.power,o.tough,o.dmg,o.cnt,o.pp,o.pt].length:=hlt
  have hv:[iV o.power,iV o.tough,iV o.dmg,iV o.cnt,iV o.pp,iV o.pt][i]?=some (iV [o.power,o.tough,o.dmg,o.cnt,o.pp,o.pt][i]):=by
   have:[iV o.power,iV o.tough,iV o.dmg,iV o.cnt,iV o.pp,iV o.pt]=[o.power,o.tough,o.dmg,o.cnt,o.pp,o.pt].map iV:=rfl
   rw[this,List.getElem?_map,List.getElem?_eq_getElem hlt'];rfl
  refine ab _ (QP hv) (ab _ (aB _ _) (ae (ab _ (bK _ _) (ae (ab _ (aR _ _) (ai (fun hb=>ah ⟨?_,rfl⟩) (fun hb=>ab _ (az (by omega)) (aI (by simp[Eqs,E]) hlt ⟨rfl,?_⟩))))))))
  ·have hf:([o.power,o.tough,o.dmg,o.cnt,o.pp,o.pt].all fun n=>au n 0 99)=false:=by
    rw[hor,List.drop_eq_getElem_cons hlt',List.all_cons]
    have:au [o.power,o.tough,o.dmg,o.cnt,o.pp,o.pt][i] 0 99=false:=by simp[au] at hb ⊢;omega
    rw[this];rfl
   unfold aW;rw[hf];rfl
  ·rw[hor,List.drop_eq_getElem_cons hlt',List.all_cons]
   have:au [o.power,o.tough,o.dmg,o.cnt,o.pp,o.pt][i] 0 99=true:=by simp[au] at hb ⊢;omega
   rw[this];rfl
 ·have:i=6:=by have:=of_decide_eq_false hb;omega
  subst this
  repeat (first | refine aa ?_ | refine ae ?_ | refine af fun _=>?_ | refine ab _ (aB _ _) ?_ | refine ab _ (bK _ _) ?_ | refine ab _ (eR _ _) ?_ | refine ab _ (cI _ _) ?_ | refine ab _ (ay _ _) ?_ | refine ab _ (aY _ _) ?_ | refine ab _ (aT _ _) ?_ | refine ab _ (aR _ _) ?_ | refine ab _ (aJ _) ?_ | refine ab _ (wX _ _) ?_ | refine ab _ (rI _ _) ?_)
  refine ah ⟨?_,rfl⟩
  have hall:([o.power,o.tough,o.dmg,o.cnt,o.pp,o.pt].all fun n=>au n 0 99)=true:=by rw[hor];rfl
  unfold aW;rw[hall,Bool.true_and]
theorem rh {P:Program} {gd:Gd} {op:PrimOp} {args:List Value} {k:Value→Tree} {H:Heap} {O:Own} {Q:Value→Heap→Own→Prop} {v:Value} (h:MJ P op args=some v) (hk:(k v).den P Q H O) :
  (Tree.raw gd op args k).den P Q H O:=⟨v,fun _ w=>(KY h w).1,(KY h default).2,hk⟩
def GW:List Bool→Option Bool
 | []=>some true
 | b::r=>match some b with | some true=>GW r | some false=>some false | none=>none
theorem qD:∀ l:List Bool,GW l=some (l.all id)
 | []=>rfl
 | true::r=>by simp[GW,qD r]
 | false::r=>by simp[GW]
theorem Xp (o p:Ob):MJ PP (.eqv .neq aH false) [.agg o.row.toArray,.agg p.row.toArray]=some (.bool (!(o == p))):=by
 have e:MJ PP (.eqv .neq aH false) [.agg o.row.toArray,.agg p.row.toArray]=(GW [o.id == p.id,o.card == p.card,o.owner == p.owner,o.power == p.power,o.tough == p.tough,o.dmg == p.dmg,o.cnt == p.cnt,o.pp == p.pp,o.pt == p.pt,o.tap == p.tap,o.sick == p.sick,o.doom == p.doom]).map fun b=>.bool (!b):=by kernel_rfl
 rw[e,qD]
 simp only[Option.map_some,Option.some.injEq,Value.bool.injEq]
 congr 1
 cases o;cases p
 rw[Bool.eq_iff_iff]
 simp
theorem Xn (o p:Tg):MJ PP (.eqv .neq aA false) [.agg o.row.toArray,.agg p.row.toArray]=some (.bool (!(o == p))):=by
 have e:MJ PP (.eqv .neq aA false) [.agg o.row.toArray,.agg p.row.toArray]=(GW [o.id == p.id,o.player == p.player]).map fun b=>.bool (!b):=by kernel_rfl
 rw[e,qD]
 simp only[Option.map_some,Option.some.injEq,Value.bool.injEq]
 congr 1
 cases o;cases p
 rw[Bool.eq_iff_iff]
 simp
theorem Xv (o p:Bl):MJ PP (.eqv .neq bj false) [.agg o.row.toArray,.agg p.row.toArray]=some (.bool (!(o == p))):=by
 have e:MJ PP (.eqv .neq bj false) [.agg o.row.toArray,.agg p.row.toArray]=(GW [o.blocker == p.blocker,o.attacker == p.attacker]).map fun b=>.bool (!b):=by kernel_rfl
 rw[e,qD]
 simp only[Option.map_some,Option.some.injEq,Value.bool.injEq]
 congr 1
 cases o;cases p
 rw[Bool.eq_iff_iff]
 simp
theorem Tz (a b c d a' b' c' d':Int):MJ PP (.eqv .neq D9 false) [.agg #[iV a,iV b,iV c,iV d],.agg #[iV a',iV b',iV c',iV d']]=some (.bool (!(a == a' && (b == b' && (c == c' && d == d'))))):=by
 have e:MJ PP (.eqv .neq D9 false) [.agg #[iV a,iV b,iV c,iV d],.agg #[iV a',iV b',iV c',iV d']]=(GW [a == a',b == b',c == c',d == d']).map fun b=>.bool (!b):=by kernel_rfl
 rw[e,qD]
 simp
theorem xM {H:Heap} {O:Own} {v v':Value} {l l':List Int} (h:RSl H O 1 v (aE l)) (h':RSl H O 1 v' (aE l')):RetO PP oG [v,v'] H O (.bool (l == l')):=by
 refine tA (vs:=[v,v']) (by kernel_rfl) ⟨h.one,h'.one,trivial⟩ ?_
 simp only[oi]
 have hl:=h.len
 have hl':=h'.len
 rw[aE,List.length_map] at hl hl'
 refine ab _ hl (ab _ hl' (ab _ (aY _ _) (ai (fun hb=>ah ⟨?_,rfl⟩) (fun hb=>?_))))
 ·have:l ≠ l':=by intro e;subst e;simp at hb
  simp[this]
 ·have hlen:l.length=l'.length:=by simp at hb;omega
  refine aQ l.length (fun i H' O'=>O'=O∧Heap.le H H'∧l.take i=l'.take i) ⟨rfl,Heap.le_refl H,by simp⟩ ?_
  rintro i H' O' hi - ⟨rfl,hle,hor⟩
  refine ab _ hl (ab _ (aB _ _) (ai (fun hb=>?_) (fun hb=>?_)))
  ·have hlt:i < l.length:=by simpa using hb
   have hlt':i < l'.length:=by omega
   obtain⟨a,h1,h2,_,h3,h4⟩:=(h.le hle).idx .i64 i [iV l[i]] (by simp[aE,hlt])
   obtain⟨b,k1,k2,_,k3,k4⟩:=(h'.le hle).idx .i64 i [iV l'[i]] (by simp[aE,hlt'])
   refine ab _ h1 (ap h2 h3 h4 (ab _ k1 (ap k2 k3 k4 (ab _ (aY _ _) (ai (fun hb=>ah ⟨?_,rfl⟩) (fun hb=>?_))))))
   ·have hne:l[i] ≠ l'[i]:=by simpa using hb
    have:l ≠ l':=by rintro rfl;exact hne rfl
    simp[this]
   ·have he:l[i]=l'[i]:=by simpa using hb
    refine ab _ (az (by have:=h.lenB;simp[aE] at this;omega)) (aI (by simp[Eqs,E]) hlt ⟨rfl,hle,?_⟩)
    rw[List.take_add_one,List.take_add_one,hor,List.getElem?_eq_getElem hlt,List.getElem?_eq_getElem hlt',he]
  ·have hge:l.length≤i:=by simpa using hb
   refine ah ⟨?_,rfl⟩
   rw[List.take_of_length_le hge,List.take_of_length_le (by omega)] at hor
   simp[hor]
theorem zn {H:Heap} {O:Own} {row row':List Value} {x y:It} (h:ItR H O row x) (h':ItR H O row' y):RetO PP jX [.agg row.toArray,.agg row'.toArray] H O (.bool (x == y)):=by
 obtain⟨s,rfl,hs⟩:=h
 obtain⟨s',rfl,hs'⟩:=h'
 refine pD (vs:=[iV x.player,iV x.id,iV x.card,iV x.trig,s,iV y.player,iV y.id,iV y.card,iV y.trig,s']) (by kernel_rfl) ⟨rfl,rfl,rfl,rfl,hs.one,rfl,rfl,rfl,rfl,hs'.one,trivial⟩ ?_
 simp only[jN]
 have hl:=hs.len
 have hl':=hs'.len
 rw[List.length_map] at hl hl'
 repeat (first | refine aa ?_ | refine ae ?_ | refine af fun _=>?_ | refine ab _ hl ?_ | refine ab _ hl' ?_ | refine ab _ (aY _ _) ?_ | refine ab _ (aR _ _) ?_)
 refine ai (fun hb=>ah ⟨?_,rfl⟩) (fun hb=>?_)
 ·have:x ≠ y:=by rintro rfl;simp at hb
  simp[this]
 ·simp only[Bool.or_eq_false_iff,bne_eq_false_iff_eq] at hb
  obtain⟨⟨⟨⟨h1,h2⟩,h3⟩,h4⟩,h5⟩:=hb
  have hlen:x.tgs.length=y.tgs.length:=by omega
  have hxy:(x == y)=(x.tgs == y.tgs):=by
   rw[Bool.eq_iff_iff]
   cases x;cases y
   simp only at h1 h2 h3 h4
   subst h1;subst h2;subst h3;subst h4
   simp
  rw[hxy]
  refine aQ x.tgs.length (fun i H' O'=>O'=O∧Heap.le H H'∧x.tgs.take i=y.tgs.take i) ⟨rfl,Heap.le_refl H,by simp⟩ ?_
  rintro i H' O' hi - ⟨rfl,hle,hor⟩
  refine aa (ab _ hl (ab _ (aB _ _) (ai (fun hb=>?_) (fun hb=>?_))))
  ·have hlt:i < x.tgs.length:=by simpa using hb
   have hlt':i < y.tgs.length:=by omega
   obtain⟨a,h1,h2,_,h3,h4⟩:=(hs.le hle).idx .i64 i (Tg.row x.tgs[i]) (by simp[hlt])
   obtain⟨b,k1,k2,_,k3,k4⟩:=(hs'.le hle).idx .i64 i (Tg.row y.tgs[i]) (by simp[hlt'])
   refine aa (ab _ h1 (ap h2 h3 h4 (aa (ab _ k1 (ap k2 k3 k4 (rh (Xn x.tgs[i] y.tgs[i]) (ai (fun hb=>ah ⟨?_,rfl⟩) (fun hb=>?_))))))))
   ·have hne:x.tgs[i] ≠ y.tgs[i]:=by simpa using hb
    have:x.tgs ≠ y.tgs:=fun e=>hne (by simp only[e])
    simp[this]
   ·have he:x.tgs[i]=y.tgs[i]:=by simpa using hb
    refine ab _ (az (by have:=hs.lenB;simp at this;omega)) (aI (by simp[Eqs,E]) hlt ⟨rfl,hle,?_⟩)
    rw[List.take_add_one,List.take_add_one,hor,List.getElem?_eq_getElem hlt,List.getElem?_eq_getElem hlt',he]
  ·have hge:x.tgs.length≤i:=by simpa using hb
   refine ah ⟨?_,rfl⟩
   rw[List.take_of_length_le hge,List.take_of_length_le (by omega)] at hor
   simp[hor]
theorem OK {H:Heap} {O:Own} {v v':Value} {l l':List It} (h:ItsR H O v l) (h':ItsR H O v' l'):RetO PP mE [v,v'] H O (.bool (l == l')):=by
 have ho:=ItsR.one h
 have ho':=ItsR.one h'
 have hl:=ItsR.len h
 have hl':=ItsR.len h'
 obtain⟨rows,hr,hrl,hit⟩:=h
 obtain⟨rows',hr',hrl',hit'⟩:=h'
 refine so (vs:=[v,v']) (by kernel_rfl) ⟨ho,ho',trivial⟩ ?_
 simp only[lX]
 refine ab _ hl (ab _ hl' (ab _ (aY _ _) (ai (fun hb=>ah ⟨?_,rfl⟩) (fun hb=>?_))))
 ·have:l ≠ l':=by intro e;subst e;simp at hb
  simp[this]
 ·have hlen:l.length=l'.length:=by simp at hb;omega
  refine aQ l.length (fun i H' O'=>O'=O∧Heap.le H H'∧l.take i=l'.take i) ⟨rfl,Heap.le_refl H,by simp⟩ ?_
  rintro i H' O' hi - ⟨rfl,hle,hor⟩
  refine ab _ hl (ab _ (aB _ _) (ai (fun hb=>?_) (fun hb=>?_)))
  ·have hlt:i < l.length:=by simpa using hb
   have hlt':i < l'.length:=by omega
   have hx:=(hit i rows[i] l[i] (by simp[hrl,hlt]) (by simp[hlt])).le hle
   have hy:=(hit' i rows'[i] l'[i] (by simp[hrl',hlt']) (by simp[hlt'])).le hle
   obtain⟨a,h1,h2,_,h3,h4⟩:=(hr.le hle).idx .i64 i rows[i] (by simp[hrl,hlt])
   obtain⟨b,k1,k2,_,k3,k4⟩:=(hr'.le hle).idx .i64 i rows'[i] (by simp[hrl',hlt'])
   have hc:=zn hx hy
   obtain⟨s,hrow,_⟩:=hx
   obtain⟨s',hrow',_⟩:=hy
   rw[hrow] at h2 h3 h4 hc
   rw[hrow'] at k2 k3 k4 hc
   refine ab _ h1 (ap h2 h3 h4 (ab _ k1 (ap k2 k3 k4 (aj hc rfl ⟨rfl,trivial⟩ fun H2 hle2=>ab _ (aJ _) (ai (fun hb=>ah ⟨?_,rfl⟩) (fun hb=>?_))))))
   ·have hne:l[i] ≠ l'[i]:=by simpa using hb
    have:l ≠ l':=by rintro rfl;exact hne rfl
    simp[this]
   ·have he:l[i]=l'[i]:=by simpa using hb
    refine ab _ (az (by have:=hr.lenB;omega)) (aI (by simp[Eqs,E]) hlt ⟨rfl,Heap.le_trans hle hle2,?_⟩)
    rw[List.take_add_one,List.take_add_one,hor,List.getElem?_eq_getElem hlt,List.getElem?_eq_getElem hlt',he]
  ·have hge:l.length≤i:=by simpa using hb
   refine ah ⟨?_,rfl⟩
   rw[List.take_of_length_le hge,List.take_of_length_le (by omega)] at hor
   simp[hor]
theorem jt {vl vh vf vg:Value} (s:St) (hl:vl.oneCell'=true) (hh:vh.oneCell'=true) (hf:vf.oneCell'=true) (hg:vg.oneCell'=true) (H:Heap) (O:Own) :
  RetO PP mG [.agg (Rq vl vh vf vg s).toArray] H O (.agg #[vl,vh,vf,vg]):=by
 refine sr (vs:=Rq vl vh vf vg s) (by kernel_rfl) ⟨rfl,rfl,rfl,rfl,rfl,hl,hh,hf,hg,rfl,rfl,rfl,rfl,rfl,trivial⟩ ?_
 simp only[lZ]
 refine af fun _=>af fun _=>aa (aa (aa (aa (aa (aa ?_)))))
 exact ah ⟨rfl,rfl⟩
theorem fq {H:Heap} {O:Own} {vl vh vf vg:Value} {s:St} (h:StR H O vl vh vf vg s):vl.oneCell'=true∧vh.oneCell'=true∧vf.oneCell'=true∧vg.oneCell'=true:=⟨h.lib.one,h.hand.one,h.field.one,h.grave.one⟩
theorem am {H:Heap} {O:Own} {v:cn} {b:Bd} (h:BdR H O v b):Ones (al v b):=by
 obtain⟨a1,a2,a3,a4⟩:=fq h.s0
 obtain⟨b1,b2,b3,b4⟩:=fq h.s1
 exact⟨h.objs.one,rfl,rfl,rfl,rfl,rfl,a1,a2,a3,a4,rfl,rfl,rfl,rfl,rfl,rfl,rfl,rfl,rfl,rfl,b1,b2,b3,b4,rfl,rfl,rfl,rfl,rfl,ItsR.one h.stack,ItsR.one h.queue,h.att.one,h.blocks.one,rfl,rfl,rfl,rfl,rfl,trivial⟩
theorem ax:∀ {a b:List Value},Ones a→Ones b→Ones (a++b)
 | [],_,_,h=>h
 | _::_,_,h,h'=>⟨h.1,ax h.2 h'⟩
def Ge (s t:St):Bool :=
 !((((((((s.life != t.life || !(s.p0 == t.p0 && (s.p1 == t.p1 && (s.p2 == t.p2 && s.p3 == t.p3)))) || !(s.empty == t.empty)) || !(s.played == t.played)) || !(s.kept == t.kept)) || s.mull != t.mull) || s.acts != t.acts)))
theorem W7 (s t:St):(s == t)=(Ge s t && (s.lib == t.lib && (s.hand == t.hand && (s.field == t.field && s.grave == t.grave)))):=by
 cases s;cases t
 rw[Bool.eq_iff_iff]
 simp[Ge]
 constructor
 ·rintro ⟨h1,h2,h3,h4,h5,h6,h7,h8,h9,h10,h11,h12,h13,h14⟩;simp_all
 ·rintro ⟨⟨⟨⟨⟨⟨⟨h1,h2,h3,h4,h5⟩,h6⟩,h7⟩,h8⟩,h9⟩,h10⟩,h11,h12,h13,h14⟩;simp_all
def Kx (a b:Bd):Bool:=a.turn == b.turn && (a.active == b.active && (a.phase == b.phase && (a.holder == b.holder && a.passes == b.passes)))
theorem Xw (a b:Bd):(a == b)=(a.stack == b.stack && (a.queue == b.queue && (a.att == b.att && (Kx a b && (a.objs == b.objs && (a.blocks == b.blocks && (a.s0 == b.s0 && a.s1 == b.s1))))))):=by
 cases a;cases b
 rw[Bool.eq_iff_iff]
 simp[Kx]
 constructor
 ·rintro ⟨h1,h2,h3,h4,h5,h6,h7,h8,h9,h10,h11,h12⟩;simp_all
 ·rintro ⟨h1,h2,h3,⟨h4,h5,h6,h7,h8⟩,h9,h10,h11,h12⟩;simp_all
theorem neB {α:Type} [BEq α] [LawfulBEq α] {a b:α} (h:a ≠ b):(Value.bool false:Value)=.bool (a == b):=by simp[h]
theorem EV {H:Heap} {O:Own} {v w:cn} {a b:Bd} (h:BdR H O v a) (h':BdR H O w b):RetO PP oC [.agg (al v a).toArray,.agg (al w b).toArray] H O (.bool (a == b)):=by
 refine tq (vs:=al v a++al w b) (by kernel_rfl) (ax (am h) (am h')) ?_
 simp only[oe]
 have lo:=h.objs.len
 have lo':=h'.objs.len
 have lb:=h.blocks.len
 have lb':=h'.blocks.len
 rw[List.length_map] at lo lo' lb lb'
 refine af fun r0=>af fun r1=>aa (ab _ lo (aa (ab _ lo' (ab _ (aY _ _) (ai (fun hb=>ah ⟨neB (by rintro rfl;simp at hb),rfl⟩) (fun hob=>?_))))))
 refine aa (aa (aj (OK h.stack h'.stack) rfl ⟨rfl,trivial⟩ fun H1 l1=>ab _ (aJ _) (ai (fun hb=>ah ⟨neB (by rintro rfl;simp at hb),rfl⟩) (fun hstack=>?_))))
 replace h:=h.le l1
 replace h':=h'.le l1
 refine aa (aa (aj (OK h.queue h'.queue) rfl ⟨rfl,trivial⟩ fun H2 l2=>ab _ (aJ _) (ai (fun hb=>ah ⟨neB (by rintro rfl;simp at hb),rfl⟩) (fun hqueue=>?_))))
 replace h:=h.le l2
 replace h':=h'.le l2
 refine aa (aa (aj (xM h.att h'.att) rfl ⟨rfl,trivial⟩ fun H3 l3=>ab _ (aJ _) ?_))
 replace h:=h.le l3
 replace h':=h'.le l3
 repeat (first | refine aa ?_ | refine ae ?_ | refine ab _ lb ?_ | refine ab _ lb' ?_ | refine ab _ (aY _ _) ?_ | refine ab _ (aR _ _) ?_)
 refine ai (fun hb=>ah ⟨neB (by rintro rfl;simp at hb),rfl⟩) (fun hpl=>?_)
 have hol:a.objs.length=b.objs.length:=by simp at hob;omega
 refine aQ a.objs.length (fun i H' O'=>O'=O∧Heap.le H3 H'∧a.objs.take i=b.objs.take i) ⟨rfl,Heap.le_refl H3,by simp⟩ ?_
 rintro i H4 O' hi - ⟨rfl,l4,hor⟩
 refine aa (ab _ lo (ab _ (aB _ _) (ai (fun hb=>?_) (fun hb=>?_))))
 ·have hlt:i < a.objs.length:=by simpa using hb
  have hlt':i < b.objs.length:=by omega
  obtain⟨p,h1,h2,_,h3,h4⟩:=(h.objs.le l4).idx .i64 i (Ob.row a.objs[i]) (by simp[hlt])
  obtain⟨q,k1,k2,_,k3,k4⟩:=(h'.objs.le l4).idx .i64 i (Ob.row b.objs[i]) (by simp[hlt'])
  refine aa (ab _ h1 (ap h2 h3 h4 (aa (ab _ k1 (ap k2 k3 k4 (rh (Xp a.objs[i] b.objs[i]) (ai (fun hb=>ah ⟨?_,rfl⟩) (fun hb=>?_))))))))
  ·have hne:a.objs[i] ≠ b.objs[i]:=by simpa using hb
   exact neB fun e=>hne (by simp only[e])
  ·have he:a.objs[i]=b.objs[i]:=by simpa using hb
   refine ab _ (az (by have:=h.objs.lenB;simp at this;omega)) (aI (by simp[Eqs,E]) hlt ⟨rfl,l4,?_⟩)
   rw[List.take_add_one,List.take_add_one,hor,List.getElem?_eq_getElem hlt,List.getElem?_eq_getElem hlt',he]
 have hobj:a.objs=b.objs:=by
  have hge:a.objs.length≤i:=by simpa using hb
  rwa [List.take_of_length_le hge,List.take_of_length_le (by omega)] at hor
 clear hb hor hi
 replace h:=h.le l4
 replace h':=h'.le l4
 have hbl:a.blocks.length=b.blocks.length:=by simp at hpl;omega
 refine aQ a.blocks.length (fun i H' O''=>O''=O'∧Heap.le H4 H'∧a.blocks.take i=b.blocks.take i) ⟨rfl,Heap.le_refl H4,by simp⟩ ?_
 rintro i H5 O' hi - ⟨rfl,l5,hor⟩
 refine aa (ab _ lb (ab _ (aB _ _) (ai (fun hb=>?_) (fun hb=>?_))))
 ·have hlt:i < a.blocks.length:=by simpa using hb
  have hlt':i < b.blocks.length:=by omega
  obtain⟨p,h1,h2,_,h3,h4⟩:=(h.blocks.le l5).idx .i64 i (Bl.row a.blocks[i]) (by simp[hlt])
  obtain⟨q,k1,k2,_,k3,k4⟩:=(h'.blocks.le l5).idx .i64 i (Bl.row b.blocks[i]) (by simp[hlt'])
  refine aa (ab _ h1 (ap h2 h3 h4 (aa (ab _ k1 (ap k2 k3 k4 (rh (Xv a.blocks[i] b.blocks[i]) (ai (fun hb=>ah ⟨?_,rfl⟩) (fun hb=>?_))))))))
  ·have hne:a.blocks[i] ≠ b.blocks[i]:=by simpa using hb
   exact neB fun e=>hne (by simp only[e])
  ·have he:a.blocks[i]=b.blocks[i]:=by simpa using hb
   refine ab _ (az (by have:=h.blocks.lenB;simp at this;omega)) (aI (by simp[Eqs,E]) hlt ⟨rfl,l5,?_⟩)
   rw[List.take_add_one,List.take_add_one,hor,List.getElem?_eq_getElem hlt,List.getElem?_eq_getElem hlt',he]
 have hblk:a.blocks=b.blocks:=by
  have hge:a.blocks.length≤i:=by simpa using hb
  rwa [List.take_of_length_le hge,List.take_of_length_le (by omega)] at hor
 clear hb hor hi
 replace h:=h.le l5
 replace h':=h'.le l5
 obtain⟨o1,o2,o3,o4⟩:=fq h.s0
 obtain⟨o1',o2',o3',o4'⟩:=fq h'.s0
 obtain⟨p1,p2,p3,p4⟩:=fq h.s1
 obtain⟨p1',p2',p3',p4'⟩:=fq h'.s1
 repeat (first | refine aa ?_ | refine ae ?_ | refine af fun _=>?_ | refine ab _ (aY _ _) ?_ | refine rh (Tz _ _ _ _ _ _ _ _) ?_ | refine ab _ (rI _ _) ?_ | refine ab _ (aR _ _) ?_)
 refine ai (fun hb=>ah ⟨neB (by rintro rfl;simp at hb),rfl⟩) (fun hs0=>?_)
 refine aa (aa (aj (jt a.s0 o1 o2 o3 o4 _ _) rfl ⟨o1,o2,o3,o4,trivial⟩ fun H6 l6=>aj (jt b.s0 o1' o2' o3' o4' _ _) rfl ⟨o1',o2',o3',o4',trivial⟩ fun H7 l7=>?_))
 replace h:=(h.le l6).le l7
 replace h':=(h'.le l6).le l7
 refine af fun _=>af fun _=>aa (aa (aa (aa (aj (xM h.s0.lib h'.s0.lib) rfl ⟨rfl,trivial⟩ fun H8 l8=>ab _ (aJ _) (ai (fun hb=>ah ⟨neB (by rintro rfl;simp at hb),rfl⟩) (fun hz1=>?_))))))
 replace h:=h.le l8
 replace h':=h'.le l8
 refine aa (aa (aj (xM h.s0.hand h'.s0.hand) rfl ⟨rfl,trivial⟩ fun H9 l9=>ab _ (aJ _) (ai (fun hb=>ah ⟨neB (by rintro rfl;simp at hb),rfl⟩) (fun hz2=>?_))))
 replace h:=h.le l9
 replace h':=h'.le l9
 refine aa (aa (aj (xM h.s0.field h'.s0.field) rfl ⟨rfl,trivial⟩ fun H10 l10=>ab _ (aJ _) (ai (fun hb=>ah ⟨neB (by rintro rfl;simp at hb),rfl⟩) (fun hz3=>?_))))
 replace h:=h.le l10
 replace h':=h'.le l10
 refine aa (aa (aj (xM h.s0.grave h'.s0.grave) rfl ⟨rfl,trivial⟩ fun H11 l11=>ab _ (aJ _) (ai (fun hb=>ah ⟨neB (by rintro rfl;simp at hb),rfl⟩) (fun hz4=>?_))))
 replace h:=h.le l11
 replace h':=h'.le l11
 repeat (first | refine aa ?_ | refine ae ?_ | refine af fun _=>?_ | refine ab _ (aY _ _) ?_ | refine rh (Tz _ _ _ _ _ _ _ _) ?_ | refine ab _ (rI _ _) ?_ | refine ab _ (aR _ _) ?_)
 refine ai (fun hb=>ah ⟨neB (by rintro rfl;simp at hb),rfl⟩) (fun hs1=>?_)
 refine aa (aa (aj (jt a.s1 p1 p2 p3 p4 _ _) rfl ⟨p1,p2,p3,p4,trivial⟩ fun H12 l12=>aj (jt b.s1 p1' p2' p3' p4' _ _) rfl ⟨p1',p2',p3',p4',trivial⟩ fun H13 l13=>?_))
 replace h:=(h.le l12).le l13
 replace h':=(h'.le l12).le l13
 refine af fun _=>af fun _=>aa (aa (aa (aa (aj (xM h.s1.lib h'.s1.lib) rfl ⟨rfl,trivial⟩ fun H8 l8=>ab _ (aJ _) (ai (fun hb=>ah ⟨neB (by rintro rfl;simp at hb),rfl⟩) (fun hy1=>?_))))))
 replace h:=h.le l8
 replace h':=h'.le l8
 refine aa (aa (aj (xM h.s1.hand h'.s1.hand) rfl ⟨rfl,trivial⟩ fun H9 l9=>ab _ (aJ _) (ai (fun hb=>ah ⟨neB (by rintro rfl;simp at hb),rfl⟩) (fun hy2=>?_))))
 replace h:=h.le l9
 replace h':=h'.le l9
 refine aa (aa (aj (xM h.s1.field h'.s1.field) rfl ⟨rfl,trivial⟩ fun H10 l10=>ab _ (aJ _) (ai (fun hb=>ah ⟨neB (by rintro rfl;simp at hb),rfl⟩) (fun hy3=>?_))))
 replace h:=h.le l10
 replace h':=h'.le l10
 refine aa (aa (aj (xM h.s1.grave h'.s1.grave) rfl ⟨rfl,trivial⟩ fun H11 l11=>ab _ (aJ _) (ai (fun hb=>ah ⟨neB (by rintro rfl;simp at hb),rfl⟩) (fun hy4=>?_))))
 refine ah ⟨?_,rfl⟩
 simp only[Bool.not_eq_false',Bool.or_eq_false_iff,bne_eq_false_iff_eq,beq_iff_eq] at hstack hqueue hpl hz1 hz2 hz3 hz4 hy1 hy2 hy3 hy4
 have e:a=b:=by
  have e0:(a.s0 == b.s0)=true:=by
   rw[W7,hz1,hz2,hz3,hz4]
   simp only[Ge,hs0]
   simp
  have e1:(a.s1 == b.s1)=true:=by
   rw[W7,hy1,hy2,hy3,hy4]
   simp only[Ge,hs1]
   simp
  have:(a == b)=true:=by
   rw[Xw,e0,e1,hobj,hblk,hstack,hqueue]
   simp only[Kx]
   simp_all
  simpa using this
 simp[e]
end Go.Proofs.YtdhobpmnkfmcfaaGreatDoor
namespace Go.Sx
open Go
def iK (l:List (Int × Int)):Hl:=l.map fun p=>(p.1,iV p.2)
def cz (l:List (Int × Int)) (k:Int):Option Int:=(l.find? fun p=>k == p.1).map (·.2)
theorem eu (l:List (Int × Int)) (k:Int):dd (iK l) k=(cz l k).map iV:=by
 induction l with
 | nil=>rfl
 | cons p r ih =>
  by_cases h:k=p.1
  ·simp[dd,cz,iK,h]
  ·simp only[dd,cz,iK,List.map_cons,List.find?_cons] at ih ⊢
   have hb:(k == p.1)=false:=by simpa using h
   simp only[hb]
   exact ih
theorem fB {l:List (Int × Int)} {k:Int}:cz l k=none ↔ k ∉ l.map (·.1):=by
 induction l with
 | nil=>simp[cz]
 | cons p r ih =>
  by_cases h:k=p.1
  ·simp[cz,h]
  ·have hb:(k == p.1)=false:=by simpa using h
   simp only[cz,List.find?_cons,hb,List.map_cons,List.mem_cons,not_or] at ih ⊢
   rw[ih];simp[h]
theorem jj {l:List (Int × Int)} {k v:Int} (hn:(l.map (·.1)).Nodup):cz l k=some v ↔ (k,v) ∈ l:=by
 induction l with
 | nil=>simp[cz]
 | cons p r ih =>
  simp only[List.map_cons,List.nodup_cons] at hn
  by_cases h:k=p.1
  ·simp only[cz,List.find?_cons,h,beq_self_eq_true,Option.map_some,Option.some.injEq,List.mem_cons]
   constructor
   ·rintro rfl;left;rfl
   ·rintro (h' | h')
    ·rw[← h']
    ·exact absurd (List.mem_map_of_mem (f:=Prod.fst) h') hn.1
  ·have hb:(k == p.1)=false:=by simpa using h
   have:=ih hn.2
   simp only[cz,List.find?_cons,hb] at this ⊢
   rw[this]
   simp only[List.mem_cons]
   constructor
   ·exact .inr
   ·rintro (h' | h')
    ·exact absurd (congrArg Prod.fst h') h
    ·exact h'
theorem Q5 {m:Hl} {k:Int} {v:Value} (h:dd m k=none):Bz m k v=m++[(k,v)]:=by
 refine Ht ?_
 rw[List.findIdx?_eq_none_iff]
 intro p hp
 simp only[dd,Option.map_eq_none_iff,List.find?_eq_none] at h
 simpa using h p hp
theorem F2 {l:List (Int × Int)} {k v:Int} (h:k ∉ l.map (·.1)):Bz (iK l) k (iV v)=iK (l++[(k,v)]):=by
 rw[Q5 (by rw[eu,fB.2 h];rfl)]
 simp[iK]
def cB (s:St) (p:Int):List (Int × Int):=(s.lib++(s.hand++(s.field++s.grave))).map fun i=>(i,p)
def bH (l:List It):List It:=l.filter fun x=>decide (x.trig < 0)
def eK (l:List It):List (Int × Int):=(bH l).map fun x=>(x.id,x.player)
def bg (l:List It):List (Int × Int):=(bH l).map fun x=>(x.id,x.card)
def aL (b:Bd):List (Int × Int):=cB b.s0 0++(cB b.s1 1++eK b.stack)
def jv (prev:Option Int) (id:Int):Bool:=match prev with | some p=>decide (p ≥ id) | none=>false
def E5 (ps cs:List (Int × Int)) (prev:Option Int) (valid:Bool) (o:Ob):Bool :=
 !valid || jv prev o.id || (cz ps o.id).isNone || ((cz ps o.id).getD 0 != o.owner) || ((cz cs o.id).isSome && ((cz cs o.id).getD 0 != o.card))
theorem oV (l r:List It):eK (l++r)=eK l++eK r:=by simp only[eK,bH,List.filter_append,List.map_append]
theorem yj (l r:List It):bg (l++r)=bg l++bg r:=by simp only[bg,bH,List.filter_append,List.map_append]
theorem Ik {x:It} (h:x.trig < 0):eK [x]=[(x.id,x.player)]:=by simp only[eK,bH,List.filter_cons,h,decide_true,if_true,List.filter_nil,List.map_cons,List.map_nil]
theorem NA {x:It} (h:x.trig < 0):bg [x]=[(x.id,x.card)]:=by simp only[bg,bH,List.filter_cons,h,decide_true,if_true,List.filter_nil,List.map_cons,List.map_nil]
theorem E1 {x:It} (h:¬ x.trig < 0):eK [x]=[]:=by simp only[eK,bH,List.filter_cons,h,decide_false,Bool.false_eq_true,if_false,List.filter_nil,List.map_nil]
theorem J6 {x:It} (h:¬ x.trig < 0):bg [x]=[]:=by simp only[bg,bH,List.filter_cons,h,decide_false,Bool.false_eq_true,if_false,List.filter_nil,List.map_nil]
def qx (val:Ob→Bool) (ps cs:List (Int × Int)):Option Int→List Ob→Bool
 | _,[]=>true
 | prev,o::r=>!E5 ps cs prev (val o) o && qx val ps cs (some o.id) r
def bD (val:Ob→Bool) (b:Bd):Bool:=decide ((aL b).map (·.1)).Nodup && (qx val (aL b) (bg b.stack) none b.objs && decide ((aL b).length=b.objs.length))
def nL (l:List Ob) (i:Nat):Option Int:=if i=0 then none else (l[i - 1]?).map (·.id)
theorem xO {l:List Ob} {i:Nat} (h:i < l.length):nL l (i + 1)=some l[i].id:=by simp[nL,h]
def wW (att other:List Int):List Int→List Int→List Bl→Bool
 | _,_,[]=>true
 | ua,ub,x::r=>(!ua.contains x.attacker && att.contains x.attacker && (!ub.contains x.blocker && other.contains x.blocker)) && wW att other (x.attacker::ua) (x.blocker::ub) r
def jD (own other att:List Int) (bl:List Bl):Bool:=decide att.Nodup && (att.all (fun x=>own.contains x) && wW att other [] [] bl)
def qU (att ua ub:List Int) (k:Int):Bool:=decide ((k ∈ att∧k ∉ ua)∨-k ∈ ub)
theorem Rn {att ua ub:List Int} {m:Hl} {a c:Int} (h:∀ k,(dd m k).getD (.bool false)=.bool (qU att ua ub k)) (hub:∀ x ∈ ub,0 < x) (ha:0 < a) (hc:0 < c) :
  ∀ k,(dd (Bz (Bz m a (.bool false)) (-c) (.bool true)) k).getD (.bool false)=.bool (qU att (a::ua) (c::ub) k):=by
 intro k
 rw[Do]
 by_cases h1:k=-c
 ·rw[if_pos h1]
  have:qU att (a::ua) (c::ub) k=true:=by
   simp only[qU,decide_eq_true_eq]
   right
   rw[h1];simp
  rw[this];rfl
 ·rw[if_neg h1,Do]
  by_cases h2:k=a
  ·rw[if_pos h2]
   have:qU att (a::ua) (c::ub) k=false:=by
    simp only[qU,decide_eq_false_iff_not,not_or,not_and]
    refine⟨fun _ hn=>hn (by rw[h2];simp),?_⟩
    rw[h2,List.mem_cons]
    rintro (h3 | h3)
    ·omega
    ·have:=hub _ h3;omega
   rw[this];rfl
  ·rw[if_neg h2,h k]
   congr 1
   simp only[qU,List.mem_cons,not_or]
   have:¬ (-k=c):=by omega
   simp[this,h2]
theorem ar {P:Program} {f:FuncId} {args:List Value} {H:Heap} {O:Own} {R:Value→Heap→Own→Prop} {d:Bool} {shp:Shp} {K:List Value→List (List Value)→Heap→Own→Prop}
  (h:Triple P f args H [] R) (hk:∀ v H' O1,R v H' O1→Heap.le H H'→∃ vs,shp.open v=some vs∧Ones vs∧K vs [] H' (O1++O)) :
  dZ (fun H1 O1 R=>Triple P f args H1 O1 R) d [] [] shp K H O:=by
 intro _
 refine⟨H,[],O,R,?_,by simpa using h,fun v H' O' hr hle=>?_⟩
 ·cases d
  ·exact Ghost.refl _ _
  ·exact⟨rfl,.inl ⟨rfl,rfl⟩⟩
 ·obtain⟨vs,h1,h2,h3⟩:=hk v H' O' hr hle
  exact⟨vs,[],O',h1,h2,trivial,rfl,h3⟩
theorem aX {O O':Own} (h:∀ a [BEq (Nat × Obj)] [LawfulBEq (Nat × Obj)],O.count a=O'.count a):O.Perm O':=by
 haveI:DecidableEq (Nat × Obj):=fun a b=>Classical.propDecidable (a=b)
 exact List.perm_iff_count.2 fun a=>h a
def ItsS (H:Heap) (v:Value) (l:List It):Prop:=∃ rows,Sl H 5 v rows∧rows.length=l.length∧∀ (i:Nat) (r:List Value) (x:It),rows[i]?=some r→l[i]?=some x→∃ s,r=[iV x.player,iV x.id,iV x.card,iV x.trig,s]∧Sl H 2 s (x.tgs.map Tg.row)
structure StS (H:Heap) (vl vh vf vg:Value) (s:St):Prop where
 lib:Sl H 1 vl (aE s.lib)
 hand:Sl H 1 vh (aE s.hand)
 field:Sl H 1 vf (aE s.field)
 grave:Sl H 1 vg (aE s.grave)
structure BdS (H:Heap) (v:cn) (b:Bd):Prop where
 objs:Sl H 12 v.o (b.objs.map Ob.row)
 s0:StS H v.l0 v.h0 v.f0 v.g0 b.s0
 s1:StS H v.l1 v.h1 v.f1 v.g1 b.s1
 stack:ItsS H v.s b.stack
 queue:ItsS H v.q b.queue
 att:Sl H 1 v.a (aE b.att)
 blocks:Sl H 2 v.b (b.blocks.map Bl.row)
theorem ItsS.le {H H':Heap} {v:Value} {l:List It} (h:ItsS H v l) (hl:Heap.le H H'):ItsS H' v l :=
 let ⟨rows,h1,h2,h3⟩:=h;⟨rows,h1.le hl,h2,fun i r x a b=>let ⟨s,e,k⟩:=h3 i r x a b;⟨s,e,k.le hl⟩⟩
theorem StS.le {H H':Heap} {vl vh vf vg:Value} {s:St} (h:StS H vl vh vf vg s) (hl:Heap.le H H'):StS H' vl vh vf vg s:=⟨h.lib.le hl,h.hand.le hl,h.field.le hl,h.grave.le hl⟩
theorem BdS.le {H H':Heap} {v:cn} {b:Bd} (h:BdS H v b) (hl:Heap.le H H'):BdS H' v b :=
 ⟨h.objs.le hl,h.s0.le hl,h.s1.le hl,h.stack.le hl,h.queue.le hl,h.att.le hl,h.blocks.le hl⟩
theorem ItsS.r {H:Heap} {v:Value} {l:List It} (h:ItsS H v l) (O:Own):ItsR H O v l :=
 let ⟨rows,h1,h2,h3⟩:=h;⟨rows,h1.rsl O,h2,fun i r x a b=>let ⟨s,e,k⟩:=h3 i r x a b;⟨s,e,k.rsl O⟩⟩
theorem StS.r {H:Heap} {vl vh vf vg:Value} {s:St} (h:StS H vl vh vf vg s) (O:Own):StR H O vl vh vf vg s:=⟨h.lib.rsl O,h.hand.rsl O,h.field.rsl O,h.grave.rsl O⟩
theorem BdS.r {H:Heap} {v:cn} {b:Bd} (h:BdS H v b) (O:Own):BdR H O v b:=⟨h.objs.rsl O,h.s0.r O,h.s1.r O,h.stack.r O,h.queue.r O,h.att.rsl O,h.blocks.rsl O⟩
def OSlE (e:TypeId) (size:Nat) (v:Value) (rows:List (List Value)) (O:Own):Prop:=OSl e size v rows O∨((∃ a c,v=.slice a 0 c∧c < 2 ^ 63)∧rows=[]∧O=[])
theorem OSlE.one {e:TypeId} {size:Nat} {v:Value} {rows:List (List Value)} {O:Own} (h:OSlE e size v rows O):v.oneCell'=true:=by
 rcases h with h | ⟨⟨a,c,rfl,_⟩,_⟩
 ·exact h.one
 ·rfl
theorem OSlE.len {e:TypeId} {size:Nat} {v:Value} {rows:List (List Value)} {O:Own} (h:OSlE e size v rows O):ak .len [v]=some (.int .i64 rows.length):=by
 rcases h with h | ⟨⟨a,c,rfl,_⟩,rfl,_⟩
 ·exact h.len
 ·rfl
theorem OSlE.lenB {e:TypeId} {size:Nat} {v:Value} {rows:List (List Value)} {O:Own} (h:OSlE e size v rows O):rows.length < 2 ^ 63:=by
 rcases h with h | ⟨_,rfl,_⟩
 ·exact h.lenB
 ·simp
theorem OSlE.rsl {e:TypeId} {size:Nat} {v:Value} {rows:List (List Value)} {O1 O:Own} (h:OSlE e size v rows O1) (hO:∀ p ∈ O1,p ∈ O) (H:Heap):RSl H O size v rows:=by
 rcases h with h | ⟨⟨a,c,rfl,hc⟩,rfl,_⟩
 ·exact h.rsl hO H
 ·exact Sl.rsl ⟨a,c,rfl,Nat.zero_le _,hc,fun h=>absurd rfl h⟩ O
theorem OSlE.idx {e:TypeId} {size:Nat} {v:Value} {rows:List (List Value)} {O1 O:Own} (h:OSlE e size v rows O1) (hO:∀ p ∈ O1,p ∈ O) (H:Heap) {k:IntKind} {i:Nat} {row:List Value} (hr:rows[i]?=some row) :
  ∃ a,ak (.idx size) [v,.int k i]=some (.pointer (some a))∧a.spot=none∧Reads H O (.pointer (some a)) size row∧∀ off m,off + m≤size→Reads H O (aO (.pointer (some a)) off) m ((row.drop off).take m):=by
 rcases h with h | ⟨_,rfl,_⟩
 ·exact h.idx hO H hr
 ·simp at hr
theorem OSlE.store {e:TypeId} {size:Nat} {v:Value} {rows:List (List Value)} {O1 O2 O:Own} (h:OSlE e size v rows O1) (hO:O.Perm (O1++O2)) {k:IntKind} {i:Nat} {row:List Value} (hr:rows[i]?=some row) :
  ∃ a,ak (.idx size) [v,.int k i]=some (.pointer (some a))∧∀ off ys,off + ys.length≤size→Ones ys→∃ O1',vm O (aO (.pointer (some a)) off) ys (O1'++O2)∧OSlE e size v (rows.set i (cj row off ys)) O1':=by
 rcases h with h | ⟨_,rfl,_⟩
 ·obtain⟨a,h1,h2⟩:=h.store hO hr
  exact⟨a,h1,fun off ys h3 h4=>let ⟨O1',h5,h6⟩:=h2 off ys h3 h4;⟨O1',h5,.inl h6⟩⟩
 ·simp at hr
theorem OSlE.freeze {e:TypeId} {size:Nat} {v:Value} {rows:List (List Value)} {O1 X:Own} {H:Heap} (h:OSlE e size v rows O1) (hc:Cons H (O1++X)):∃ H',Ghost H (O1++X) H' X∧Sl H' size v rows∧Heap.le H H':=by
 rcases h with h | ⟨⟨a,c,rfl,hb⟩,rfl,rfl⟩
 ·exact h.freeze hc
 ·exact⟨H,Ghost.refl _ _,⟨a,c,rfl,Nat.zero_le _,hb,fun h=>absurd rfl h⟩,Heap.le_refl H⟩
theorem OSlE.empty {e:TypeId} {size:Nat} {H:Heap} {v:Value} (h:Sl H size v []):OSlE e size v [] []:=by
 obtain⟨a,c,rfl,_,hc,_⟩:=h
 exact .inr ⟨⟨a,c,rfl,hc⟩,rfl,rfl⟩
def OIts (te ti:TypeId) (v:Value) (l:List It) (O:Own):Prop:=∃ rows A Ts,O.Perm (A++List.flatten Ts)∧OSl ti 5 v rows A∧rows.length=l.length∧Ts.length=l.length ∧
 ∀ (i:Nat) (r:List Value) (x:It) (T:Own),rows[i]?=some r→l[i]?=some x→Ts[i]?=some T→∃ s,r=[iV x.player,iV x.id,iV x.card,iV x.trig,s]∧OSlE te 2 s (x.tgs.map Tg.row) T
def OItsS (te ti:TypeId) (v:Value) (l:List It) (O:Own):Prop:=∃ rows A Ts,O.Perm (A++List.flatten Ts)∧OSl ti 5 v rows A∧rows.length=l.length∧Ts.length=l.length ∧
 ∀ (i:Nat) (r:List Value) (x:It) (T:Own),rows[i]?=some r→l[i]?=some x→Ts[i]?=some T→∃ s,r=[iV x.player,iV x.id,iV x.card,iV x.trig,s]∧OSl te 2 s (x.tgs.map Tg.row) T
theorem OItsS.weak {te ti:TypeId} {v:Value} {l:List It} {O:Own} (h:OItsS te ti v l O):OIts te ti v l O:=by
 obtain⟨rows,A,Ts,h1,h2,h3,h4,h5⟩:=h
 refine⟨rows,A,Ts,h1,h2,h3,h4,fun i r x T a b c=>?_⟩
 obtain⟨s,e,k⟩:=h5 i r x T a b c
 exact⟨s,e,.inl k⟩
theorem OItsS.one {te ti:TypeId} {v:Value} {l:List It} {O:Own} (h:OItsS te ti v l O):v.oneCell'=true:=by
 obtain⟨rows,A,Ts,_,h1,_⟩:=h;exact h1.one
structure Tys where
 (int ob bl it tg:TypeId)
structure OBd (t:Tys) (w:cn) (b:Bd) (Oo A0 B0 C0 D0 A1 B1 C1 D1 Os Oq Oa Obk:Own):Prop where
 objs:OSl t.ob 12 w.o (b.objs.map Ob.row) Oo
 l0:OSl t.int 1 w.l0 (aE b.s0.lib) A0
 h0:OSl t.int 1 w.h0 (aE b.s0.hand) B0
 f0:OSl t.int 1 w.f0 (aE b.s0.field) C0
 g0:OSl t.int 1 w.g0 (aE b.s0.grave) D0
 l1:OSl t.int 1 w.l1 (aE b.s1.lib) A1
 h1:OSl t.int 1 w.h1 (aE b.s1.hand) B1
 f1:OSl t.int 1 w.f1 (aE b.s1.field) C1
 g1:OSl t.int 1 w.g1 (aE b.s1.grave) D1
 stack:OIts t.tg t.it w.s b.stack Os
 queue:OIts t.tg t.it w.q b.queue Oq
 att:OSl t.int 1 w.a (aE b.att) Oa
 blocks:OSl t.bl 2 w.b (b.blocks.map Bl.row) Obk
def OwnB (t:Tys) (w:cn) (b:Bd) (O:Own):Prop:=∃ Oo A0 B0 C0 D0 A1 B1 C1 D1 Os Oq Oa Obk,O.Perm (Oo++(A0++(B0++(C0++(D0++(A1++(B1++(C1++(D1++(Os++(Oq++(Oa++Obk))))))))))))∧OBd t w b Oo A0 B0 C0 D0 A1 B1 C1 D1 Os Oq Oa Obk
def OwnBS (t:Tys) (w:cn) (b:Bd) (O:Own):Prop:=∃ A R,O.Perm (A++R)∧OItsS t.tg t.it w.s b.stack A∧∀ v' l' A',OIts t.tg t.it v' l' A'→OwnB t { w with s:=v' } { b with stack:=l' } (A'++R)
theorem OIts.r {te ti:TypeId} {v:Value} {l:List It} {O O':Own} (h:OIts te ti v l O) (hO:∀ p ∈ O,p ∈ O') (H:Heap):ItsR H O' v l:=by
 obtain⟨rows,A,Ts,hp,h1,h2,h3,h4⟩:=h
 refine⟨rows,h1.rsl (fun p hp'=>hO p (hp.mem_iff.2 (by simp[hp']))) H,h2,fun i r x hr hx=>?_⟩
 have hlt:i < Ts.length:=by rw[h3];exact (List.getElem?_eq_some_iff.1 hx).1
 obtain⟨s,e,k⟩:=h4 i r x Ts[i] hr hx (List.getElem?_eq_getElem hlt)
 exact⟨s,e,k.rsl (fun p hp'=>hO p (hp.mem_iff.2 (List.mem_append_right _ (List.mem_flatten.2 ⟨Ts[i],List.getElem_mem hlt,hp'⟩)))) H⟩
theorem OwnB.r {t:Tys} {w:cn} {b:Bd} {O O':Own} (h:OwnB t w b O) (hO:∀ p ∈ O,p ∈ O') (H:Heap):BdR H O' w b:=by
 obtain⟨Oo,A0,B0,C0,D0,A1,B1,C1,D1,Os,Oq,Oa,Obk,hp,h⟩:=h
 have m:∀ p,p ∈ Oo++(A0++(B0++(C0++(D0++(A1++(B1++(C1++(D1++(Os++(Oq++(Oa++Obk)))))))))))→p ∈ O':=fun p h=>hO p (hp.mem_iff.2 h)
 refine⟨h.objs.rsl (fun p k=>m p (by simp[k])) H,⟨h.l0.rsl (fun p k=>m p (by simp[k])) H,h.h0.rsl (fun p k=>m p (by simp[k])) H,h.f0.rsl (fun p k=>m p (by simp[k])) H,h.g0.rsl (fun p k=>m p (by simp[k])) H⟩,
  ⟨h.l1.rsl (fun p k=>m p (by simp[k])) H,h.h1.rsl (fun p k=>m p (by simp[k])) H,h.f1.rsl (fun p k=>m p (by simp[k])) H,h.g1.rsl (fun p k=>m p (by simp[k])) H⟩,
  h.stack.r (fun p k=>m p (by simp[k])) H,h.queue.r (fun p k=>m p (by simp[k])) H,h.att.rsl (fun p k=>m p (by simp[k])) H,h.blocks.rsl (fun p k=>m p (by simp[k])) H⟩
theorem OwnBS.weak {t:Tys} {w:cn} {b:Bd} {O:Own} (h:OwnBS t w b O):OwnB t w b O:=by
 obtain⟨A,R,hp,hs,hk⟩:=h
 obtain⟨Oo,A0,B0,C0,D0,A1,B1,C1,D1,Os,Oq,Oa,Obk,hp',h⟩:=hk w.s b.stack A hs.weak
 exact⟨Oo,A0,B0,C0,D0,A1,B1,C1,D1,Os,Oq,Oa,Obk,hp.trans hp',h⟩
def Wu (l:List It):Prop:=l.length≤1000000∧∀ x ∈ l,x.tgs.length≤1000000
def stB (s:St):Prop:=s.lib.length≤1000000∧s.hand.length≤1000000∧s.field.length≤1000000∧s.grave.length≤1000000
def bdB (b:Bd):Prop:=b.objs.length≤1000000∧stB b.s0∧stB b.s1∧Wu b.stack∧Wu b.queue∧b.att.length≤1000000∧b.blocks.length≤1000000
end Go.Sx
namespace Go.Proofs.YtdhobpmnkfmcfaaGreatDoor
open Go Go.Sx
set_option maxRecDepth 100000
set_option maxHeartbeats 1000000
abbrev IX (n:Nat) (R:Nat→List Value→Heap→Own→Prop):List Value→Heap→Own→Prop:=fun vs H O=>∃ (i:Nat) (xs:List Value),vs=iV i::xs∧i≤n∧R i xs H O
abbrev MX (n:Nat):List Value→Heap→Own→Nat:=fun vs _ _=>match g vs 0 with | .int _ k=>n - k.toNat | _=>0
theorem vj {P:Program} {lab key:Nat} {init:List Value} {body:(List Value→Heap→Own→Prop)→List Value→Tree} {H:Heap} {O:Own} {Q:Value→Heap→Own→Prop} (n:Nat) (R:Nat→List Value→Heap→Own→Prop)
  (h0:R 0 init H O) (step:∀ i xs H' O',i≤n→xs.length=init.length→Ones xs→Heap.le H H'→R i xs H' O'→(body (L8 (IX n R) (MX n) (n - i)) (iV i::xs)).den P Q H' O') :
  (Tree.loop lab key (iV 0::init) body).den P Q H O:=by
 refine fG (IX n R) (MX n) ⟨0,init,rfl,Nat.zero_le _,h0⟩ ?_
 rintro vs H' O' hl ho hle ⟨i,xs,rfl,hi,hr⟩
 exact step i xs H' O' hi (by simpa using hl) ho.2 hle hr
theorem nW {P:Program} {lab n i:Nat} {R:Nat→List Value→Heap→Own→Prop} {xs:List Value} {eqs:List (List Value × List Value)} {H:Heap} {O:Own} {Q:Value→Heap→Own→Prop} (he:Eqs eqs) (hi:i < n) (hr:R (i + 1) xs H O) :
  (Tree.cont lab (L8 (IX n R) (MX n) (n - i)) (iV ((i + 1:Nat):Int)::xs) eqs).den P Q H O:=by
 refine bU he ⟨i + 1,xs,rfl,hi,hr⟩ ?_
 show n - ((i + 1:Nat):Int).toNat < n - i
 simp;omega
theorem kZ {P:Program} {v:Value} {H:Heap} {O:Own} {Q:Value→Heap→Own→Prop} (h:Q v H []):(Tree.ret v []).den P Q H O:=fun _=>⟨H,[],Ghost.drop _ _,h⟩
theorem Sl.block1 {H:Heap} {r size:Nat} {row:List Value} {T:TypeId} (h:H r=some (.cells row.toArray T (0,0))) (hl:row.length=size) (ho:Ones row):Sl H size (.slice (some ⟨r,0,none⟩) 1 1) [row]:=by
 refine⟨_,_,rfl,Nat.le_refl _,by simp,fun _=>⟨_,rfl,?_⟩⟩
 intro i x hx
 cases i with
 | succ i=>simp at hx
 | zero =>
  simp at hx
  subst hx
  refine⟨?_,hl,ho⟩
  rw[cL,Nat.zero_mul,Nat.add_zero,qp h (by omega)]
  simp[← hl]
def MW (id c ow:Int):Ob:=⟨id,c,ow,0,0,0,0,0,0,false,false,false⟩
def gZ (k:Nat) (l:List Int) (ow:Int):List Ob:=l.mapIdx fun i c=>MW ((k + i + 1:Nat):Int) c ow
theorem il (k:Nat) (l:List Int) (ow:Int):(gZ k l ow).length=l.length:=by simp[gZ]
theorem yh {k:Nat} {l:List Int} {ow:Int} {i:Nat} (h:i < l.length):(gZ k l ow).take (i + 1)=(gZ k l ow).take i++[MW ((k + i + 1:Nat):Int) l[i] ow]:=by
 rw[List.take_add_one]
 congr 1
 simp[gZ,h]
def zSt (life:Int) (lib:List Int):St:=⟨life,0,0,0,0,lib,[],[],[],false,false,false,0,0⟩
def zBd:Bd:=⟨[],zSt 0 [],zSt 0 [],[],[],[],[],0,0,0,0,0⟩
def UF (life:Int) (a c:List Int):Bd:=⟨gZ 0 a 0++gZ a.length c 1,zSt life ((gZ 0 a 0).map (·.id)),zSt life ((gZ a.length c 1).map (·.id)),[],[],[],[],0,0,0,-1,0⟩
def JJ (life:Int) (a c:List Int):Bool:=(decide (1≤life∧life≤9999) && decide (a.length + c.length≤500)) && ((a++c).all fun x=>decide (0≤x∧x≤399))
def Tt (life:Int) (a c:List Int):Bd × Int:=if JJ life a c then (UF life a c,0) else (zBd,2)
abbrev qQ:Value:=.slice none 0 0
def vH:cn:=⟨qQ,qQ,qQ,qQ,qQ,qQ,qQ,qQ,qQ,qQ,qQ,qQ,qQ⟩
theorem BE (H:Heap):ItsS H qQ []:=⟨[],Sl.nil H 5,rfl,fun i r x h=>by simp at h⟩
theorem Wy (H:Heap):BdS H vH zBd :=
 ⟨Sl.nil _ _,⟨Sl.nil _ _,Sl.nil _ _,Sl.nil _ _,Sl.nil _ _⟩,⟨Sl.nil _ _,Sl.nil _ _,Sl.nil _ _,Sl.nil _ _⟩,BE _,BE _,Sl.nil _ _,Sl.nil _ _⟩
def W4 (life:Int) (a c:List Int) (v:Value) (H':Heap) (O':Own):Prop :=
 O'=[]∧∃ w,v=.tuple #[.agg (al w (Tt life a c).1).toArray,iV (Tt life a c).2]∧BdS H' w (Tt life a c).1
theorem JI {life:Int} {a c:List Int} (h:JJ life a c=false) (H:Heap):W4 life a c (.tuple #[.agg (al vH zBd).toArray,iV 2]) H []:=by
 refine⟨rfl,vH,?_,?_⟩
 ·simp only[Tt,h];rfl
 ·simp only[Tt,h];exact Wy H
theorem RQ {life:Int} {a c:List Int} (h:JJ life a c=true) {H:Heap} {o l0 l1:Value} {O O1 O2 O3:Own} (hO:O.Perm (O1++(O2++O3))) (ho:OSl aH 12 o ((gZ 0 a 0++gZ a.length c 1).map Ob.row) O1)
  (hl:OSl aK 1 l0 (aE ((gZ 0 a 0).map (·.id))) O2) (hm:OSl aK 1 l1 (aE ((gZ a.length c 1).map (·.id))) O3) {P:Program} :
  (Tree.ret (.tuple #[.agg (al ⟨o,l0,qQ,qQ,qQ,l1,qQ,qQ,qQ,qQ,qQ,qQ,qQ⟩ (UF life a c)).toArray,iV 0]) []).den P (W4 life a c) H O:=by
 intro hc0
 have hc:Cons H (O1++(O2++O3)):=let ⟨w,F,hm⟩:=hc0;⟨w,F,hm.perm (hO.append_right F)⟩
 obtain⟨H1,g1,s1,le1⟩:=ho.freeze hc
 have hc1:Cons H1 (O2++O3):=let ⟨w,F,hm⟩:=hc;⟨w,F,(g1 w F hm).1⟩
 obtain⟨H2,g2,s2,l2⟩:=hl.freeze hc1
 have hc2:Cons H2 (O3++[]):=by
  obtain⟨w,F,hm⟩:=hc1
  exact⟨w,F,by rw[List.append_nil];exact (g2 w F hm).1⟩
 obtain⟨H3,g3,s3,l3⟩:=hm.freeze hc2
 rw[List.append_nil] at g3
 refine⟨H3,[],(Ghost.perm hO).trans (g1.trans (g2.trans g3)),rfl,⟨o,l0,qQ,qQ,qQ,l1,qQ,qQ,qQ,qQ,qQ,qQ,qQ⟩,?_,?_⟩
 ·simp only[Tt,h];rfl
 ·simp only[Tt,h,if_true]
  exact⟨(s1.le l2).le l3,⟨s2.le l3,Sl.nil _ _,Sl.nil _ _,Sl.nil _ _⟩,⟨s3,Sl.nil _ _,Sl.nil _ _,Sl.nil _ _⟩,BE _,BE _,Sl.nil _ _,Sl.nil _ _⟩
theorem Dv (l:List Int) (x:Int):aE l++[[iV x]]=aE (l++[x]):=by simp[aE]
theorem Ir {life:Int} {a c:List Int} {i:Nat} (h:i < (a++c).length) (hx:¬ (0≤(a++c)[i]∧(a++c)[i]≤399)):JJ life a c=false:=by
 unfold JJ
 have:((a++c).all fun x=>decide (0≤x∧x≤399))=false:=by
  rw[Bool.eq_false_iff]
  intro hall
  have:=List.all_eq_true.1 hall _ (List.getElem_mem h)
  exact hx (by simpa using this)
 rw[this,Bool.and_false]
theorem LY {l:List Int} {i:Nat} (h:i < l.length) (h1:∀ x ∈ l.take i,0≤x∧x≤399) (h2:0≤l[i]∧l[i]≤399):∀ x ∈ l.take (i + 1),0≤x∧x≤399:=by
 intro x hx
 rw[List.take_add_one,List.getElem?_eq_getElem h] at hx
 rcases List.mem_append.1 hx with hx | hx
 ·exact h1 x hx
 ·simp at hx;subst hx;exact h2
theorem xN {P:Program} {gd:Gd} {op:POp} {args:List Value} {k:Value→Tree} {H:Heap} {O:Own} {Q:Value→Heap→Own→Prop} {v:Value} (h:ak op args=some v) (h1:v.oneCell'=true) (hk:(k v).den P Q H O) :
  (Tree.pure gd op args k).den P Q H O:=⟨v,fun _=>h,.inr h1,hk⟩
theorem IC {P:Program} {gd:Gd} {p:Value} {m:Nat} {vs:List Value} {k:List Value→Tree} {H:Heap} {O:Own} {Q:Value→Heap→Own→Prop} (h:H.read p m=some vs) (hl:vs.length=m) (ho:Ones vs)
  (hk:(k vs).den P Q H O):(Tree.load gd p m k).den P Q H O:=⟨vs,hl,ho,fun _=>.inl h,hk⟩
theorem tO {P:Program} {v:Value} {H:Heap} {O X Ox:Own} {Q:Value→Heap→Own→Prop} (hO:O.Perm (X++Ox)) (h:Q v H Ox):(Tree.ret v []).den P Q H O:=by
 intro _
 exact⟨H,Ox,(Ghost.perm hO).trans (Ghost.sub (List.sublist_append_right X Ox)),h⟩
theorem TU:∀ w,(zeroValue aK).run PP w=.ok (iV 0) w:=by
 intro w
 have:(PP.info? aK).bind (·.zero)=some (iV 0):=by kernel_rfl
 simp only[Option.bind_eq_some_iff] at this
 obtain⟨i,hi,hz⟩:=this
 simp[zeroValue,typeInfo,hi,hz]
theorem Pz:PP.underlying cE=some (.map aK aK):=by kernel_rfl
theorem PQ:PP.underlying aK=some (.int .i64):=by kernel_rfl
theorem FQ {m:Hl} {mv:Value} {Om:Own} (hm:OMap .i64 mv m Om) (r1:Nat) (id player:Int) (H:Heap) (h1:((dd m id).getD (iV 0)).oneCell'=true) :
  Triple PP lQ [iV id,iV player,.pointer (some ⟨r1,0,none⟩)] H ((r1,.cells #[mv] cE (0,0))::Om) fun v _ O'=>v=.bool (dd m id).isNone∧∃ Om',O'=(r1,.cells #[mv] cE (0,0))::Om'∧OMap .i64 mv (Bz m id (iV player)) Om':=by
 refine xJ (vs:=[iV id,iV player,.pointer (some ⟨r1,0,none⟩)]) (by kernel_rfl) ⟨rfl,rfl,rfl,trivial⟩ ?_
 simp only[sa]
 have hr:∀ (H':Heap) (X:Own),Reads H' ((r1,.cells #[mv] cE (0,0))::X) (.pointer (some ⟨r1,0,none⟩)) 1 [mv]:=fun H' X=>.inr ⟨⟨r1,0,none⟩,#[mv],cE,rfl,rfl,by simp,rfl,rfl⟩
 refine ap (hr _ _) rfl ⟨hm.one,trivial⟩ ?_
 refine wT Pz PQ TU hm (fun p hp=>List.mem_cons_of_mem _ hp) id h1 ?_
 refine ap (hr _ _) rfl ⟨hm.one,trivial⟩ ?_
 refine nX Pz PQ hm (O2:=[(r1,.cells #[mv] cE (0,0))]) List.perm_append_comm id (iV player) ?_
 intro r Om' hm' _
 refine ab _ (aJ _) ?_
 intro _
 refine⟨H,(r1,.cells #[mv] cE (0,0))::Om',Ghost.perm (show (Om'++[(r1,Obj.cells #[mv] cE (0,0))]).Perm ([(r1,Obj.cells #[mv] cE (0,0))]++Om') from List.perm_append_comm),?_,Om',rfl,hm'⟩
 cases dd m id <;> rfl
theorem Qu {t ty:TypeId} {m:Hl} {mv:Value} {Om O:Own} {H:Heap} {K:List Value→List (List Value)→Heap→Own→Prop} (hm:OMap .i64 mv m Om) (hsub:∀ p ∈ Om,p ∈ O) (hk:K [iV m.length] [] H O) (ht:(match PP.underlying t with | some (.map _ _)=>true | _=>false)=true:=by kernel_rfl) :
  dZ (fun H1 O1 R=>bW PP ((PrimOp.bi .len #[t] ty).sem [mv]) H1 O1 R) false [] [] .one K H O:=by
 refine JD (v:=iV m.length) ?_ rfl ⟨rfl,trivial⟩ hk
 intro w F hmo
 obtain⟨r,es,clock,rfl,rfl,he⟩:=hm
 have hrow:=(hmo.own (r,.map es clock) (List.mem_append_left _ (hsub _ (by simp)))).1
 have hg:(getObj r).run PP w=.ok (.map es clock) w:=by simp[getObj,Sem.run,hrow]
 have hlen:es.size=m.length:=by have:=congrArg List.length he;simpa using this
 cases hu:PP.underlying t with
 | none=>rw[hu] at ht;cases ht
 | some d =>
  cases d with
  | map kt et =>
   have:(Builtin.len_ #[t] ty #[.map (some r)]).run PP w=.ok (iV m.length) w:=by
    simp only[Builtin.len_]
    simp[run_underlying hu,hg,hlen,goInt]
   simp only[PrimOp.sem,builtin,Sem.run_bind]
   rw[this];rfl
  | _=>rw[hu] at ht;cases ht
theorem tV {lab key:Nat} {lv mv n0:Value} {l:List Int} {pl:Int} {r1:Nat} {H:Heap} {O Om Ox:Own} {pre:List (Int × Int)} {Q:Value→Heap→Own→Prop} {rest:List Value→Tree}
  {eqs:(List Value→Heap→Own→Prop)→List Value→Value→List Value→List Value→List (List Value)→Value→Value→List (List Value × List Value)}
  (hl:RSl H Ox 1 lv (aE l)) (hn:n0=iV l.length) (hm:OMap .i64 mv (iK pre) Om) (hO:O.Perm (Om++Ox)) (hnd:(pre.map (·.1)).Nodup)
  (heq:∀ C a b c d e f g,Eqs (eqs C a b c d e f g))
  (bad:∀ H',Heap.le H H'→¬ ((pre++l.map fun i=>(i,pl)).map (·.1)).Nodup→Q (.bool false) H' Ox)
  (good:∀ H' O' Om',Heap.le H H'→((pre++l.map fun i=>(i,pl)).map (·.1)).Nodup→OMap .i64 mv (iK (pre++l.map fun i=>(i,pl))) Om'→O'.Perm (Om'++Ox)→(rest [iV l.length,mv]).den PP Q H' O') :
  (Tree.loop lab key [iV 0,mv] fun C l3 =>
   .pure [] (.bin .lss .int) [(g l3 0),n0] fun v4 =>
   .br v4 (
    .pure [] (.idx 1) [lv,(g l3 0)] fun v5 =>
    .load [] v5 1 fun l6 =>
    .call false lQ [(g l6 0),iV pl,(.pointer (some ⟨r1,0,none⟩))] [] [⟨r1,cE,[(g l3 1)]⟩] .one fun l7 c7 =>
    .pure [] .not [(g l7 0)] fun v8 =>
    .br v8 (
     .ret (.bool false) []) (
     .pure [] (.bin .add .int) [(g l3 0),iV 1] fun v9 =>
     .cont lab C [v9,(g (c7.getD 0 []) 0)] (eqs C l3 v5 l6 l7 c7 v8 v9))) (rest l3)).den PP Q H O:=by
 subst hn
 refine vj l.length (fun i xs H' O'=>xs=[mv]∧Heap.le H H'∧∃ Om',O'.Perm (Om'++Ox)∧OMap .i64 mv (iK (pre++(l.take i).map fun i=>(i,pl))) Om'∧((pre++(l.take i).map fun i=>(i,pl)).map (·.1)).Nodup)
  ⟨rfl,Heap.le_refl H,Om,hO,by simpa using hm,by simpa using hnd⟩ ?_
 rintro i xs H' O' hi - - - ⟨rfl,hle,Om',hO',hm',hnd'⟩
 refine ab _ (aB _ _) (ai (fun hb=>?_) (fun hb=>?_))
 ·have hlt:i < l.length:=by simpa using hb
  obtain⟨a,h1,h2,_,h3,h4⟩:=((hl.le hle).own (fun p hp=>hO'.mem_iff.2 (List.mem_append_right Om' hp))).idx .i64 i [iV l[i]] (by simp[aE,hlt])
  refine ab _ h1 (ap h2 h3 h4 ?_)
  have hone:((dd (iK (pre++(l.take i).map fun i=>(i,pl))) l[i]).getD (iV 0)).oneCell'=true:=by
   rw[eu];cases cz (pre++(l.take i).map fun i=>(i,pl)) l[i] <;> rfl
  have hc:=FQ hm' r1 l[i] pl H' hone
  intro _
  refine⟨H',Om',Ox,_,Ghost.perm hO',hc,?_⟩
  rintro v H2 O2 ⟨rfl,Om2,rfl,hm2⟩ hle2
  refine⟨[_],[[mv]],Om2,rfl,⟨rfl,trivial⟩,⟨rfl,⟨hm2.one,trivial⟩,trivial⟩,rfl,?_⟩
  refine ab _ (aJ _) (ai (fun hb=>?_) (fun hb=>?_))
  ·have hin:l[i] ∈ (pre++(l.take i).map fun i=>(i,pl)).map (·.1):=by
    rw[eu] at hb
    simp only[Bool.not_eq_true',Option.isNone_map] at hb
    rcases Classical.em (l[i] ∈ (pre++(l.take i).map fun i=>(i,pl)).map (·.1)) with h | h
    ·exact h
    ·rw[fB.2 h] at hb;cases hb
   refine tO (List.Perm.refl _) (bad H2 (Heap.le_trans hle hle2) ?_)
   intro hnd2
   have e:pre++l.map (fun i=>(i,pl))=(pre++(l.take i).map fun i=>(i,pl))++((l[i],pl)::(l.drop (i + 1)).map fun i=>(i,pl)):=by
    rw[List.append_assoc,← List.map_cons (f:=fun i=>(i,pl)),← List.drop_eq_getElem_cons hlt,← List.map_append,List.take_append_drop]
   rw[e,List.map_append,List.map_cons] at hnd2
   exact (List.nodup_append.1 hnd2).2.2 _ hin _ (List.mem_cons_self) rfl
  ·have hnin:l[i] ∉ (pre++(l.take i).map fun i=>(i,pl)).map (·.1):=by
    rw[eu] at hb
    simp only[Bool.not_eq_false',Option.isNone_map,Option.isNone_iff_eq_none] at hb
    exact fB.1 hb
   have e:pre++(l.take (i + 1)).map (fun i=>(i,pl))=(pre++(l.take i).map fun i=>(i,pl))++[(l[i],pl)]:=by
    rw[List.take_add_one,List.getElem?_eq_getElem hlt,List.map_append,List.append_assoc];rfl
   refine ab _ (az (by have:=hl.lenB;simp[aE] at this;omega)) (nW (heq _ _ _ _ _ _ _ _) hlt ⟨rfl,Heap.le_trans hle hle2,Om2,List.Perm.refl _,?_,?_⟩)
   ·rw[e,← F2 hnin];exact hm2
   ·rw[e,List.map_append,List.nodup_append]
    refine⟨hnd',by simp,?_⟩
    intro x hx y hy
    simp only[List.map_cons,List.map_nil,List.mem_singleton] at hy
    subst hy
    rintro rfl
    exact hnin hx
 ·have hie:i=l.length:=by have:¬ ((i:Int) < (l.length:Int)):=(by simpa using hb);omega
  subst hie
  rw[List.take_length] at hm' hnd'
  exact good H' O' Om' hle hnd' hm' hO'
theorem pT (r:Nat) (o:Nat) (H:Heap) (O:Own):RetO PP yS [.pointer (some ⟨r,o,none⟩)] H O (.agg #[.pointer (some ⟨r,o + 5,none⟩),.pointer (some ⟨r,o + 6,none⟩),.pointer (some ⟨r,o + 7,none⟩),.pointer (some ⟨r,o + 8,none⟩)]):=by
 refine Ci (vs:=[.pointer (some ⟨r,o,none⟩)]) (by kernel_rfl) ⟨rfl,trivial⟩ ?_
 simp only[yF]
 refine af fun r0=>aw rfl (aw rfl (aw rfl (aw rfl (aw rfl (aw rfl (aw rfl (aw rfl (aa (aa (ah ⟨?_,rfl⟩))))))))))
 simp only[g,List.getD_eq_getElem?_getD,List.getElem?_cons_zero,Option.getD_some,aO,cL]
theorem SL {H:Heap} {O:Own} {v:cn} {b:Bd} (h:BdR H O v b):RetO PP wm [.agg (al v b).toArray] H O (.bool (bD aW b)):=by
 refine Bh (vs:=al v b) (by kernel_rfl) (am h) ?_
 simp only[vW]
 have len1:∀ {H':Heap} {O':Own} {w:Value} {l:List Int},RSl H' O' 1 w (aE l)→ak .len [w]=some (iV l.length):=fun h=>by have:=h.len;rwa [aE,List.length_map] at this
 have failB:∀ {l:List (Int × Int)},(∃ r,aL b=l++r)→¬ (l.map (·.1)).Nodup→(Value.bool false:Value)=.bool (bD aW b):=by
  rintro l ⟨r,hr⟩ hn
  have:¬ ((aL b).map (·.1)).Nodup:=by
   rw[hr,List.map_append]
   exact fun h=>hn (List.nodup_append.1 h).1
  simp only[bD,this,decide_false,Bool.false_and]
 refine af fun r0=>D2 (kd:=.i64) fun mv O1 hm=>af fun r1=>aa (aj (pT r0 1 H _) rfl ⟨rfl,rfl,rfl,rfl,trivial⟩ fun H1 l1=>?_)
 refine ae (ae (ae (ae (aa (ab _ (len1 h.s0.lib) ?_)))))
 replace h:=h.le l1
 refine tV (mv:=mv) (pre:=[]) (Ox:=O) h.s0.lib rfl hm (List.Perm.refl _) (by simp) (by intros;simp[Eqs]) (fun H' _ hn=>⟨failB (l:=[]++b.s0.lib.map fun i=>(i,0)) ⟨_,by simp[aL,cB];rfl⟩ hn,rfl⟩) ?_
 intro H2 O2 Om2 l2 nd2 hm2 hO2
 replace h:=h.le l2
 refine aa (ab _ (len1 h.s0.hand) ?_)
 refine tV (mv:=mv) (pre:=[]++b.s0.lib.map fun i=>(i,0)) (Ox:=O) h.s0.hand rfl hm2 hO2 nd2 (by intros;simp[Eqs]) (fun H' _ hn=>⟨failB ⟨_,by simp[aL,cB];rfl⟩ hn,rfl⟩) ?_
 intro H3 O3 Om3 l3 nd3 hm3 hO3
 replace h:=h.le l3
 refine aa (ab _ (len1 h.s0.field) ?_)
 refine tV (mv:=mv) (Ox:=O) h.s0.field rfl hm3 hO3 nd3 (by intros;simp[Eqs]) (fun H' _ hn=>⟨failB ⟨_,by simp[aL,cB];rfl⟩ hn,rfl⟩) ?_
 intro H4 O4 Om4 l4 nd4 hm4 hO4
 replace h:=h.le l4
 refine aa (ab _ (len1 h.s0.grave) ?_)
 refine tV (mv:=mv) (Ox:=O) h.s0.grave rfl hm4 hO4 nd4 (by intros;simp[Eqs]) (fun H' _ hn=>⟨failB ⟨_,by simp[aL,cB];rfl⟩ hn,rfl⟩) ?_
 intro H5 O5 Om5 l5 nd5 hm5 hO5
 replace h:=h.le l5
 refine aj (pT r0 15 H5 _) rfl ⟨rfl,rfl,rfl,rfl,trivial⟩ fun H6 l6=>?_
 replace h:=h.le l6
 refine ae (ae (ae (ae (aa (ab _ (len1 h.s1.lib) ?_)))))
 refine tV (mv:=mv) (Ox:=O) h.s1.lib rfl hm5 hO5 nd5 (by intros;simp[Eqs]) (fun H' _ hn=>⟨failB ⟨_,by simp[aL,cB];rfl⟩ hn,rfl⟩) ?_
 intro H7 O7 Om7 l7 nd7 hm7 hO7
 replace h:=h.le l7
 refine aa (ab _ (len1 h.s1.hand) ?_)
 refine tV (mv:=mv) (Ox:=O) h.s1.hand rfl hm7 hO7 nd7 (by intros;simp[Eqs]) (fun H' _ hn=>⟨failB ⟨_,by simp[aL,cB];rfl⟩ hn,rfl⟩) ?_
 intro H8 O8 Om8 l8 nd8 hm8 hO8
 replace h:=h.le l8
 refine aa (ab _ (len1 h.s1.field) ?_)
 refine tV (mv:=mv) (Ox:=O) h.s1.field rfl hm8 hO8 nd8 (by intros;simp[Eqs]) (fun H' _ hn=>⟨failB ⟨_,by simp[aL,cB];rfl⟩ hn,rfl⟩) ?_
 intro H9 O9 Om9 l9 nd9 hm9 hO9
 replace h:=h.le l9
 refine aa (ab _ (len1 h.s1.grave) ?_)
 refine tV (mv:=mv) (Ox:=O) h.s1.grave rfl hm9 hO9 nd9 (by intros;simp[Eqs]) (fun H' _ hn=>⟨failB ⟨_,by simp[aL,cB];rfl⟩ hn,rfl⟩) ?_
 intro H10 O10 Om10 l10 nd10 hm10 hO10
 replace h:=h.le l10
 have hpre:∃ pre,pre=cB b.s0 0++cB b.s1 1:=⟨_,rfl⟩
 obtain⟨pre,hpe⟩:=hpre
 have e10:([]++b.s0.lib.map (fun i=>(i,(0:Int)))++b.s0.hand.map (fun i=>(i,0))++b.s0.field.map (fun i=>(i,0))++b.s0.grave.map (fun i=>(i,0))++b.s1.lib.map (fun i=>(i,1))++b.s1.hand.map (fun i=>(i,1))++b.s1.field.map (fun i=>(i,1))++b.s1.grave.map (fun i=>(i,1)))=pre:=by
  rw[hpe];simp[cB]
 rw[e10] at nd10 hm10
 have hpb:aL b=pre++eK b.stack:=by rw[hpe];simp[aL]
 refine D2 (kd:=.i64) fun cv Oc0 hc0=>aa (ab _ (ItsR.len h.stack) ?_)
 have stk:=h.stack
 obtain⟨rows,hrs,hrl,hit⟩:=stk
 refine vj b.stack.length (fun i xs H' O'=>xs=[mv]∧Heap.le H10 H'∧∃ Om Oc,O'.Perm (Om++(Oc++O))∧OMap .i64 mv (iK (pre++eK (b.stack.take i))) Om∧OMap .i64 cv (iK (bg (b.stack.take i))) Oc∧((pre++eK (b.stack.take i)).map (·.1)).Nodup)
  ⟨rfl,Heap.le_refl _,Om10,Oc0,?_,by simpa [eK,bH] using hm10,by simpa [bg,bH,iK] using hc0,by simpa [eK,bH] using nd10⟩ ?_
 ·exact ((hO10.append_left Oc0).trans (by rw[← List.append_assoc,← List.append_assoc];exact List.perm_append_comm.append_right O))
 rintro i xs H11 O11 hi - - - ⟨rfl,l11,Om,Oc,hO,hm,hc,hnd⟩
 refine ab _ (aB _ _) (ai (fun hb=>?_) (fun hb=>?_))
 ·have hlt:i < b.stack.length:=by simpa using hb
  have hsub:∀ p ∈ O,p ∈ O11:=fun p hp=>hO.mem_iff.2 (by simp[hp])
  obtain⟨a,h1,h2,_,h3,h4⟩:=((hrs.le l11).own hsub).idx .i64 i rows[i] (by simp[hrl,hlt])
  obtain⟨s,hrow,_⟩:=hit i rows[i] b.stack[i] (by simp[hrl,hlt]) (by simp[hlt])
  rw[hrow] at h2 h3 h4
  have etk:b.stack.take (i + 1)=b.stack.take i++[b.stack[i]]:=by rw[List.take_add_one,List.getElem?_eq_getElem hlt];rfl
  refine ab _ h1 (ap h2 h3 h4 (af fun r2=>aa (aa (ab _ (aB _ _) (ai (fun hb=>?_) (fun hb=>?_))))))
  ·
   have htr:b.stack[i].trig < 0:=by simpa using hb
   have eow:eK (b.stack.take (i + 1))=eK (b.stack.take i)++[(b.stack[i].id,b.stack[i].player)]:=by
    rw[etk,oV,Ik htr]
   have eca:bg (b.stack.take (i + 1))=bg (b.stack.take i)++[(b.stack[i].id,b.stack[i].card)]:=by
    rw[etk,yj,NA htr]
   have hone:((dd (iK (pre++eK (b.stack.take i))) b.stack[i].id).getD (iV 0)).oneCell'=true:=by
    rw[eu];cases cz (pre++eK (b.stack.take i)) b.stack[i].id <;> rfl
   refine aa (aa ?_)
   have hcall:=FQ hm r1 b.stack[i].id b.stack[i].player H11 hone
   intro _
   refine⟨H11,Om,Oc++O,_,Ghost.perm hO,hcall,?_⟩
   rintro w H12 O12 ⟨rfl,Om2,rfl,hm2⟩ l12
   refine⟨[_],[[mv]],Om2,rfl,⟨rfl,trivial⟩,⟨rfl,⟨hm2.one,trivial⟩,trivial⟩,rfl,?_⟩
   refine ab _ (aJ _) (ai (fun hb=>?_) (fun hb=>aa (aa ?_)))
   ·have hin:b.stack[i].id ∈ (pre++eK (b.stack.take i)).map (·.1):=by
     rw[eu] at hb
     simp only[Bool.not_eq_true',Option.isNone_map] at hb
     rcases Classical.em (b.stack[i].id ∈ (pre++eK (b.stack.take i)).map (·.1)) with h | h
     ·exact h
     ·rw[fB.2 h] at hb;cases hb
    refine tO (X:=Om2++Oc) (by rw[List.append_assoc]) ⟨failB (l:=pre++eK (b.stack.take (i + 1))) ⟨eK (b.stack.drop (i + 1)),?_⟩ ?_,rfl⟩
    ·rw[hpb,List.append_assoc,← oV,List.take_append_drop]
    ·rw[eow,← List.append_assoc,List.map_append]
     intro hn
     exact (List.nodup_append.1 hn).2.2 _ hin _ (by simp) rfl
   ·have hnin:b.stack[i].id ∉ (pre++eK (b.stack.take i)).map (·.1):=by
     rw[eu] at hb
     simp only[Bool.not_eq_false',Option.isNone_map,Option.isNone_iff_eq_none] at hb
     exact fB.1 hb
    have hninc:b.stack[i].id ∉ (bg (b.stack.take i)).map (·.1):=by
     intro hin
     refine hnin ?_
     rw[List.map_append]
     refine List.mem_append_right _ ?_
     simpa [bg,eK] using hin
    refine nX Pz PQ hc (O2:=Om2++O) ?_ b.stack[i].id (iV b.stack[i].card) ?_
    ·rw[← List.append_assoc,← List.append_assoc]
     exact List.perm_append_comm.append_right O
    intro w2 Oc2 hc2 _
    refine ab _ (az (by have:=hrs.lenB;omega)) (nW (by simp[Eqs]) hlt ⟨rfl,Heap.le_trans l11 l12,Om2,Oc2,?_,?_,?_,?_⟩)
    ·rw[← List.append_assoc,← List.append_assoc]
     exact List.perm_append_comm.append_right O
    ·rw[eow,← List.append_assoc,← F2 hnin];exact hm2
    ·rw[eca,← F2 hninc];exact hc2
    ·rw[eow,← List.append_assoc,List.map_append,List.nodup_append]
     refine⟨hnd,by simp,?_⟩
     intro x hx y hy
     simp only[List.map_cons,List.map_nil,List.mem_singleton] at hy
     subst hy
     rintro rfl
     exact hnin hx
  ·have htr:¬ b.stack[i].trig < 0:=by simpa using hb
   have eow:eK (b.stack.take (i + 1))=eK (b.stack.take i):=by
    rw[etk,oV,E1 htr,List.append_nil]
   have eca:bg (b.stack.take (i + 1))=bg (b.stack.take i):=by
    rw[etk,yj,J6 htr,List.append_nil]
   refine ab _ (az (by have:=hrs.lenB;omega)) (nW (by simp[Eqs]) hlt ⟨rfl,l11,Om,Oc,hO,?_,?_,?_⟩)
   ·rw[eow];exact hm
   ·rw[eca];exact hc
   ·rw[eow];exact hnd
 ·have hie:i=b.stack.length:=by
   have:¬ ((i:Int) < (b.stack.length:Int)):=by simpa using hb
   omega
  subst hie
  rw[List.take_length] at hm hc hnd
  rw[← hpb] at hm hnd
  replace h:=h.le l11
  have lo:=h.objs.len
  rw[List.length_map] at lo
  have hsub:∀ p ∈ O,p ∈ O11:=fun p hp=>hO.mem_iff.2 (by simp[hp])
  have hsubm:∀ p ∈ Om,p ∈ O11:=fun p hp=>hO.mem_iff.2 (by simp[hp])
  have hsubc:∀ p ∈ Oc,p ∈ O11:=fun p hp=>hO.mem_iff.2 (by simp[hp])
  have hpl:bD aW b=(qx aW (aL b) (bg b.stack) none b.objs && decide ((aL b).length=b.objs.length)):=by
   simp only[bD,hnd,decide_true,Bool.true_and]
  refine aa (ab _ lo ?_)
  refine aQ b.objs.length (fun i H' O'=>O'=O11∧Heap.le H11 H'∧qx aW (aL b) (bg b.stack) none b.objs=qx aW (aL b) (bg b.stack) (nL b.objs i) (b.objs.drop i)) ⟨rfl,Heap.le_refl _,by simp[nL]⟩ ?_
  rintro i H12 O12 hi - ⟨rfl,l12,hor⟩
  refine ab _ (aB _ _) (ai (fun hb=>?_) (fun hb=>?_))
  ·have hlt:i < b.objs.length:=by simpa using hb
   obtain⟨a,h1,h2,_,h3,h4⟩:=((h.objs.le l12).own hsub).idx .i64 i (Ob.row b.objs[i]) (by simp[hlt])
   refine ab _ h1 (ap h2 h3 h4 (af fun r3=>aa (aa (aa ?_))))
   have hone:((dd (iK (aL b)) b.objs[i].id).getD (iV 0)).oneCell'=true:=by
    rw[eu];cases cz (aL b) b.objs[i].id <;> rfl
   have honec:((dd (iK (bg b.stack)) b.objs[i].id).getD (iV 0)).oneCell'=true:=by
    rw[eu];cases cz (bg b.stack) b.objs[i].id <;> rfl
   refine wT Pz PQ TU hm hsubm _ hone (aa (wT Pz PQ TU hc hsubc _ honec (aa ?_)))
   have g1:(dd (iK (aL b)) b.objs[i].id).getD (iV 0)=iV ((cz (aL b) b.objs[i].id).getD 0):=by rw[eu];cases cz (aL b) b.objs[i].id <;> rfl
   have g2:(dd (iK (bg b.stack)) b.objs[i].id).getD (iV 0)=iV ((cz (bg b.stack) b.objs[i].id).getD 0):=by rw[eu];cases cz (bg b.stack) b.objs[i].id <;> rfl
   have g3:(dd (iK (aL b)) b.objs[i].id).isSome=!(cz (aL b) b.objs[i].id).isNone:=by rw[eu];cases cz (aL b) b.objs[i].id <;> rfl
   have g4:(dd (iK (bg b.stack)) b.objs[i].id).isSome=(cz (bg b.stack) b.objs[i].id).isSome:=by rw[eu];cases cz (bg b.stack) b.objs[i].id <;> rfl
   rw[g1,g2,g3,g4]
   refine aj (vM b.objs[i] H12 O12) rfl ⟨rfl,trivial⟩ fun H13 l13=>?_
   have l13':=Heap.le_trans l12 l13
   have hp:∃ (pv:Value) (x:Int),pv.oneCell'=true∧(0 < i→ak (.idx 12) [v.o,iV ((i:Int) - 1)]=some pv∧GI pv=true∧Reads H13 O12 pv 1 [iV x])∧jv (nL b.objs i) b.objs[i].id=(decide ((i:Int) > 0) && decide (x ≥ b.objs[i].id)):=by
    rcases Nat.eq_zero_or_pos i with rfl | hpos
    ·exact⟨iV 0,0,rfl,fun h=>absurd h (Nat.lt_irrefl 0),by simp[nL,jv]⟩
    ·obtain⟨j,rfl⟩:∃ j,i=j + 1:=⟨i - 1,by omega⟩
     have hj:j < b.objs.length:=by omega
     obtain⟨a,k1,k2,k3,_⟩:=((h.objs.le l13').own hsub).idx .i64 j (Ob.row b.objs[j]) (by simp[hj])
     refine⟨.pointer (some a),b.objs[j].id,rfl,fun _=>⟨?_,rfl,?_⟩,?_⟩
     ·have e:((j + 1:Nat):Int) - 1=(j:Int):=by omega
      rw[e];exact k1
     ·have:=k3 0 1 (by omega)
      have e:aO (.pointer (some a)) 0=.pointer (some a):=by simp[aO,Addr.add]
      rwa [e] at this
     ·rw[xO hj]
      have:((j + 1:Nat):Int) > 0:=by omega
      simp only[jv,this,decide_true,Bool.true_and]
   obtain⟨pv,x,hpone,hpv,hprev⟩:=hp
   have hiB:(i:Int) + 1 < 9223372036854775808:=by have:=h.objs.lenB;simp at this;omega
   have hsub1:ak (.bin .sub .int) [iV i,iV 1]=some (iV ((i:Int) - 1)):=by
    simp only[ak,fL,fg,if_true]
    rw[gJ (by omega) (by omega)]
   have hon:∀ {u:Bool},On [((.bool (decide ((i:Int) > 0)):Value),true),(.bool u,false)]→0 < i:=fun h=>by
    have:=h.1
    simp at this
    omega
   refine ab _ (aJ _) (ae (ab _ (bK _ _) ?_))
   repeat (first | refine aa ?_ | refine ae ?_ | refine ab _ hsub1 ?_)
   refine⟨pv,fun ho=>(hpv (hon ho)).1,.inr hpone,?_⟩
   refine⟨fun ho=>(hpv (hon ho)).2.1,?_⟩
   refine ae (ae (ae (ae ?_)))
   refine⟨[iV x],rfl,⟨rfl,trivial⟩,fun ho=>(hpv (hon ho)).2.2,?_⟩
   repeat (first | refine aa ?_ | refine ae ?_ | refine af fun _=>?_ | refine ab _ (aB _ _) ?_ | refine ab _ (bK _ _) ?_ | refine ab _ (eR _ _) ?_ | refine ab _ (cI _ _) ?_ | refine ab _ (ay _ _) ?_ | refine ab _ (aY _ _) ?_ | refine ab _ (aT _ _) ?_ | refine ab _ (aR _ _) ?_ | refine ab _ (aJ _) ?_ | refine ab _ (wX _ _) ?_ | refine ab _ (rI _ _) ?_)
   have hbad:E5 (aL b) (bg b.stack) (nL b.objs i) (aW b.objs[i]) b.objs[i] =
     ((((!aW b.objs[i] || (decide ((i:Int) > 0) && decide (x ≥ b.objs[i].id))) || (cz (aL b) b.objs[i].id).isNone) || ((cz (aL b) b.objs[i].id).getD 0 != b.objs[i].owner)) || ((cz (bg b.stack) b.objs[i].id).isSome && ((cz (bg b.stack) b.objs[i].id).getD 0 != b.objs[i].card))):=by
    unfold E5;rw[hprev]
   have hstep:qx aW (aL b) (bg b.stack) (nL b.objs i) (b.objs.drop i)=(!E5 (aL b) (bg b.stack) (nL b.objs i) (aW b.objs[i]) b.objs[i] && qx aW (aL b) (bg b.stack) (some b.objs[i].id) (b.objs.drop (i + 1))):=by
    rw[List.drop_eq_getElem_cons hlt,qx]
   refine ai (fun hb=>?_) (fun hb=>?_)
   ·refine tO (X:=Om++Oc) (by rw[List.append_assoc];exact hO) ⟨?_,rfl⟩
    rw[hpl,hor,hstep,hbad]
    simp only[Bool.not_not] at hb
    rw[hb];rfl
   ·refine ab _ (az (by omega)) (aI (by simp[Eqs]) hlt ⟨rfl,l13',?_⟩)
    simp only[Bool.not_not] at hb
    rw[hor,hstep,hbad,hb,xO hlt];rfl
  ·have hie:i=b.objs.length:=by
    have:¬ ((i:Int) < (b.objs.length:Int)):=by simpa using hb
    omega
   subst hie
   rw[List.drop_length] at hor
   refine aa ?_
   refine Qu hm hsubm (aa (ab _ lo (ab _ (ay _ _) (tO (X:=Om++Oc) (by rw[List.append_assoc];exact hO) ⟨?_,rfl⟩))))
   rw[hpl,hor]
   simp only[qx,Bool.true_and,iK,List.length_map]
   congr 1
   rw[Bool.eq_iff_iff]
   simp only[beq_iff_eq,decide_eq_true_eq]
   omega
theorem NT:∀ w,(zeroValue wY).run PP w=.ok (.bool false) w:=by
 intro w
 have:(PP.info? wY).bind (·.zero)=some (.bool false):=by kernel_rfl
 simp only[Option.bind_eq_some_iff] at this
 obtain⟨i,hi,hz⟩:=this
 simp[zeroValue,typeInfo,hi,hz]
theorem Nc:PP.underlying dt=some (.map aK wY):=by kernel_rfl
theorem Tu (a:Int):ak .neg [iV a]=some (iV (IntKind.i64.wrap (0 - a))):=rfl
theorem FH {lab1 key1 lab2 key2:Nat} {fo ft av bv:Value} {own other att:List Int} {bl:List Bl} {H:Heap} {O:Own} {Q:Value→Heap→Own→Prop} {r0:Nat}
  {eqs1:List Value→Value→List (List Value × List Value)}
  {eqs2:List Value→Value→List (List Value × List Value)}
  (ho:RSl H O 1 fo (aE own)) (ht:RSl H O 1 ft (aE other)) (ha:RSl H O 1 av (aE att)) (hb:RSl H O 2 bv (bl.map Bl.row)) (hpo:∀ x ∈ own,0 < x) (hpt:∀ x ∈ other,0 < x∧x≤500)
  (heq1:∀ a b,Eqs (eqs1 a b)) (heq2:∀ a b,Eqs (eqs2 a b))
  (hQ:∀ H',Heap.le H H'→Q (.bool (jD own other att bl)) H' O) :
  (Tree.prim (.makeMap dt false) [] [] [] .one fun l1 _ =>
   .chk (.eqN r0 r0)<|
   .pure [] .len [av] fun v2 =>
   .loop lab1 key1 [(.int .i64 0)] fun C23 l3 =>
    .pure [] (.bin .lss .int) [(g l3 0),v2] fun v4 =>
    .br v4 (
     .pure [] (.idx 1) [av,(g l3 0)] fun v5 =>
     .load [] v5 1 fun l6 =>
     .prim (.lookup dt false) [(g l1 0),(g l6 0)] [] [] .one fun l7 _ =>
     .br (g l7 0) (
      .ret (.bool false) []) (
      .call false cw [fo,(g l6 0)] [] [] .one fun l8 _ =>
      .pure [] .not [(g l8 0)] fun v9 =>
      .br v9 (
       .ret (.bool false) []) (
       .prim (.mapUpdate dt) [(g l1 0),(g l6 0),(.bool true)] [] [] .one fun l10 _ =>
       .pure [] (.bin .add .int) [(g l3 0),(.int .i64 1)] fun v11 =>
       .cont lab1 C23 [v11] (eqs1 l1 v2)))) (
     .chk (.eqN r0 r0)<|
     .pure [] .len [bv] fun v12 =>
     .loop lab2 key2 [(.int .i64 0)] fun C29 l13 =>
      .pure [] (.bin .lss .int) [(g l13 0),v12] fun v14 =>
      .br v14 (
       .pure [] (.idx 2) [bv,(g l13 0)] fun v15 =>
       .load [] v15 2 fun l16 =>
       .newbox fun r1 =>
       .chk (.eqN r1 r1)<|
       .chk (.eqN r1 r1)<|
       .prim (.lookup dt false) [(g l1 0),(g l16 1)] [] [] .one fun l17 _ =>
       .pure [] .not [(g l17 0)] fun v18 =>
       .br v18 (
        .ret (.bool false) []) (
        .chk (.eqN r1 r1)<|
        .pure [] .neg [(g l16 0)] fun v19 =>
        .prim (.lookup dt false) [(g l1 0),v19] [] [] .one fun l20 _ =>
        .br (g l20 0) (
         .ret (.bool false) []) (
         .chk (.eqN r0 r0)<|
         .chk (.eqN r1 r1)<|
         .call false cw [av,(g l16 1)] [] [] .one fun l21 _ =>
         .pure [] .not [(g l21 0)] fun v22 =>
         .br v22 (
          .ret (.bool false) []) (
          .chk (.eqN r1 r1)<|
          .call false cw [ft,(g l16 0)] [] [] .one fun l23 _ =>
          .pure [] .not [(g l23 0)] fun v24 =>
          .br v24 (
           .ret (.bool false) []) (
           .chk (.eqN r1 r1)<|
           .chk (.eqN r1 r1)<|
           .pure [] .neg [(g l16 0)] fun v25 =>
           .prim (.mapUpdate dt) [(g l1 0),(g l16 1),(.bool false)] [] [] .one fun l26 _ =>
           .prim (.mapUpdate dt) [(g l1 0),v25,(.bool true)] [] [] .one fun l27 _ =>
           .pure [] (.bin .add .int) [(g l13 0),(.int .i64 1)] fun v28 =>
           .cont lab2 C29 [v28] (eqs2 l1 v12)))))) (
       .ret (.bool true) []))).den PP Q H O:=by
 have la:=ha.len
 have lb:=hb.len
 rw[aE,List.length_map] at la
 rw[List.length_map] at lb
 refine D2 (kd:=.i64) fun mv Om0 hm0=>aa (ab _ la ?_)
 refine aQ att.length (fun i H' O'=>Heap.le H H'∧∃ m Om,O'.Perm (Om++O)∧OMap .i64 mv m Om∧(∀ k,(dd m k).getD (.bool false)=.bool (qU (att.take i) [] [] k))∧(att.take i).Nodup∧∀ x ∈ att.take i,x ∈ own)
  ⟨Heap.le_refl H,[],Om0,List.Perm.refl _,hm0,fun k=>by simp[dd,qU],by simp,by simp⟩ ?_
 rintro i H1 O1 hi - ⟨l1,m,Om,hO,hm,hs,hnd,hall⟩
 have hsubO:∀ p ∈ O,p ∈ O1:=fun p hp=>hO.mem_iff.2 (List.mem_append_right Om hp)
 have hsubM:∀ p ∈ Om,p ∈ O1:=fun p hp=>hO.mem_iff.2 (List.mem_append_left O hp)
 refine ab _ (aB _ _) (ai (fun hlt=>?_) (fun hge=>?_))
 ·have hlt:i < att.length:=by simpa using hlt
  obtain⟨a,h1,h2,_,h3,h4⟩:=((ha.le l1).own hsubO).idx .i64 i [iV att[i]] (by simp[aE,hlt])
  refine ab _ h1 (ap h2 h3 h4 ?_)
  refine ut Nc PQ NT hm hsubM att[i] (by show ((dd m att[i]).getD (.bool false)).oneCell'=true;rw[hs];rfl) ?_
  show Tree.den PP Q (.br ((dd m att[i]).getD (.bool false)) _ _) H1 O1
  rw[hs]
  have etk:att.take (i + 1)=att.take i++[att[i]]:=by rw[List.take_add_one,List.getElem?_eq_getElem hlt];rfl
  refine ai (fun hin=>?_) (fun hnin=>?_)
  ·refine tO hO ?_
   have:¬ att.Nodup:=by
    intro hn
    have hin:att[i] ∈ att.take i:=by simpa [qU] using hin
    have hn2:(att.take (i + 1)).Nodup:=hn.sublist (List.take_sublist _ _)
    rw[etk,List.nodup_append] at hn2
    exact hn2.2.2 _ hin _ (by simp) rfl
   have:=hQ H1 l1
   simpa [jD,‹¬ att.Nodup›] using this
  ·refine aj (fh ((ho.le l1).own hsubO) att[i]) rfl ⟨rfl,trivial⟩ fun H2 l2=>ab _ (aJ _) (ai (fun hc=>?_) (fun hc=>?_))
   ·refine tO hO ?_
    have hf:(att.all fun x=>own.contains x)=false:=by
     rw[Bool.eq_false_iff]
     intro hh
     have:=List.all_eq_true.1 hh att[i] (List.getElem_mem hlt)
     rw[this] at hc;cases hc
    have:=hQ H2 (Heap.le_trans l1 l2)
    simpa only[jD,hf,Bool.false_and,Bool.and_false] using this
   ·refine nX Nc PQ hm hO att[i] (.bool true) ?_
    intro w Om2 hm2 _
    refine ab _ (az (by have:=ha.lenB;simp[aE] at this;omega)) (aI (heq1 _ _) hlt ⟨Heap.le_trans l1 l2,_,Om2,List.Perm.refl _,hm2,?_,?_,?_⟩)
    ·intro k
     rw[Do]
     by_cases hk:k=att[i]
     ·rw[if_pos hk,etk]
      have:qU (att.take i++[att[i]]) [] [] k=true:=by simp only[qU,decide_eq_true_eq,List.mem_append,List.mem_singleton];exact .inl ⟨.inr hk,by simp⟩
      rw[this];rfl
     ·rw[if_neg hk,hs,etk]
      congr 1
      simp only[qU,List.mem_append,List.mem_singleton,hk,or_false]
    ·rw[etk,List.nodup_append]
     refine⟨hnd,by simp,?_⟩
     intro x hx y hy
     simp only[List.mem_singleton] at hy
     subst hy
     rintro rfl
     simp[qU] at hnin
     exact hnin hx
    ·rw[etk]
     intro x hx
     rcases List.mem_append.1 hx with hx | hx
     ·exact hall x hx
     ·simp only[List.mem_singleton] at hx
      subst hx
      simpa using hc
 ·have hie:i=att.length:=by
   have:¬ ((i:Int) < (att.length:Int)):=by simpa using hge
   omega
  subst hie
  rw[List.take_length] at hs hnd hall
  have hfb:jD own other att bl=wW att other [] [] bl:=by
   have:(att.all fun x=>own.contains x)=true:=by
    rw[List.all_eq_true]
    intro x hx
    simpa using hall x hx
   simp only[jD,hnd,decide_true,this,Bool.true_and]
  refine aa (ab _ lb ?_)
  refine aQ bl.length (fun i H' O'=>Heap.le H1 H'∧∃ m Om ua ub,O'.Perm (Om++O)∧OMap .i64 mv m Om∧(∀ k,(dd m k).getD (.bool false)=.bool (qU att ua ub k))∧(∀ x ∈ ub,0 < x)∧wW att other [] [] bl=wW att other ua ub (bl.drop i))
   ⟨Heap.le_refl H1,m,Om,[],[],hO,hm,hs,by simp,by simp⟩ ?_
  rintro i H2 O2 hi - ⟨l2,m,Om,ua,ub,hO,hm,hs,hub,hgo⟩
  have l2':=Heap.le_trans l1 l2
  have hsubO:∀ p ∈ O,p ∈ O2:=fun p hp=>hO.mem_iff.2 (List.mem_append_right Om hp)
  have hsubM:∀ p ∈ Om,p ∈ O2:=fun p hp=>hO.mem_iff.2 (List.mem_append_left O hp)
  refine ab _ (aB _ _) (ai (fun hlt=>?_) (fun hge=>?_))
  ·have hlt:i < bl.length:=by simpa using hlt
   obtain⟨a,h1,h2,_,h3,h4⟩:=((hb.le l2').own hsubO).idx .i64 i (Bl.row bl[i]) (by simp[hlt])
   rw[List.drop_eq_getElem_cons hlt,wW] at hgo
   generalize bl[i]=x at hgo h2 h3 h4
   have hone:∀ k,((dd m k).getD (.bool false)).oneCell'=true:=fun k=>by rw[hs];rfl
   have fin:∀ H',Heap.le H H'→((!ua.contains x.attacker && att.contains x.attacker && (!ub.contains x.blocker && other.contains x.blocker))=false)→Q (.bool false) H' O:=by
    intro H' hl hf
    have:=hQ H' hl
    rwa [hfb,hgo,hf,Bool.false_and] at this
   refine ab _ h1 (ap h2 h3 h4 (af fun r1=>aa (aa ?_)))
   refine ut Nc PQ NT hm hsubM x.attacker (hone _) ?_
   show Tree.den PP Q (.pure [] .not [(dd m x.attacker).getD (.bool false)] _) H2 O2
   rw[hs]
   refine ab _ (aJ _) (ai (fun h1=>tO hO (fin H2 l2' ?_)) (fun h1=>aa (ab _ (Tu _) ?_)))
   ·simp only[Bool.not_eq_true',qU,decide_eq_false_iff_not,not_or,not_and,Decidable.not_not] at h1
    by_cases hin:x.attacker ∈ att
    ·have:=h1.1 hin
     simp[this]
    ·simp[hin]
   refine ut Nc PQ NT hm hsubM _ (hone _) ?_
   show Tree.den PP Q (.br ((dd m (IntKind.i64.wrap (0 - x.blocker))).getD (.bool false)) _ _) H2 O2
   rw[hs]
   refine ai (fun h2=>tO hO (fin H2 l2' ?_)) (fun h2=>aa (aa ?_))
   ·by_cases hin:x.blocker ∈ other
    ·have hr:=hpt _ hin
     rw[gJ (by omega) (by omega)] at h2
     simp only[qU,decide_eq_true_eq,Int.zero_sub,Int.neg_neg] at h2
     rcases h2 with ⟨h2,_⟩ | h2
     ·have:=hpo _ (hall _ h2);omega
     ·simp[h2]
    ·simp[hin]
   refine aj (fh ((ha.le l2').own hsubO) x.attacker) rfl ⟨rfl,trivial⟩ fun H3 l3=>ab _ (aJ _) (ai (fun h3=>tO hO (fin H3 (Heap.le_trans l2' l3) ?_)) (fun h3=>aa ?_))
   ·simp only[Bool.not_eq_true'] at h3
    rw[h3];simp
   refine aj (fh ((ht.le (Heap.le_trans l2' l3)).own hsubO) x.blocker) rfl ⟨rfl,trivial⟩ fun H4 l4=>ab _ (aJ _) (ai (fun h4=>tO hO (fin H4 (Heap.le_trans l2' (Heap.le_trans l3 l4)) ?_)) (fun h4=>aa (aa (ab _ (Tu _) ?_))))
   ·simp only[Bool.not_eq_true'] at h4
    rw[h4];simp
   simp only[Bool.not_eq_false'] at h1 h3 h4
   have hain:x.attacker ∈ att:=by simpa using h3
   have hbin:x.blocker ∈ other:=by simpa using h4
   have hr:=hpt _ hbin
   have hapos:=hpo _ (hall _ hain)
   rw[gJ (by omega) (by omega)] at h2 ⊢
   rw[Int.zero_sub] at h2 ⊢
   refine nX Nc PQ hm hO x.attacker (.bool false) ?_
   intro w Om2 hm2 _
   refine nX Nc PQ hm2 (List.Perm.refl _) (-x.blocker) (.bool true) ?_
   intro w Om3 hm3 _
   refine ab _ (az (by have:=hb.lenB;simp at this;omega)) (aI (heq2 _ _) hlt ⟨Heap.le_trans l2 (Heap.le_trans l3 l4),_,Om3,x.attacker::ua,x.blocker::ub,List.Perm.refl _,hm3,Rn hs hub hapos hr.1,?_,?_⟩)
   ·intro y hy
    rcases List.mem_cons.1 hy with rfl | hy
    ·exact hr.1
    ·exact hub y hy
   ·rw[hgo]
    have hua:ua.contains x.attacker=false:=by
     simp only[qU,decide_eq_true_eq] at h1
     rcases h1 with ⟨_,h1⟩ | h1
     ·simpa using h1
     ·have:=hub _ h1;omega
    have hubn:ub.contains x.blocker=false:=by
     simp only[qU,decide_eq_false_iff_not,not_or,Int.neg_neg] at h2
     simpa using h2.2
    rw[hua,h3,hubn,h4];rfl
  ·have hie:i=bl.length:=by
    have:¬ ((i:Int) < (bl.length:Int)):=by simpa using hge
    omega
   subst hie
   rw[List.drop_length] at hgo
   refine tO hO ?_
   have:=hQ H2 l2'
   rwa [hfb,hgo,wW] at this
end Go.Proofs.YtdhobpmnkfmcfaaGreatDoor
