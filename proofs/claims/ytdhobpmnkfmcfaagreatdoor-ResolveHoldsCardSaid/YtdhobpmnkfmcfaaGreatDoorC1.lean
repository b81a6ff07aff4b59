/- Small functions: numbers, slices of ints, function values over slices. -/
import Derived.Test.YtdhobpmnkfmcfaaGreatDoorBT6
import Derived.Test.YtdhobpmnkfmcfaaGreatDoorFw2
import Derived.Test.YtdhobpmnkfmcfaaGreatDoorFw2
import Derived.Test.YtdhobpmnkfmcfaaGreatDoorFw2
namespace Go.Proofs.YtdhobpmnkfmcfaaGreatDoor
open Go Go.Sx
set_option maxRecDepth 100000
set_option maxHeartbeats 1000000
abbrev I (n:Int):Value:=.int .i64 n
theorem dd (a lo hi:Int) (H:Heap) (O:Own):RetO PP vR [I a,I lo,I hi] H O (.bool (decide (lo≤a∧a≤hi))):=by
 refine AK (vs:=[I a,I lo,I hi]) (by kernel_rfl) ⟨rfl,rfl,rfl,trivial⟩ ?_
 unfold pd
 refine aa _ (dt _ _) (ae (ae (aa _ (eY _ _) (ae (aa _ (aU _ _) (ah ⟨?_,rfl⟩))))))
 simp [Bool.decide_and]
def qO:List Int→Int→Int→Int
 | [],_,_=>-1
 | a::r,x,i=>if x == a then i else qO r x (i + 1)
theorem JP:∀ (l:List Int) (x i:Int),0≤i→(decide (0≤qO l x i)=l.contains x)
 | [],x,i,_=>by simp [qO]
 | a::r,x,i,h=>by
  simp only [qO,List.contains_cons]
  by_cases hx:x=a
  ·simp [hx,h]
  ·simp only [beq_iff_eq,hx,if_false]
   rw [JP r x (i + 1) (by omega)]
   simp [hx]
theorem fk {H:Heap} {O:Own} {v:Value} {l:List Int} (h:RSl H O 1 v (l.map fun n=>[I n])) (x:Int):RetO PP kQ [v,I x] H O (I (qO l x 0)):=by
 refine pC (vs:=[v,I x]) (by kernel_rfl) ⟨h.one,rfl,trivial⟩ ?_
 simp only [fY]
 refine aa _ h.len ?_
 refine aX l.length (fun i H' O'=>O'=O∧Heap.le H H'∧qO l x 0=qO (l.drop i) x i) ⟨rfl,Heap.le_refl H,by simp⟩ ?_
 rintro i H' O' hi - ⟨rfl,hle,hor⟩
 refine aa _ (aI _ _) (aj (fun hb=>?_) (fun hb=>?_))
 ·have hlt:i < l.length:=by simpa using hb
  obtain ⟨a,h1,h2,_,h3,h4⟩:=(h.le hle).idx .i64 i [I l[i]] (by simp [hlt])
  refine aa _ h1 (aw h2 h3 h4 (aa _ (aC _ _) (aj (fun hb=>?_) (fun hb=>?_))))
  ·refine ah ⟨?_,rfl⟩
   rw [hor,List.drop_eq_getElem_cons hlt,qO,if_pos hb];rfl
  ·refine aa _ (aA (by have:=h.lenB;simp at this;omega)) (aR (by simp [Eqs]) hlt ⟨rfl,hle,?_⟩)
   rw [hor,List.drop_eq_getElem_cons hlt,qO,if_neg (by rw [hb];simp)];rfl
 ·have hge:l.length≤i:=by simpa using hb
  refine ah ⟨?_,rfl⟩
  rw [hor,List.drop_of_length_le hge];rfl
theorem eF {H:Heap} {O:Own} {v:Value} {l:List Int} (h:RSl H O 1 v (l.map fun n=>[I n])) (x:Int):RetO PP cu [v,I x] H O (.bool (l.contains x)):=by
 refine ng (vs:=[v,I x]) (by kernel_rfl) ⟨h.one,rfl,trivial⟩ ?_
 simp only [eG]
 refine ai (fk h x) rfl ⟨rfl,trivial⟩ fun H1 _=>aa _ (dt _ _) (ah ⟨?_,rfl⟩)
 rw [← JP l x 0 (by omega)]
theorem fm {H:Heap} {v:Value} {l:List (List Value)} (h:Sl H 1 v l) (hb:l.length≤2 ^ 40):Triple PP kR [v] H [] fun v' H' O'=>OSl aM 1 v' l O':=by
 refine pD (vs:=[v]) (by kernel_rfl) ⟨h.one,trivial⟩ ?_
 simp only [ga]
 obtain ⟨a,cap,rfl,h1,h2,h3⟩:=h
 have hev:ak (.bin .eql .slice) [.slice a l.length cap,.slice none 0 0]=some (.bool a.isNone):=by cases a <;> rfl
 refine aa _ hev (aj (fun hn=>ah ?_) (fun hn=>fun r0=>?_))
 ·have hl:l=[]:=by
   by_cases hl:l=[]
   ·exact hl
   ·obtain ⟨ad,rfl,_⟩:=h3 hl;cases hn
  subst hl
  exact OSl.nil aM 1
 ·refine aD (rows:=[]) (news:=l) (O1:=[]) (O2:=[]) (e:=aM) (size:=1) (bytes:=8) (by kernel_rfl) (List.Perm.refl _) (.inl ⟨⟨_,rfl⟩,rfl,rfl⟩) (fun Hf hl _=>Sl.le hl ⟨a,cap,rfl,h1,h2,h3⟩) (by simp;omega) (by simp;omega) ?_
  intro v' O1' H' _ ho
  refine ah ?_
  rw [List.append_nil]
  exact ho
end Go.Proofs.YtdhobpmnkfmcfaaGreatDoor
namespace Go.Sx
open Go
abbrev iV (n:Int):Value:=.int .i64 n
def aG (l:List Int):List (List Value):=l.map fun n=>[iV n]
structure Ob where
 (id card owner power tough dmg cnt pp pt:Int)
 (tap sick doom:Bool)
deriving DecidableEq
def Ob.row (o:Ob):List Value:=[iV o.id,iV o.card,iV o.owner,iV o.power,iV o.tough,iV o.dmg,iV o.cnt,iV o.pp,iV o.pt,.bool o.tap,.bool o.sick,.bool o.doom]
structure Tg where
 (id player:Int)
deriving DecidableEq
def Tg.row (t:Tg):List Value:=[iV t.id,iV t.player]
structure It where
 (player id card trig:Int)
 tgs:List Tg
deriving DecidableEq
structure Bl where
 (blocker attacker:Int)
deriving DecidableEq
def Bl.row (b:Bl):List Value:=[iV b.blocker,iV b.attacker]
structure St where
 (life p0 p1 p2 p3:Int)
 (lib hand field grave:List Int)
 (empty played kept:Bool)
 (mull acts:Int)
deriving DecidableEq
structure Bd where
 objs:List Ob
 (s0 s1:St)
 (stack queue:List It)
 att:List Int
 blocks:List Bl
 (turn active phase holder passes:Int)
deriving DecidableEq
def ItR (H:Heap) (O:Own) (row:List Value) (x:It):Prop:=∃ s,row=[iV x.player,iV x.id,iV x.card,iV x.trig,s]∧RSl H O 2 s (x.tgs.map Tg.row)
def ItsR (H:Heap) (O:Own) (v:Value) (l:List It):Prop:=∃ rows,RSl H O 5 v rows∧rows.length=l.length∧∀ (i:Nat) (r:List Value) (x:It),rows[i]?=some r→l[i]?=some x→ItR H O r x
structure StR (H:Heap) (O:Own) (vl vh vf vg:Value) (s:St):Prop where
 lib:RSl H O 1 vl (aG s.lib)
 hand:RSl H O 1 vh (aG s.hand)
 field:RSl H O 1 vf (aG s.field)
 grave:RSl H O 1 vg (aG s.grave)
def QW (vl vh vf vg:Value) (s:St):List Value:=[iV s.life,iV s.p0,iV s.p1,iV s.p2,iV s.p3,vl,vh,vf,vg,.bool s.empty,.bool s.played,.bool s.kept,iV s.mull,iV s.acts]
structure dG where
 (o l0 h0 f0 g0 l1 h1 f1 g1 s q a b:Value)
def ao (v:dG) (b:Bd):List Value :=
  [v.o,iV b.s0.life,iV b.s0.p0,iV b.s0.p1,iV b.s0.p2,iV b.s0.p3,v.l0,v.h0,v.f0,v.g0,.bool b.s0.empty,.bool b.s0.played,.bool b.s0.kept,iV b.s0.mull,iV b.s0.acts,
   iV b.s1.life,iV b.s1.p0,iV b.s1.p1,iV b.s1.p2,iV b.s1.p3,v.l1,v.h1,v.f1,v.g1,.bool b.s1.empty,.bool b.s1.played,.bool b.s1.kept,iV b.s1.mull,iV b.s1.acts,
   v.s,v.q,v.a,v.b,iV b.turn,iV b.active,iV b.phase,iV b.holder,iV b.passes]
structure BdR (H:Heap) (O:Own) (v:dG) (b:Bd):Prop where
 objs:RSl H O 12 v.o (b.objs.map Ob.row)
 s0:StR H O v.l0 v.h0 v.f0 v.g0 b.s0
 s1:StR H O v.l1 v.h1 v.f1 v.g1 b.s1
 stack:ItsR H O v.s b.stack
 queue:ItsR H O v.q b.queue
 att:RSl H O 1 v.a (aG b.att)
 blocks:RSl H O 2 v.b (b.blocks.map Bl.row)
theorem ItR.le {H H':Heap} {O:Own} {row:List Value} {x:It} (h:ItR H O row x) (hl:Heap.le H H'):ItR H' O row x:=let ⟨s,h1,h2⟩:=h;⟨s,h1,h2.le hl⟩
theorem ItsR.le {H H':Heap} {O:Own} {v:Value} {l:List It} (h:ItsR H O v l) (hl:Heap.le H H'):ItsR H' O v l :=
 let ⟨rows,h1,h2,h3⟩:=h;⟨rows,h1.le hl,h2,fun i r x a b=>(h3 i r x a b).le hl⟩
theorem StR.le {H H':Heap} {O:Own} {vl vh vf vg:Value} {s:St} (h:StR H O vl vh vf vg s) (hl:Heap.le H H'):StR H' O vl vh vf vg s:=⟨h.lib.le hl,h.hand.le hl,h.field.le hl,h.grave.le hl⟩
theorem BdR.le {H H':Heap} {O:Own} {v:dG} {b:Bd} (h:BdR H O v b) (hl:Heap.le H H'):BdR H' O v b :=
 ⟨h.objs.le hl,h.s0.le hl,h.s1.le hl,h.stack.le hl,h.queue.le hl,h.att.le hl,h.blocks.le hl⟩
def au (a lo hi:Int):Bool:=decide (lo≤a∧a≤hi)
def kc (t:Tg):Bool:=au t.id 0 500 && (au t.player 0 1 && (t.id == 0 || t.player == 0))
def cZ (x:It) (q:Bool):Bool :=
 au x.player 0 1 && (au x.id 1 500 && (au x.card 0 399 && (au x.trig (-1) 1 && (!(decide ((x.tgs.length:Int) > 4) || (decide (x.trig ≥ 0) && decide ((x.tgs.length:Int) > 0)) || (q && decide (x.trig < 0))) && !x.tgs.any (fun t=>!kc t)))))
def jH {α:Type} (p:α→Bool):List α→Int→Int
 | [],_=>-1
 | a::r,i=>if p a then i else jH p r (i + 1)
theorem Dy {α:Type} (p:α→Bool):∀ (l:List α) (i:Int),0≤i→decide (0≤jH p l i)=l.any p
 | [],i,_=>by simp [jH]
 | a::r,i,h=>by
  simp only [jH,List.any_cons]
  by_cases hx:p a
  ·simp [hx,h]
  ·simp only [hx,Bool.false_eq_true,if_false,Bool.false_or]
   exact Dy p r (i + 1) (by omega)
end Go.Sx
namespace Go.Proofs.YtdhobpmnkfmcfaaGreatDoor
open Go Go.Sx
set_option maxRecDepth 100000
set_option maxHeartbeats 1000000
theorem UP (t:Tg) (H:Heap) (O:Own):RetO PP yB [.agg #[iV t.id,iV t.player]] H O (.bool (kc t)):=by
 refine Cj (vs:=[iV t.id,iV t.player]) (by kernel_rfl) ⟨rfl,rfl,trivial⟩ ?_
 simp only [rQ]
 refine fun r0=>ab (ai (dd t.id 0 500 H O) rfl ⟨rfl,trivial⟩ fun H1 _=>aj (fun hb=>ab ?_) (fun hb=>ah ⟨?_,rfl⟩))
 ·refine ai (dd t.player 0 1 H1 O) rfl ⟨rfl,trivial⟩ fun H2 _=>?_
  refine ab (ae (ae (aa _ (aC _ _) (ae (ab (ae (ae (ae (ae (aa _ (aC _ _) (ae (ae (ae (aa _ (aP _ _) (ae (aa _ (aU _ _) ?_))))))))))))))))
  refine ah ⟨?_,rfl⟩
  simp only [kc,au,hb,Bool.true_and]
 ·simp only [kc,au,hb,Bool.false_and]
theorem RS (t:Tg) (H:Heap) (O:Own):RetO PP vT [.agg #[iV t.id,iV t.player]] H O (.bool (!kc t)):=by
 refine AM (vs:=[iV t.id,iV t.player]) (by kernel_rfl) ⟨rfl,rfl,trivial⟩ ?_
 simp only [pf]
 exact fun r0=>ab (ai (UP t H O) rfl ⟨rfl,trivial⟩ fun H1 _=>aa _ (aJ _) (ah ⟨rfl,rfl⟩))
theorem xX {H:Heap} {O:Own} {v fv:Value} {l:List Tg} {p:Tg→Bool} (h:RSl H O 2 v (l.map Tg.row)) {f:FuncId} (hf:fv=.func (.func f) #[] #[]) (hok:vr PP f)
  (hp:∀ H',Heap.le H H'→∀ t,RetO PP f [.agg #[iV t.id,iV t.player]] H' O (.bool (p t))):RetO PP cV [v,fv] H O (iV (jH p l 0)):=by
 subst hf
 refine fD (vs:=[v,.func (.func f) #[] #[]]) (by kernel_rfl) ⟨h.one,rfl,trivial⟩ ?_
 simp only [bO]
 refine aa _ h.len ?_
 rw [List.length_map]
 refine aX l.length (fun i H' O'=>O'=O∧Heap.le H H'∧jH p l 0=jH p (l.drop i) i) ⟨rfl,Heap.le_refl H,by simp⟩ ?_
 rintro i H' O' hi - ⟨rfl,hle,hor⟩
 refine aa _ (aI _ _) (aj (fun hb=>?_) (fun hb=>?_))
 ·have hlt:i < l.length:=by simpa using hb
  obtain ⟨a,h1,h2,_,h3,h4⟩:=(h.le hle).idx .i64 i (Tg.row l[i]) (by simp [hlt])
  refine aa _ h1 (aw h2 h3 h4 (gV rfl hok (hp H' hle l[i]) rfl ⟨rfl,trivial⟩ fun H2 hle2=>aj (fun hb=>?_) (fun hb=>?_)))
  ·refine ah ⟨?_,rfl⟩
   rw [hor,List.drop_eq_getElem_cons hlt,jH,if_pos hb];rfl
  ·refine aa _ (aA (by have:=h.lenB;simp at this;omega)) (aR (by simp [Eqs,E]) hlt ⟨rfl,Heap.le_trans hle hle2,?_⟩)
   rw [hor,List.drop_eq_getElem_cons hlt,jH,if_neg (by rw [hb];simp)];rfl
 ·have hge:l.length≤i:=by simpa using hb
  refine ah ⟨?_,rfl⟩
  rw [hor,List.drop_of_length_le hge];rfl
theorem ui {H:Heap} {O:Own} {v fv:Value} {l:List Tg} {p:Tg→Bool} (h:RSl H O 2 v (l.map Tg.row)) {f:FuncId} (hf:fv=.func (.func f) #[] #[]) (hok:vr PP f)
  (hp:∀ H',Heap.le H H'→∀ t,RetO PP f [.agg #[iV t.id,iV t.player]] H' O (.bool (p t))):RetO PP cN [v,fv] H O (.bool (l.any p)):=by
 have hone:fv.oneCell'=true:=by subst hf;rfl
 refine eM (vs:=[v,fv]) (by kernel_rfl) ⟨h.one,hone,trivial⟩ ?_
 simp only [bH]
 refine ai (xX h hf hok hp) rfl ⟨rfl,trivial⟩ fun H1 _=>aa _ (dt _ _) (ah ⟨?_,rfl⟩)
 rw [← Dy p l 0 (by omega)]
theorem Ta {H:Heap} {O:Own} {row:List Value} {x:It} (h:ItR H O row x) (q:Bool):RetO PP Av [.agg row.toArray,.bool q] H O (.bool (cZ x q)):=by
 obtain ⟨s,rfl,hs⟩:=h
 refine EF (vs:=[iV x.player,iV x.id,iV x.card,iV x.trig,s,.bool q]) (by kernel_rfl) ⟨rfl,rfl,rfl,rfl,hs.one,rfl,trivial⟩ ?_
 simp only [uz]
 have hlen:ak .len [s]=some (iV x.tgs.length):=by have:=hs.len;rwa [List.length_map] at this
 refine fun r0=>ab (ai (dd x.player 0 1 H O) rfl ⟨rfl,trivial⟩ fun H1 l1=>aj (fun h1=>ab ?_) (fun h1=>ah ⟨by simp only [cZ,au,h1,Bool.false_and],rfl⟩))
 refine ai (dd x.id 1 500 H1 O) rfl ⟨rfl,trivial⟩ fun H2 l2=>aj (fun h2=>ab ?_) (fun h2=>ah ⟨by simp only [cZ,au,h1,h2,Bool.false_and,Bool.true_and],rfl⟩)
 refine ai (dd x.card 0 399 H2 O) rfl ⟨rfl,trivial⟩ fun H3 l3=>aj (fun h3=>ab ?_) (fun h3=>ah ⟨by simp only [cZ,au,h1,h2,h3,Bool.false_and,Bool.true_and],rfl⟩)
 refine ai (dd x.trig (-1) 1 H3 O) rfl ⟨rfl,trivial⟩ fun H4 l4=>?_
 repeat (first | refine ab ?_ | refine ae ?_ | refine aa _ hlen ?_ | refine aa _ (aI _ _) ?_ | refine aa _ (bN _ _) ?_ | refine aa _ (dt _ _) ?_ | refine aa _ (aU _ _) ?_ | refine aa _ (aP _ _) ?_ | refine aa _ (aJ _) ?_)
 have hle:=Heap.le_trans (Heap.le_trans (Heap.le_trans l1 l2) l3) l4
 have hfb:cZ x q=(!(!decide (-1≤x.trig∧x.trig≤1) || decide ((x.tgs.length:Int) > 4) || (decide (x.trig ≥ 0) && decide ((x.tgs.length:Int) > 0)) || (q && decide (x.trig < 0))) && !x.tgs.any (fun t=>!kc t)):=by
  simp only [cZ,au,h1,h2,h3,Bool.true_and]
  cases decide (-1≤x.trig∧x.trig≤1) <;> simp
 refine aj (fun hb=>ah ⟨?_,rfl⟩) (fun hb=>ab ?_)
 ·rw [hfb,hb];simp
 ·refine ai (ui (p:=fun t=>!kc t) (hs.le hle) rfl (jm ay (by decide)) fun H' _ t=>RS t H' O) rfl ⟨rfl,trivial⟩ fun H5 _=>aa _ (aJ _) (ah ⟨?_,rfl⟩)
  rw [hfb,hb];simp
end Go.Proofs.YtdhobpmnkfmcfaaGreatDoor
namespace Go.Proofs.YtdhobpmnkfmcfaaGreatDoor
open Go Go.Sx
set_option maxRecDepth 100000
set_option maxHeartbeats 1000000
theorem rZ {H:Heap} {O:Own} {v fv:Value} {l:List It} {p:It→Bool} (h:ItsR H O v l) {f:FuncId} {caps:Array Value} (hf:fv=.func (.func f) #[] caps) (hok:vr PP f)
  (hp:∀ H',Heap.le H H'→∀ row x,ItR H' O row x→RetO PP f ([.agg row.toArray]++caps.toList) H' O (.bool (p x))):RetO PP ct [v,fv] H O (iV (jH p l 0)):=by
 subst hf
 obtain ⟨rows,hr,hlen,hit⟩:=h
 refine dk (vs:=[v,.func (.func f) #[] caps]) (by kernel_rfl) ⟨hr.one,rfl,trivial⟩ ?_
 simp only [bC]
 refine aa _ hr.len ?_
 rw [hlen]
 refine aX l.length (fun i H' O'=>O'=O∧Heap.le H H'∧jH p l 0=jH p (l.drop i) i) ⟨rfl,Heap.le_refl H,by simp⟩ ?_
 rintro i H' O' hi - ⟨rfl,hle,hor⟩
 refine aa _ (aI _ _) (aj (fun hb=>?_) (fun hb=>?_))
 ·have hlt:i < l.length:=by simpa using hb
  have hlt':i < rows.length:=by omega
  obtain ⟨a,h1,h2,_,h3,h4⟩:=(hr.le hle).idx .i64 i rows[i] (by simp [hlt'])
  have hx:=(hit i rows[i] l[i] (by simp [hlt']) (by simp [hlt])).le hle
  have hx':=hx
  obtain ⟨s,hrow,hs⟩:=hx
  have hcall:=hp H' hle rows[i] l[i] hx'
  rw [hrow] at h2 h3 h4 hcall
  refine aa _ h1 (aw h2 h3 h4 (gV rfl hok hcall rfl ⟨rfl,trivial⟩ fun H2 hle2=>aj (fun hb=>?_) (fun hb=>?_)))
  ·refine ah ⟨?_,rfl⟩
   rw [hor,List.drop_eq_getElem_cons hlt,jH,if_pos hb];rfl
  ·refine aa _ (aA (by have:=hr.lenB;omega)) (aR (by simp [Eqs,E]) hlt ⟨rfl,Heap.le_trans hle hle2,?_⟩)
   rw [hor,List.drop_eq_getElem_cons hlt,jH,if_neg (by rw [hb];simp)];rfl
 ·have hge:l.length≤i:=by simpa using hb
  refine ah ⟨?_,rfl⟩
  rw [hor,List.drop_of_length_le hge];rfl
theorem ItsR.one {H:Heap} {O:Own} {v:Value} {l:List It} (h:ItsR H O v l):v.oneCell'=true:=by
 obtain ⟨_,h,_⟩:=h
 exact h.one
theorem ItsR.len {H:Heap} {O:Own} {v:Value} {l:List It} (h:ItsR H O v l):ak .len [v]=some (iV l.length):=by
 obtain ⟨rows,h1,h2,_⟩:=h
 rw [h1.len,h2]
theorem nA {H:Heap} {O:Own} {v fv:Value} {l:List It} {p:It→Bool} (h:ItsR H O v l) {f:FuncId} {caps:Array Value} (hf:fv=.func (.func f) #[] caps) (hok:vr PP f)
  (hp:∀ H',Heap.le H H'→∀ row x,ItR H' O row x→RetO PP f ([.agg row.toArray]++caps.toList) H' O (.bool (p x))):RetO PP dj [v,fv] H O (.bool (l.any p)):=by
 have hone:fv.oneCell'=true:=by subst hf;rfl
 refine fR (vs:=[v,fv]) (by kernel_rfl) ⟨ItsR.one h,hone,trivial⟩ ?_
 simp only [bT]
 refine ai (rZ h hf hok hp) rfl ⟨rfl,trivial⟩ fun H1 _=>aa _ (dt _ _) (ah ⟨?_,rfl⟩)
 rw [← Dy p l 0 (by omega)]
theorem Qr {H:Heap} {O:Own} {row:List Value} {x:It} (h:ItR H O row x):RetO PP uP [.agg row.toArray] H O (.bool (!cZ x false)):=by
 have hf:=Ta h false
 obtain ⟨s,rfl,hs⟩:=h
 refine yU (vs:=[iV x.player,iV x.id,iV x.card,iV x.trig,s]) (by kernel_rfl) ⟨rfl,rfl,rfl,rfl,hs.one,trivial⟩ ?_
 simp only [nJ]
 exact fun r0=>ab (ai hf rfl ⟨rfl,trivial⟩ fun H1 _=>aa _ (aJ _) (ah ⟨rfl,rfl⟩))
theorem Qq {H:Heap} {O:Own} {row:List Value} {x:It} (h:ItR H O row x):RetO PP uO [.agg row.toArray] H O (.bool (!cZ x true)):=by
 have hf:=Ta h true
 obtain ⟨s,rfl,hs⟩:=h
 refine yT (vs:=[iV x.player,iV x.id,iV x.card,iV x.trig,s]) (by kernel_rfl) ⟨rfl,rfl,rfl,rfl,hs.one,trivial⟩ ?_
 simp only [nI]
 exact fun r0=>ab (ai hf rfl ⟨rfl,trivial⟩ fun H1 _=>aa _ (aJ _) (ah ⟨rfl,rfl⟩))
theorem QA {l:List Value} {i:Nat} {v:Value} (h:l[i]?=some v):ak .aidx (iV i::l)=some v:=by
 have hlt:=(List.getElem?_eq_some_iff.1 h).1
 simp only [ak,uY]
 rw [if_pos ⟨by omega,by omega⟩]
 simpa using h
theorem GX (a b c d m:Int) (H:Heap) (O:Own):RetO PP yx [.agg #[iV a,iV b,iV c,iV d],iV m] H O (.bool ([a,b,c,d].all fun n=>au n 0 m)):=by
 refine B5 (vs:=[iV a,iV b,iV c,iV d,iV m]) (by kernel_rfl) ⟨rfl,rfl,rfl,rfl,rfl,trivial⟩ ?_
 simp only [rH]
 refine fun r0=>ab (aX 4 (fun i H' O'=>O'=O∧([a,b,c,d].all fun n=>au n 0 m)=(([a,b,c,d].drop i).all fun n=>au n 0 m)) ⟨rfl,rfl⟩ ?_)
 rintro i H' O' hi - ⟨rfl,hor⟩
 refine aa _ (aI _ _) (aj (fun hb=>?_) (fun hb=>?_))
 ·have hlt:i < 4:=by have:=of_decide_eq_true hb;omega
  have hlt':i < [a,b,c,d].length:=hlt
  have hv:[iV a,iV b,iV c,iV d][i]?=some (iV [a,b,c,d][i]):=by
   have:[iV a,iV b,iV c,iV d]=[a,b,c,d].map iV:=rfl
   rw [this,List.getElem?_map,List.getElem?_eq_getElem hlt'];rfl
  refine aa _ (QA hv) (aa _ (aI _ _) (ae (ae (aa _ (bN _ _) (ae (aa _ (aP _ _) (aj (fun hb=>ah ⟨?_,rfl⟩) (fun hb=>aa _ (aA (by omega)) (aR (by simp [Eqs,E]) hlt ⟨rfl,?_⟩)))))))))
  ·rw [hor,List.drop_eq_getElem_cons hlt',List.all_cons]
   have:au [a,b,c,d][i] 0 m=false:=by simp [au] at hb ⊢;omega
   rw [this];rfl
  ·rw [hor,List.drop_eq_getElem_cons hlt',List.all_cons]
   have:au [a,b,c,d][i] 0 m=true:=by simp [au] at hb ⊢;omega
   rw [this];rfl
 ·have:i=4:=by have:=of_decide_eq_false hb;omega
  subst this
  exact ah ⟨by rw [hor];rfl,rfl⟩
theorem Ak (a b c d:Int) (H:Heap) (O:Own):RetO PP Au [.agg #[iV a,iV b,iV c,iV d]] H O (.bool ([a,b,c,d].all fun n=>au n 0 99)):=by
 refine EE (vs:=[iV a,iV b,iV c,iV d]) (by kernel_rfl) ⟨rfl,rfl,rfl,rfl,trivial⟩ ?_
 simp only [ux]
 exact fun r0=>ab (ai (GX a b c d 99 H O) rfl ⟨rfl,trivial⟩ fun H1 _=>ah ⟨rfl,rfl⟩)
def aY (o:Ob):Bool:=([o.power,o.tough,o.dmg,o.cnt,o.pp,o.pt].all fun n=>au n 0 99) &&
 ((((((o.card == -1) || ((o.power == 0) && (o.tough == 0))) && decide (o.id ≥ 1)) && decide (o.id≤500)) && decide (o.card ≥ -1)) && decide (o.card < 400)) && ((o.owner == 0) || (o.owner == 1))
theorem vF (o:Ob) (H:Heap) (O:Own):RetO PP vM [.agg o.row.toArray] H O (.bool (aY o)):=by
 refine AD (vs:=o.row) (by kernel_rfl) (by simp [Ob.row,Ones,Value.oneCell']) ?_
 simp only [oZ]
 refine fun r0=>ab (ab (ab (ab (ab (ab (aX 6 (fun i H' O'=>O'=O∧([o.power,o.tough,o.dmg,o.cnt,o.pp,o.pt].all fun n=>au n 0 99)=(([o.power,o.tough,o.dmg,o.cnt,o.pp,o.pt].drop i).all fun n=>au n 0 99)) ⟨rfl,rfl⟩ ?_))))))
 rintro i H' O' hi - ⟨rfl,hor⟩
 refine aa _ (aI _ _) (aj (fun hb=>?_) (fun hb=>?_))
 ·have hlt:i < 6:=by have:=of_decide_eq_true hb;omega
  have hlt':i < [o.power,o.tough,o.dmg,o.cnt,o.pp,o.pt].length:=hlt
  have hv:[iV o.power,iV o.tough,iV o.dmg,iV o.cnt,iV o.pp,iV o.pt][i]?=some (iV [o.power,o.tough,o.dmg,o.cnt,o.pp,o.pt][i]):=by
   have:[iV o.power,iV o.tough,iV o.dmg,iV o.cnt,iV o.pp,iV o.pt]=[o.power,o.tough,o.dmg,o.cnt,o.pp,o.pt].map iV:=rfl
   rw [this,List.getElem?_map,List.getElem?_eq_getElem hlt'];rfl
  refine aa _ (QA hv) (aa _ (aI _ _) (ae (aa _ (bN _ _) (ae (aa _ (aP _ _) (aj (fun hb=>ah ⟨?_,rfl⟩) (fun hb=>aa _ (aA (by omega)) (aR (by simp [Eqs,E]) hlt ⟨rfl,?_⟩))))))))
  ·have hf:([o.power,o.tough,o.dmg,o.cnt,o.pp,o.pt].all fun n=>au n 0 99)=false:=by
    rw [hor,List.drop_eq_getElem_cons hlt',List.all_cons]
    have:au [o.power,o.tough,o.dmg,o.cnt,o.pp,o.pt][i] 0 99=false:=by simp [au] at hb ⊢;omega
    rw [this];rfl
   unfold aY;rw [hf];rfl
  ·rw [hor,List.drop_eq_getElem_cons hlt',List.all_cons]
   have:au [o.power,o.tough,o.dmg,o.cnt,o.pp,o.pt][i] 0 99=true:=by simp [au] at hb ⊢;omega
   rw [this];rfl
 ·have:i=6:=by have:=of_decide_eq_false hb;omega
  subst this
  repeat (first | refine ab ?_ | refine ae ?_ | refine af fun _=>?_ | refine aa _ (aI _ _) ?_ | refine aa _ (bN _ _) ?_ | refine aa _ (eY _ _) ?_ | refine aa _ (dt _ _) ?_ | refine aa _ (aC _ _) ?_ | refine aa _ (ba _ _) ?_ | refine aa _ (aU _ _) ?_ | refine aa _ (aP _ _) ?_ | refine aa _ (aJ _) ?_ | refine aa _ (wv _ _) ?_ | refine aa _ (oO _ _) ?_)
  refine ah ⟨?_,rfl⟩
  have hall:([o.power,o.tough,o.dmg,o.cnt,o.pp,o.pt].all fun n=>au n 0 99)=true:=by rw [hor];rfl
  unfold aY;rw [hall,Bool.true_and]
end Go.Proofs.YtdhobpmnkfmcfaaGreatDoor
namespace Go.Proofs.YtdhobpmnkfmcfaaGreatDoor
open Go Go.Sx
set_option maxRecDepth 100000
set_option maxHeartbeats 1000000
theorem qH {P:Program} {gd:Gd} {op:PrimOp} {args:List Value} {k:Value→Tree} {H:Heap} {O:Own} {Q:Value→Heap→Own→Prop} {v:Value} (h:L8 P op args=some v) (hk:(k v).den P Q H O) :
  (Tree.raw gd op args k).den P Q H O:=⟨v,fun _ w=>(KO h w).1,(KO h default).2,hk⟩
def GU:List Bool→Option Bool
 | []=>some true
 | b::r=>match some b with | some true=>GU r | some false=>some false | none=>none
theorem qe:∀ l:List Bool,GU l=some (l.all id)
 | []=>rfl
 | true::r=>by simp [GU,qe r]
 | false::r=>by simp [GU]
theorem WX (o p:Ob):L8 PP (.eqv .neq aO false) [.agg o.row.toArray,.agg p.row.toArray]=some (.bool (!(o == p))):=by
 have e:L8 PP (.eqv .neq aO false) [.agg o.row.toArray,.agg p.row.toArray]=(GU [o.id == p.id,o.card == p.card,o.owner == p.owner,o.power == p.power,o.tough == p.tough,o.dmg == p.dmg,o.cnt == p.cnt,o.pp == p.pp,o.pt == p.pt,o.tap == p.tap,o.sick == p.sick,o.doom == p.doom]).map fun b=>.bool (!b):=by kernel_rfl
 rw [e,qe]
 simp only [Option.map_some,Option.some.injEq,Value.bool.injEq]
 congr 1
 cases o;cases p
 rw [Bool.eq_iff_iff]
 simp
theorem WV (o p:Tg):L8 PP (.eqv .neq az false) [.agg o.row.toArray,.agg p.row.toArray]=some (.bool (!(o == p))):=by
 have e:L8 PP (.eqv .neq az false) [.agg o.row.toArray,.agg p.row.toArray]=(GU [o.id == p.id,o.player == p.player]).map fun b=>.bool (!b):=by kernel_rfl
 rw [e,qe]
 simp only [Option.map_some,Option.some.injEq,Value.bool.injEq]
 congr 1
 cases o;cases p
 rw [Bool.eq_iff_iff]
 simp
theorem W3 (o p:Bl):L8 PP (.eqv .neq bq false) [.agg o.row.toArray,.agg p.row.toArray]=some (.bool (!(o == p))):=by
 have e:L8 PP (.eqv .neq bq false) [.agg o.row.toArray,.agg p.row.toArray]=(GU [o.blocker == p.blocker,o.attacker == p.attacker]).map fun b=>.bool (!b):=by kernel_rfl
 rw [e,qe]
 simp only [Option.map_some,Option.some.injEq,Value.bool.injEq]
 congr 1
 cases o;cases p
 rw [Bool.eq_iff_iff]
 simp
theorem SU (a b c d a' b' c' d':Int):L8 PP (.eqv .neq D7 false) [.agg #[iV a,iV b,iV c,iV d],.agg #[iV a',iV b',iV c',iV d']]=some (.bool (!(a == a' && (b == b' && (c == c' && d == d'))))):=by
 have e:L8 PP (.eqv .neq D7 false) [.agg #[iV a,iV b,iV c,iV d],.agg #[iV a',iV b',iV c',iV d']]=(GU [a == a',b == b',c == c',d == d']).map fun b=>.bool (!b):=by kernel_rfl
 rw [e,qe]
 simp
theorem vx {H:Heap} {O:Own} {v v':Value} {l l':List Int} (h:RSl H O 1 v (aG l)) (h':RSl H O 1 v' (aG l')):RetO PP nQ [v,v'] H O (.bool (l == l')):=by
 refine tC (vs:=[v,v']) (by kernel_rfl) ⟨h.one,h'.one,trivial⟩ ?_
 simp only [jv]
 have hl:=h.len
 have hl':=h'.len
 rw [aG,List.length_map] at hl hl'
 refine aa _ hl (aa _ hl' (aa _ (ba _ _) (aj (fun hb=>ah ⟨?_,rfl⟩) (fun hb=>?_))))
 ·have:l ≠ l':=by intro e;subst e;simp at hb
  simp [this]
 ·have hlen:l.length=l'.length:=by simp at hb;omega
  refine aX l.length (fun i H' O'=>O'=O∧Heap.le H H'∧l.take i=l'.take i) ⟨rfl,Heap.le_refl H,by simp⟩ ?_
  rintro i H' O' hi - ⟨rfl,hle,hor⟩
  refine aa _ hl (aa _ (aI _ _) (aj (fun hb=>?_) (fun hb=>?_)))
  ·have hlt:i < l.length:=by simpa using hb
   have hlt':i < l'.length:=by omega
   obtain ⟨a,h1,h2,_,h3,h4⟩:=(h.le hle).idx .i64 i [iV l[i]] (by simp [aG,hlt])
   obtain ⟨b,k1,k2,_,k3,k4⟩:=(h'.le hle).idx .i64 i [iV l'[i]] (by simp [aG,hlt'])
   refine aa _ h1 (aw h2 h3 h4 (aa _ k1 (aw k2 k3 k4 (aa _ (ba _ _) (aj (fun hb=>ah ⟨?_,rfl⟩) (fun hb=>?_))))))
   ·have hne:l[i] ≠ l'[i]:=by simpa using hb
    have:l ≠ l':=by rintro rfl;exact hne rfl
    simp [this]
   ·have he:l[i]=l'[i]:=by simpa using hb
    refine aa _ (aA (by have:=h.lenB;simp [aG] at this;omega)) (aR (by simp [Eqs,E]) hlt ⟨rfl,hle,?_⟩)
    rw [List.take_add_one,List.take_add_one,hor,List.getElem?_eq_getElem hlt,List.getElem?_eq_getElem hlt',he]
  ·have hge:l.length≤i:=by simpa using hb
   refine ah ⟨?_,rfl⟩
   rw [List.take_of_length_le hge,List.take_of_length_le (by omega)] at hor
   simp [hor]
theorem Mc {H:Heap} {O:Own} {row row':List Value} {x y:It} (h:ItR H O row x) (h':ItR H O row' y):RetO PP kC [.agg row.toArray,.agg row'.toArray] H O (.bool (x == y)):=by
 obtain ⟨s,rfl,hs⟩:=h
 obtain ⟨s',rfl,hs'⟩:=h'
 refine oy (vs:=[iV x.player,iV x.id,iV x.card,iV x.trig,s,iV y.player,iV y.id,iV y.card,iV y.trig,s']) (by kernel_rfl) ⟨rfl,rfl,rfl,rfl,hs.one,rfl,rfl,rfl,rfl,hs'.one,trivial⟩ ?_
 simp only [fq]
 have hl:=hs.len
 have hl':=hs'.len
 rw [List.length_map] at hl hl'
 repeat (first | refine ab ?_ | refine ae ?_ | refine af fun _=>?_ | refine aa _ hl ?_ | refine aa _ hl' ?_ | refine aa _ (ba _ _) ?_ | refine aa _ (aP _ _) ?_)
 refine aj (fun hb=>ah ⟨?_,rfl⟩) (fun hb=>?_)
 ·have:x ≠ y:=by rintro rfl;simp at hb
  simp [this]
 ·simp only [Bool.or_eq_false_iff,bne_eq_false_iff_eq] at hb
  obtain ⟨⟨⟨⟨h1,h2⟩,h3⟩,h4⟩,h5⟩:=hb
  have hlen:x.tgs.length=y.tgs.length:=by omega
  have hxy:(x == y)=(x.tgs == y.tgs):=by
   rw [Bool.eq_iff_iff]
   cases x;cases y
   simp only at h1 h2 h3 h4
   subst h1;subst h2;subst h3;subst h4
   simp
  rw [hxy]
  refine aX x.tgs.length (fun i H' O'=>O'=O∧Heap.le H H'∧x.tgs.take i=y.tgs.take i) ⟨rfl,Heap.le_refl H,by simp⟩ ?_
  rintro i H' O' hi - ⟨rfl,hle,hor⟩
  refine ab (aa _ hl (aa _ (aI _ _) (aj (fun hb=>?_) (fun hb=>?_))))
  ·have hlt:i < x.tgs.length:=by simpa using hb
   have hlt':i < y.tgs.length:=by omega
   obtain ⟨a,h1,h2,_,h3,h4⟩:=(hs.le hle).idx .i64 i (Tg.row x.tgs[i]) (by simp [hlt])
   obtain ⟨b,k1,k2,_,k3,k4⟩:=(hs'.le hle).idx .i64 i (Tg.row y.tgs[i]) (by simp [hlt'])
   refine ab (aa _ h1 (aw h2 h3 h4 (ab (aa _ k1 (aw k2 k3 k4 (qH (WV x.tgs[i] y.tgs[i]) (aj (fun hb=>ah ⟨?_,rfl⟩) (fun hb=>?_))))))))
   ·have hne:x.tgs[i] ≠ y.tgs[i]:=by simpa using hb
    have:x.tgs ≠ y.tgs:=fun e=>hne (by simp only [e])
    simp [this]
   ·have he:x.tgs[i]=y.tgs[i]:=by simpa using hb
    refine aa _ (aA (by have:=hs.lenB;simp at this;omega)) (aR (by simp [Eqs,E]) hlt ⟨rfl,hle,?_⟩)
    rw [List.take_add_one,List.take_add_one,hor,List.getElem?_eq_getElem hlt,List.getElem?_eq_getElem hlt',he]
  ·have hge:x.tgs.length≤i:=by simpa using hb
   refine ah ⟨?_,rfl⟩
   rw [List.take_of_length_le hge,List.take_of_length_le (by omega)] at hor
   simp [hor]
theorem OD {H:Heap} {O:Own} {v v':Value} {l l':List It} (h:ItsR H O v l) (h':ItsR H O v' l'):RetO PP mn [v,v'] H O (.bool (l == l')):=by
 have ho:=ItsR.one h
 have ho':=ItsR.one h'
 have hl:=ItsR.len h
 have hl':=ItsR.len h'
 obtain ⟨rows,hr,hrl,hit⟩:=h
 obtain ⟨rows',hr',hrl',hit'⟩:=h'
 refine sq (vs:=[v,v']) (by kernel_rfl) ⟨ho,ho',trivial⟩ ?_
 simp only [iH]
 refine aa _ hl (aa _ hl' (aa _ (ba _ _) (aj (fun hb=>ah ⟨?_,rfl⟩) (fun hb=>?_))))
 ·have:l ≠ l':=by intro e;subst e;simp at hb
  simp [this]
 ·have hlen:l.length=l'.length:=by simp at hb;omega
  refine aX l.length (fun i H' O'=>O'=O∧Heap.le H H'∧l.take i=l'.take i) ⟨rfl,Heap.le_refl H,by simp⟩ ?_
  rintro i H' O' hi - ⟨rfl,hle,hor⟩
  refine aa _ hl (aa _ (aI _ _) (aj (fun hb=>?_) (fun hb=>?_)))
  ·have hlt:i < l.length:=by simpa using hb
   have hlt':i < l'.length:=by omega
   have hx:=(hit i rows[i] l[i] (by simp [hrl,hlt]) (by simp [hlt])).le hle
   have hy:=(hit' i rows'[i] l'[i] (by simp [hrl',hlt']) (by simp [hlt'])).le hle
   obtain ⟨a,h1,h2,_,h3,h4⟩:=(hr.le hle).idx .i64 i rows[i] (by simp [hrl,hlt])
   obtain ⟨b,k1,k2,_,k3,k4⟩:=(hr'.le hle).idx .i64 i rows'[i] (by simp [hrl',hlt'])
   have hc:=Mc hx hy
   obtain ⟨s,hrow,_⟩:=hx
   obtain ⟨s',hrow',_⟩:=hy
   rw [hrow] at h2 h3 h4 hc
   rw [hrow'] at k2 k3 k4 hc
   refine aa _ h1 (aw h2 h3 h4 (aa _ k1 (aw k2 k3 k4 (ai hc rfl ⟨rfl,trivial⟩ fun H2 hle2=>aa _ (aJ _) (aj (fun hb=>ah ⟨?_,rfl⟩) (fun hb=>?_))))))
   ·have hne:l[i] ≠ l'[i]:=by simpa using hb
    have:l ≠ l':=by rintro rfl;exact hne rfl
    simp [this]
   ·have he:l[i]=l'[i]:=by simpa using hb
    refine aa _ (aA (by have:=hr.lenB;omega)) (aR (by simp [Eqs,E]) hlt ⟨rfl,Heap.le_trans hle hle2,?_⟩)
    rw [List.take_add_one,List.take_add_one,hor,List.getElem?_eq_getElem hlt,List.getElem?_eq_getElem hlt',he]
  ·have hge:l.length≤i:=by simpa using hb
   refine ah ⟨?_,rfl⟩
   rw [List.take_of_length_le hge,List.take_of_length_le (by omega)] at hor
   simp [hor]
theorem oC {vl vh vf vg:Value} (s:St) (hl:vl.oneCell'=true) (hh:vh.oneCell'=true) (hf:vf.oneCell'=true) (hg:vg.oneCell'=true) (H:Heap) (O:Own) :
  RetO PP mq [.agg (QW vl vh vf vg s).toArray] H O (.agg #[vl,vh,vf,vg]):=by
 refine sy (vs:=QW vl vh vf vg s) (by kernel_rfl) ⟨rfl,rfl,rfl,rfl,rfl,hl,hh,hf,hg,rfl,rfl,rfl,rfl,rfl,trivial⟩ ?_
 simp only [iJ]
 refine af fun _=>af fun _=>ab (ab (ab (ab (ab (ab ?_)))))
 exact ah ⟨rfl,rfl⟩
theorem gj {H:Heap} {O:Own} {vl vh vf vg:Value} {s:St} (h:StR H O vl vh vf vg s):vl.oneCell'=true∧vh.oneCell'=true∧vf.oneCell'=true∧vg.oneCell'=true:=⟨h.lib.one,h.hand.one,h.field.one,h.grave.one⟩
theorem ap {H:Heap} {O:Own} {v:dG} {b:Bd} (h:BdR H O v b):Ones (ao v b):=by
 obtain ⟨a1,a2,a3,a4⟩:=gj h.s0
 obtain ⟨b1,b2,b3,b4⟩:=gj h.s1
 exact ⟨h.objs.one,rfl,rfl,rfl,rfl,rfl,a1,a2,a3,a4,rfl,rfl,rfl,rfl,rfl,rfl,rfl,rfl,rfl,rfl,b1,b2,b3,b4,rfl,rfl,rfl,rfl,rfl,ItsR.one h.stack,ItsR.one h.queue,h.att.one,h.blocks.one,rfl,rfl,rfl,rfl,rfl,trivial⟩
theorem aE:∀ {a b:List Value},Ones a→Ones b→Ones (a++b)
 | [],_,_,h=>h
 | _::_,_,h,h'=>⟨h.1,aE h.2 h'⟩
def Gf (s t:St):Bool :=
 !((((((((s.life != t.life || !(s.p0 == t.p0 && (s.p1 == t.p1 && (s.p2 == t.p2 && s.p3 == t.p3)))) || !(s.empty == t.empty)) || !(s.played == t.played)) || !(s.kept == t.kept)) || s.mull != t.mull) || s.acts != t.acts)))
theorem WF (s t:St):(s == t)=(Gf s t && (s.lib == t.lib && (s.hand == t.hand && (s.field == t.field && s.grave == t.grave)))):=by
 cases s;cases t
 rw [Bool.eq_iff_iff]
 simp [Gf]
 constructor
 ·rintro ⟨h1,h2,h3,h4,h5,h6,h7,h8,h9,h10,h11,h12,h13,h14⟩;simp_all
 ·rintro ⟨⟨⟨⟨⟨⟨⟨h1,h2,h3,h4,h5⟩,h6⟩,h7⟩,h8⟩,h9⟩,h10⟩,h11,h12,h13,h14⟩;simp_all
def Kp (a b:Bd):Bool:=a.turn == b.turn && (a.active == b.active && (a.phase == b.phase && (a.holder == b.holder && a.passes == b.passes)))
theorem W4 (a b:Bd):(a == b)=(a.stack == b.stack && (a.queue == b.queue && (a.att == b.att && (Kp a b && (a.objs == b.objs && (a.blocks == b.blocks && (a.s0 == b.s0 && a.s1 == b.s1))))))):=by
 cases a;cases b
 rw [Bool.eq_iff_iff]
 simp [Kp]
 constructor
 ·rintro ⟨h1,h2,h3,h4,h5,h6,h7,h8,h9,h10,h11,h12⟩;simp_all
 ·rintro ⟨h1,h2,h3,⟨h4,h5,h6,h7,h8⟩,h9,h10,h11,h12⟩;simp_all
theorem neB {α:Type} [BEq α] [LawfulBEq α] {a b:α} (h:a ≠ b):(Value.bool false:Value)=.bool (a == b):=by simp [h]
theorem KQ {H:Heap} {O:Own} {v w:dG} {a b:Bd} (h:BdR H O v a) (h':BdR H O w b):RetO PP nO [.agg (ao v a).toArray,.agg (ao w b).toArray] H O (.bool (a == b)):=by
 refine tz (vs:=ao v a++ao w b) (by kernel_rfl) (aE (ap h) (ap h')) ?_
 simp only [js]
 have lo:=h.objs.len
 have lo':=h'.objs.len
 have lb:=h.blocks.len
 have lb':=h'.blocks.len
 rw [List.length_map] at lo lo' lb lb'
 refine af fun r0=>af fun r1=>ab (aa _ lo (ab (aa _ lo' (aa _ (ba _ _) (aj (fun hb=>ah ⟨neB (by rintro rfl;simp at hb),rfl⟩) (fun hob=>?_))))))
 refine ab (ab (ai (OD h.stack h'.stack) rfl ⟨rfl,trivial⟩ fun H1 l1=>aa _ (aJ _) (aj (fun hb=>ah ⟨neB (by rintro rfl;simp at hb),rfl⟩) (fun hstack=>?_))))
 replace h:=h.le l1
 replace h':=h'.le l1
 refine ab (ab (ai (OD h.queue h'.queue) rfl ⟨rfl,trivial⟩ fun H2 l2=>aa _ (aJ _) (aj (fun hb=>ah ⟨neB (by rintro rfl;simp at hb),rfl⟩) (fun hqueue=>?_))))
 replace h:=h.le l2
 replace h':=h'.le l2
 refine ab (ab (ai (vx h.att h'.att) rfl ⟨rfl,trivial⟩ fun H3 l3=>aa _ (aJ _) ?_))
 replace h:=h.le l3
 replace h':=h'.le l3
 repeat (first | refine ab ?_ | refine ae ?_ | refine aa _ lb ?_ | refine aa _ lb' ?_ | refine aa _ (ba _ _) ?_ | refine aa _ (aP _ _) ?_)
 refine aj (fun hb=>ah ⟨neB (by rintro rfl;simp at hb),rfl⟩) (fun hpl=>?_)
 have hol:a.objs.length=b.objs.length:=by simp at hob;omega
 refine aX a.objs.length (fun i H' O'=>O'=O∧Heap.le H3 H'∧a.objs.take i=b.objs.take i) ⟨rfl,Heap.le_refl H3,by simp⟩ ?_
 rintro i H4 O' hi - ⟨rfl,l4,hor⟩
 refine ab (aa _ lo (aa _ (aI _ _) (aj (fun hb=>?_) (fun hb=>?_))))
 ·have hlt:i < a.objs.length:=by simpa using hb
  have hlt':i < b.objs.length:=by omega
  obtain ⟨p,h1,h2,_,h3,h4⟩:=(h.objs.le l4).idx .i64 i (Ob.row a.objs[i]) (by simp [hlt])
  obtain ⟨q,k1,k2,_,k3,k4⟩:=(h'.objs.le l4).idx .i64 i (Ob.row b.objs[i]) (by simp [hlt'])
  refine ab (aa _ h1 (aw h2 h3 h4 (ab (aa _ k1 (aw k2 k3 k4 (qH (WX a.objs[i] b.objs[i]) (aj (fun hb=>ah ⟨?_,rfl⟩) (fun hb=>?_))))))))
  ·have hne:a.objs[i] ≠ b.objs[i]:=by simpa using hb
   exact neB fun e=>hne (by simp only [e])
  ·have he:a.objs[i]=b.objs[i]:=by simpa using hb
   refine aa _ (aA (by have:=h.objs.lenB;simp at this;omega)) (aR (by simp [Eqs,E]) hlt ⟨rfl,l4,?_⟩)
   rw [List.take_add_one,List.take_add_one,hor,List.getElem?_eq_getElem hlt,List.getElem?_eq_getElem hlt',he]
 have hobj:a.objs=b.objs:=by
  have hge:a.objs.length≤i:=by simpa using hb
  rwa [List.take_of_length_le hge,List.take_of_length_le (by omega)] at hor
 clear hb hor hi
 replace h:=h.le l4
 replace h':=h'.le l4
 have hbl:a.blocks.length=b.blocks.length:=by simp at hpl;omega
 refine aX a.blocks.length (fun i H' O''=>O''=O'∧Heap.le H4 H'∧a.blocks.take i=b.blocks.take i) ⟨rfl,Heap.le_refl H4,by simp⟩ ?_
 rintro i H5 O' hi - ⟨rfl,l5,hor⟩
 refine ab (aa _ lb (aa _ (aI _ _) (aj (fun hb=>?_) (fun hb=>?_))))
 ·have hlt:i < a.blocks.length:=by simpa using hb
  have hlt':i < b.blocks.length:=by omega
  obtain ⟨p,h1,h2,_,h3,h4⟩:=(h.blocks.le l5).idx .i64 i (Bl.row a.blocks[i]) (by simp [hlt])
  obtain ⟨q,k1,k2,_,k3,k4⟩:=(h'.blocks.le l5).idx .i64 i (Bl.row b.blocks[i]) (by simp [hlt'])
  refine ab (aa _ h1 (aw h2 h3 h4 (ab (aa _ k1 (aw k2 k3 k4 (qH (W3 a.blocks[i] b.blocks[i]) (aj (fun hb=>ah ⟨?_,rfl⟩) (fun hb=>?_))))))))
  ·have hne:a.blocks[i] ≠ b.blocks[i]:=by simpa using hb
   exact neB fun e=>hne (by simp only [e])
  ·have he:a.blocks[i]=b.blocks[i]:=by simpa using hb
   refine aa _ (aA (by have:=h.blocks.lenB;simp at this;omega)) (aR (by simp [Eqs,E]) hlt ⟨rfl,l5,?_⟩)
   rw [List.take_add_one,List.take_add_one,hor,List.getElem?_eq_getElem hlt,List.getElem?_eq_getElem hlt',he]
 have hblk:a.blocks=b.blocks:=by
  have hge:a.blocks.length≤i:=by simpa using hb
  rwa [List.take_of_length_le hge,List.take_of_length_le (by omega)] at hor
 clear hb hor hi
 replace h:=h.le l5
 replace h':=h'.le l5
 obtain ⟨o1,o2,o3,o4⟩:=gj h.s0
 obtain ⟨o1',o2',o3',o4'⟩:=gj h'.s0
 obtain ⟨p1,p2,p3,p4⟩:=gj h.s1
 obtain ⟨p1',p2',p3',p4'⟩:=gj h'.s1
 repeat (first | refine ab ?_ | refine ae ?_ | refine af fun _=>?_ | refine aa _ (ba _ _) ?_ | refine qH (SU _ _ _ _ _ _ _ _) ?_ | refine aa _ (oO _ _) ?_ | refine aa _ (aP _ _) ?_)
 refine aj (fun hb=>ah ⟨neB (by rintro rfl;simp at hb),rfl⟩) (fun hs0=>?_)
 refine ab (ab (ai (oC a.s0 o1 o2 o3 o4 _ _) rfl ⟨o1,o2,o3,o4,trivial⟩ fun H6 l6=>ai (oC b.s0 o1' o2' o3' o4' _ _) rfl ⟨o1',o2',o3',o4',trivial⟩ fun H7 l7=>?_))
 replace h:=(h.le l6).le l7
 replace h':=(h'.le l6).le l7
 refine af fun _=>af fun _=>ab (ab (ab (ab (ai (vx h.s0.lib h'.s0.lib) rfl ⟨rfl,trivial⟩ fun H8 l8=>aa _ (aJ _) (aj (fun hb=>ah ⟨neB (by rintro rfl;simp at hb),rfl⟩) (fun hz1=>?_))))))
 replace h:=h.le l8
 replace h':=h'.le l8
 refine ab (ab (ai (vx h.s0.hand h'.s0.hand) rfl ⟨rfl,trivial⟩ fun H9 l9=>aa _ (aJ _) (aj (fun hb=>ah ⟨neB (by rintro rfl;simp at hb),rfl⟩) (fun hz2=>?_))))
 replace h:=h.le l9
 replace h':=h'.le l9
 refine ab (ab (ai (vx h.s0.field h'.s0.field) rfl ⟨rfl,trivial⟩ fun H10 l10=>aa _ (aJ _) (aj (fun hb=>ah ⟨neB (by rintro rfl;simp at hb),rfl⟩) (fun hz3=>?_))))
 replace h:=h.le l10
 replace h':=h'.le l10
 refine ab (ab (ai (vx h.s0.grave h'.s0.grave) rfl ⟨rfl,trivial⟩ fun H11 l11=>aa _ (aJ _) (aj (fun hb=>ah ⟨neB (by rintro rfl;simp at hb),rfl⟩) (fun hz4=>?_))))
 replace h:=h.le l11
 replace h':=h'.le l11
 repeat (first | refine ab ?_ | refine ae ?_ | refine af fun _=>?_ | refine aa _ (ba _ _) ?_ | refine qH (SU _ _ _ _ _ _ _ _) ?_ | refine aa _ (oO _ _) ?_ | refine aa _ (aP _ _) ?_)
 refine aj (fun hb=>ah ⟨neB (by rintro rfl;simp at hb),rfl⟩) (fun hs1=>?_)
 refine ab (ab (ai (oC a.s1 p1 p2 p3 p4 _ _) rfl ⟨p1,p2,p3,p4,trivial⟩ fun H12 l12=>ai (oC b.s1 p1' p2' p3' p4' _ _) rfl ⟨p1',p2',p3',p4',trivial⟩ fun H13 l13=>?_))
 replace h:=(h.le l12).le l13
 replace h':=(h'.le l12).le l13
 refine af fun _=>af fun _=>ab (ab (ab (ab (ai (vx h.s1.lib h'.s1.lib) rfl ⟨rfl,trivial⟩ fun H8 l8=>aa _ (aJ _) (aj (fun hb=>ah ⟨neB (by rintro rfl;simp at hb),rfl⟩) (fun hy1=>?_))))))
 replace h:=h.le l8
 replace h':=h'.le l8
 refine ab (ab (ai (vx h.s1.hand h'.s1.hand) rfl ⟨rfl,trivial⟩ fun H9 l9=>aa _ (aJ _) (aj (fun hb=>ah ⟨neB (by rintro rfl;simp at hb),rfl⟩) (fun hy2=>?_))))
 replace h:=h.le l9
 replace h':=h'.le l9
 refine ab (ab (ai (vx h.s1.field h'.s1.field) rfl ⟨rfl,trivial⟩ fun H10 l10=>aa _ (aJ _) (aj (fun hb=>ah ⟨neB (by rintro rfl;simp at hb),rfl⟩) (fun hy3=>?_))))
 replace h:=h.le l10
 replace h':=h'.le l10
 refine ab (ab (ai (vx h.s1.grave h'.s1.grave) rfl ⟨rfl,trivial⟩ fun H11 l11=>aa _ (aJ _) (aj (fun hb=>ah ⟨neB (by rintro rfl;simp at hb),rfl⟩) (fun hy4=>?_))))
 refine ah ⟨?_,rfl⟩
 simp only [Bool.not_eq_false',Bool.or_eq_false_iff,bne_eq_false_iff_eq,beq_iff_eq] at hstack hqueue hpl hz1 hz2 hz3 hz4 hy1 hy2 hy3 hy4
 have e:a=b:=by
  have e0:(a.s0 == b.s0)=true:=by
   rw [WF,hz1,hz2,hz3,hz4]
   simp only [Gf,hs0]
   simp
  have e1:(a.s1 == b.s1)=true:=by
   rw [WF,hy1,hy2,hy3,hy4]
   simp only [Gf,hs1]
   simp
  have:(a == b)=true:=by
   rw [W4,e0,e1,hobj,hblk,hstack,hqueue]
   simp only [Kp]
   simp_all
  simpa using this
 simp [e]
end Go.Proofs.YtdhobpmnkfmcfaaGreatDoor
namespace Go.Sx
open Go
def jd (l:List (Int × Int)):Hk:=l.map fun p=>(p.1,iV p.2)
def cz (l:List (Int × Int)) (k:Int):Option Int:=(l.find? fun p=>k == p.1).map (·.2)
theorem dO (l:List (Int × Int)) (k:Int):cU (jd l) k=(cz l k).map iV:=by
 induction l with
 | nil=>rfl
 | cons p r ih =>
  by_cases h:k=p.1
  ·simp [cU,cz,jd,h]
  ·simp only [cU,cz,jd,List.map_cons,List.find?_cons] at ih ⊢
   have hb:(k == p.1)=false:=by simpa using h
   simp only [hb]
   exact ih
theorem eP {l:List (Int × Int)} {k:Int}:cz l k=none ↔ k ∉ l.map (·.1):=by
 induction l with
 | nil=>simp [cz]
 | cons p r ih =>
  by_cases h:k=p.1
  ·simp [cz,h]
  ·have hb:(k == p.1)=false:=by simpa using h
   simp only [cz,List.find?_cons,hb,List.map_cons,List.mem_cons,not_or] at ih ⊢
   rw [ih];simp [h]
theorem jF {l:List (Int × Int)} {k v:Int} (hn:(l.map (·.1)).Nodup):cz l k=some v ↔ (k,v) ∈ l:=by
 induction l with
 | nil=>simp [cz]
 | cons p r ih =>
  simp only [List.map_cons,List.nodup_cons] at hn
  by_cases h:k=p.1
  ·simp only [cz,List.find?_cons,h,beq_self_eq_true,Option.map_some,Option.some.injEq,List.mem_cons]
   constructor
   ·rintro rfl;left;rfl
   ·rintro (h' | h')
    ·rw [← h']
    ·exact absurd (List.mem_map_of_mem (f:=Prod.fst) h') hn.1
  ·have hb:(k == p.1)=false:=by simpa using h
   have:=ih hn.2
   simp only [cz,List.find?_cons,hb] at this ⊢
   rw [this]
   simp only [List.mem_cons]
   constructor
   ·exact .inr
   ·rintro (h' | h')
    ·exact absurd (congrArg Prod.fst h') h
    ·exact h'
theorem QJ {m:Hk} {k:Int} {v:Value} (h:cU m k=none):BA m k v=m++[(k,v)]:=by
 refine Ht ?_
 rw [List.findIdx?_eq_none_iff]
 intro p hp
 simp only [cU,Option.map_eq_none_iff,List.find?_eq_none] at h
 simpa using h p hp
theorem F6 {l:List (Int × Int)} {k v:Int} (h:k ∉ l.map (·.1)):BA (jd l) k (iV v)=jd (l++[(k,v)]):=by
 rw [QJ (by rw [dO,eP.2 h];rfl)]
 simp [jd]
def cB (s:St) (p:Int):List (Int × Int):=(s.lib++(s.hand++(s.field++s.grave))).map fun i=>(i,p)
def cA (l:List It):List It:=l.filter fun x=>decide (x.trig < 0)
def eN (l:List It):List (Int × Int):=(cA l).map fun x=>(x.id,x.player)
def bp (l:List It):List (Int × Int):=(cA l).map fun x=>(x.id,x.card)
def aL (b:Bd):List (Int × Int):=cB b.s0 0++(cB b.s1 1++eN b.stack)
def jQ (prev:Option Int) (id:Int):Bool:=match prev with | some p=>decide (p ≥ id) | none=>false
def Fe (ps cs:List (Int × Int)) (prev:Option Int) (valid:Bool) (o:Ob):Bool :=
 !valid || jQ prev o.id || (cz ps o.id).isNone || ((cz ps o.id).getD 0 != o.owner) || ((cz cs o.id).isSome && ((cz cs o.id).getD 0 != o.card))
theorem oe (l r:List It):eN (l++r)=eN l++eN r:=by simp only [eN,cA,List.filter_append,List.map_append]
theorem xR (l r:List It):bp (l++r)=bp l++bp r:=by simp only [bp,cA,List.filter_append,List.map_append]
theorem Ib {x:It} (h:x.trig < 0):eN [x]=[(x.id,x.player)]:=by simp only [eN,cA,List.filter_cons,h,decide_true,if_true,List.filter_nil,List.map_cons,List.map_nil]
theorem Nv {x:It} (h:x.trig < 0):bp [x]=[(x.id,x.card)]:=by simp only [bp,cA,List.filter_cons,h,decide_true,if_true,List.filter_nil,List.map_cons,List.map_nil]
theorem E8 {x:It} (h:¬ x.trig < 0):eN [x]=[]:=by simp only [eN,cA,List.filter_cons,h,decide_false,Bool.false_eq_true,if_false,List.filter_nil,List.map_nil]
theorem JY {x:It} (h:¬ x.trig < 0):bp [x]=[]:=by simp only [bp,cA,List.filter_cons,h,decide_false,Bool.false_eq_true,if_false,List.filter_nil,List.map_nil]
def pU (val:Ob→Bool) (ps cs:List (Int × Int)):Option Int→List Ob→Bool
 | _,[]=>true
 | prev,o::r=>!Fe ps cs prev (val o) o && pU val ps cs (some o.id) r
def bD (val:Ob→Bool) (b:Bd):Bool:=decide ((aL b).map (·.1)).Nodup && (pU val (aL b) (bp b.stack) none b.objs && decide ((aL b).length=b.objs.length))
def nk (l:List Ob) (i:Nat):Option Int:=if i=0 then none else (l[i - 1]?).map (·.id)
theorem xn {l:List Ob} {i:Nat} (h:i < l.length):nk l (i + 1)=some l[i].id:=by simp [nk,h]
def wu (att other:List Int):List Int→List Int→List Bl→Bool
 | _,_,[]=>true
 | ua,ub,x::r=>(!ua.contains x.attacker && att.contains x.attacker && (!ub.contains x.blocker && other.contains x.blocker)) && wu att other (x.attacker::ua) (x.blocker::ub) r
def jY (own other att:List Int) (bl:List Bl):Bool:=decide att.Nodup && (att.all (fun x=>own.contains x) && wu att other [] [] bl)
def qA (att ua ub:List Int) (k:Int):Bool:=decide ((k ∈ att∧k ∉ ua)∨-k ∈ ub)
theorem QV {att ua ub:List Int} {m:Hk} {a c:Int} (h:∀ k,(cU m k).getD (.bool false)=.bool (qA att ua ub k)) (hub:∀ x ∈ ub,0 < x) (ha:0 < a) (hc:0 < c) :
  ∀ k,(cU (BA (BA m a (.bool false)) (-c) (.bool true)) k).getD (.bool false)=.bool (qA att (a::ua) (c::ub) k):=by
 intro k
 rw [Dn]
 by_cases h1:k=-c
 ·rw [if_pos h1]
  have:qA att (a::ua) (c::ub) k=true:=by
   simp only [qA,decide_eq_true_eq]
   right
   rw [h1];simp
  rw [this];rfl
 ·rw [if_neg h1,Dn]
  by_cases h2:k=a
  ·rw [if_pos h2]
   have:qA att (a::ua) (c::ub) k=false:=by
    simp only [qA,decide_eq_false_iff_not,not_or,not_and]
    refine ⟨fun _ hn=>hn (by rw [h2];simp),?_⟩
    rw [h2,List.mem_cons]
    rintro (h3 | h3)
    ·omega
    ·have:=hub _ h3;omega
   rw [this];rfl
  ·rw [if_neg h2,h k]
   congr 1
   simp only [qA,List.mem_cons,not_or]
   have:¬ (-k=c):=by omega
   simp [this,h2]
end Go.Sx
namespace Go.Sx
open Go
theorem ax {P:Program} {f:FuncId} {args:List Value} {H:Heap} {O:Own} {R:Value→Heap→Own→Prop} {d:Bool} {shp:Shp} {K:List Value→List (List Value)→Heap→Own→Prop}
  (h:Triple P f args H [] R) (hk:∀ v H' O1,R v H' O1→Heap.le H H'→∃ vs,shp.open v=some vs∧Ones vs∧K vs [] H' (O1++O)) :
  dZ (fun H1 O1 R=>Triple P f args H1 O1 R) d [] [] shp K H O:=by
 intro _
 refine ⟨H,[],O,R,?_,by simpa using h,fun v H' O' hr hle=>?_⟩
 ·cases d
  ·exact Ghost.refl _ _
  ·exact ⟨rfl,.inl ⟨rfl,rfl⟩⟩
 ·obtain ⟨vs,h1,h2,h3⟩:=hk v H' O' hr hle
  exact ⟨vs,[],O',h1,h2,trivial,rfl,h3⟩
theorem aZ {O O':Own} (h:∀ a [BEq (Nat × Obj)] [LawfulBEq (Nat × Obj)],O.count a=O'.count a):O.Perm O':=by
 haveI:DecidableEq (Nat × Obj):=fun a b=>Classical.propDecidable (a=b)
 exact List.perm_iff_count.2 fun a=>h a
def ItsS (H:Heap) (v:Value) (l:List It):Prop:=∃ rows,Sl H 5 v rows∧rows.length=l.length∧∀ (i:Nat) (r:List Value) (x:It),rows[i]?=some r→l[i]?=some x→∃ s,r=[iV x.player,iV x.id,iV x.card,iV x.trig,s]∧Sl H 2 s (x.tgs.map Tg.row)
structure StS (H:Heap) (vl vh vf vg:Value) (s:St):Prop where
 lib:Sl H 1 vl (aG s.lib)
 hand:Sl H 1 vh (aG s.hand)
 field:Sl H 1 vf (aG s.field)
 grave:Sl H 1 vg (aG s.grave)
structure BdS (H:Heap) (v:dG) (b:Bd):Prop where
 objs:Sl H 12 v.o (b.objs.map Ob.row)
 s0:StS H v.l0 v.h0 v.f0 v.g0 b.s0
 s1:StS H v.l1 v.h1 v.f1 v.g1 b.s1
 stack:ItsS H v.s b.stack
 queue:ItsS H v.q b.queue
 att:Sl H 1 v.a (aG b.att)
 blocks:Sl H 2 v.b (b.blocks.map Bl.row)
theorem ItsS.le {H H':Heap} {v:Value} {l:List It} (h:ItsS H v l) (hl:Heap.le H H'):ItsS H' v l :=
 let ⟨rows,h1,h2,h3⟩:=h;⟨rows,h1.le hl,h2,fun i r x a b=>let ⟨s,e,k⟩:=h3 i r x a b;⟨s,e,k.le hl⟩⟩
theorem StS.le {H H':Heap} {vl vh vf vg:Value} {s:St} (h:StS H vl vh vf vg s) (hl:Heap.le H H'):StS H' vl vh vf vg s:=⟨h.lib.le hl,h.hand.le hl,h.field.le hl,h.grave.le hl⟩
theorem BdS.le {H H':Heap} {v:dG} {b:Bd} (h:BdS H v b) (hl:Heap.le H H'):BdS H' v b :=
 ⟨h.objs.le hl,h.s0.le hl,h.s1.le hl,h.stack.le hl,h.queue.le hl,h.att.le hl,h.blocks.le hl⟩
theorem ItsS.r {H:Heap} {v:Value} {l:List It} (h:ItsS H v l) (O:Own):ItsR H O v l :=
 let ⟨rows,h1,h2,h3⟩:=h;⟨rows,h1.rsl O,h2,fun i r x a b=>let ⟨s,e,k⟩:=h3 i r x a b;⟨s,e,k.rsl O⟩⟩
theorem StS.r {H:Heap} {vl vh vf vg:Value} {s:St} (h:StS H vl vh vf vg s) (O:Own):StR H O vl vh vf vg s:=⟨h.lib.rsl O,h.hand.rsl O,h.field.rsl O,h.grave.rsl O⟩
theorem BdS.r {H:Heap} {v:dG} {b:Bd} (h:BdS H v b) (O:Own):BdR H O v b:=⟨h.objs.rsl O,h.s0.r O,h.s1.r O,h.stack.r O,h.queue.r O,h.att.rsl O,h.blocks.rsl O⟩
def OSlE (e:TypeId) (size:Nat) (v:Value) (rows:List (List Value)) (O:Own):Prop:=OSl e size v rows O∨((∃ a c,v=.slice a 0 c∧c < 2 ^ 63)∧rows=[]∧O=[])
theorem OSlE.one {e:TypeId} {size:Nat} {v:Value} {rows:List (List Value)} {O:Own} (h:OSlE e size v rows O):v.oneCell'=true:=by
 rcases h with h | ⟨⟨a,c,rfl,_⟩,_⟩
 ·exact h.one
 ·rfl
theorem OSlE.len {e:TypeId} {size:Nat} {v:Value} {rows:List (List Value)} {O:Own} (h:OSlE e size v rows O):ak .len [v]=some (.int .i64 rows.length):=by
 rcases h with h | ⟨⟨a,c,rfl,_⟩,rfl,_⟩
 ·exact h.len
 ·rfl
theorem OSlE.lenB {e:TypeId} {size:Nat} {v:Value} {rows:List (List Value)} {O:Own} (h:OSlE e size v rows O):rows.length < 2 ^ 63:=by
 rcases h with h | ⟨_,rfl,_⟩
 ·exact h.lenB
 ·simp
theorem OSlE.rsl {e:TypeId} {size:Nat} {v:Value} {rows:List (List Value)} {O1 O:Own} (h:OSlE e size v rows O1) (hO:∀ p ∈ O1,p ∈ O) (H:Heap):RSl H O size v rows:=by
 rcases h with h | ⟨⟨a,c,rfl,hc⟩,rfl,_⟩
 ·exact h.rsl hO H
 ·exact Sl.rsl ⟨a,c,rfl,Nat.zero_le _,hc,fun h=>absurd rfl h⟩ O
theorem OSlE.idx {e:TypeId} {size:Nat} {v:Value} {rows:List (List Value)} {O1 O:Own} (h:OSlE e size v rows O1) (hO:∀ p ∈ O1,p ∈ O) (H:Heap) {k:IntKind} {i:Nat} {row:List Value} (hr:rows[i]?=some row) :
  ∃ a,ak (.idx size) [v,.int k i]=some (.pointer (some a))∧a.spot=none∧Reads H O (.pointer (some a)) size row∧∀ off m,off + m≤size→Reads H O (be (.pointer (some a)) off) m ((row.drop off).take m):=by
 rcases h with h | ⟨_,rfl,_⟩
 ·exact h.idx hO H hr
 ·simp at hr
theorem OSlE.store {e:TypeId} {size:Nat} {v:Value} {rows:List (List Value)} {O1 O2 O:Own} (h:OSlE e size v rows O1) (hO:O.Perm (O1++O2)) {k:IntKind} {i:Nat} {row:List Value} (hr:rows[i]?=some row) :
  ∃ a,ak (.idx size) [v,.int k i]=some (.pointer (some a))∧∀ off ys,off + ys.length≤size→Ones ys→∃ O1',yo O (be (.pointer (some a)) off) ys (O1'++O2)∧OSlE e size v (rows.set i (dH row off ys)) O1':=by
 rcases h with h | ⟨_,rfl,_⟩
 ·obtain ⟨a,h1,h2⟩:=h.store hO hr
  exact ⟨a,h1,fun off ys h3 h4=>let ⟨O1',h5,h6⟩:=h2 off ys h3 h4;⟨O1',h5,.inl h6⟩⟩
 ·simp at hr
theorem OSlE.freeze {e:TypeId} {size:Nat} {v:Value} {rows:List (List Value)} {O1 X:Own} {H:Heap} (h:OSlE e size v rows O1) (hc:Cons H (O1++X)):∃ H',Ghost H (O1++X) H' X∧Sl H' size v rows∧Heap.le H H':=by
 rcases h with h | ⟨⟨a,c,rfl,hb⟩,rfl,rfl⟩
 ·exact h.freeze hc
 ·exact ⟨H,Ghost.refl _ _,⟨a,c,rfl,Nat.zero_le _,hb,fun h=>absurd rfl h⟩,Heap.le_refl H⟩
theorem OSlE.empty {e:TypeId} {size:Nat} {H:Heap} {v:Value} (h:Sl H size v []):OSlE e size v [] []:=by
 obtain ⟨a,c,rfl,_,hc,_⟩:=h
 exact .inr ⟨⟨a,c,rfl,hc⟩,rfl,rfl⟩
def OIts (te ti:TypeId) (v:Value) (l:List It) (O:Own):Prop:=∃ rows A Ts,O.Perm (A++List.flatten Ts)∧OSl ti 5 v rows A∧rows.length=l.length∧Ts.length=l.length ∧
 ∀ (i:Nat) (r:List Value) (x:It) (T:Own),rows[i]?=some r→l[i]?=some x→Ts[i]?=some T→∃ s,r=[iV x.player,iV x.id,iV x.card,iV x.trig,s]∧OSlE te 2 s (x.tgs.map Tg.row) T
def OItsS (te ti:TypeId) (v:Value) (l:List It) (O:Own):Prop:=∃ rows A Ts,O.Perm (A++List.flatten Ts)∧OSl ti 5 v rows A∧rows.length=l.length∧Ts.length=l.length ∧
 ∀ (i:Nat) (r:List Value) (x:It) (T:Own),rows[i]?=some r→l[i]?=some x→Ts[i]?=some T→∃ s,r=[iV x.player,iV x.id,iV x.card,iV x.trig,s]∧OSl te 2 s (x.tgs.map Tg.row) T
theorem OItsS.weak {te ti:TypeId} {v:Value} {l:List It} {O:Own} (h:OItsS te ti v l O):OIts te ti v l O:=by
 obtain ⟨rows,A,Ts,h1,h2,h3,h4,h5⟩:=h
 refine ⟨rows,A,Ts,h1,h2,h3,h4,fun i r x T a b c=>?_⟩
 obtain ⟨s,e,k⟩:=h5 i r x T a b c
 exact ⟨s,e,.inl k⟩
theorem OItsS.one {te ti:TypeId} {v:Value} {l:List It} {O:Own} (h:OItsS te ti v l O):v.oneCell'=true:=by
 obtain ⟨rows,A,Ts,_,h1,_⟩:=h;exact h1.one
structure Tys where
 (int ob bl it tg:TypeId)
structure OBd (t:Tys) (w:dG) (b:Bd) (Oo A0 B0 C0 D0 A1 B1 C1 D1 Os Oq Oa Obk:Own):Prop where
 objs:OSl t.ob 12 w.o (b.objs.map Ob.row) Oo
 l0:OSl t.int 1 w.l0 (aG b.s0.lib) A0
 h0:OSl t.int 1 w.h0 (aG b.s0.hand) B0
 f0:OSl t.int 1 w.f0 (aG b.s0.field) C0
 g0:OSl t.int 1 w.g0 (aG b.s0.grave) D0
 l1:OSl t.int 1 w.l1 (aG b.s1.lib) A1
 h1:OSl t.int 1 w.h1 (aG b.s1.hand) B1
 f1:OSl t.int 1 w.f1 (aG b.s1.field) C1
 g1:OSl t.int 1 w.g1 (aG b.s1.grave) D1
 stack:OIts t.tg t.it w.s b.stack Os
 queue:OIts t.tg t.it w.q b.queue Oq
 att:OSl t.int 1 w.a (aG b.att) Oa
 blocks:OSl t.bl 2 w.b (b.blocks.map Bl.row) Obk
def OwnB (t:Tys) (w:dG) (b:Bd) (O:Own):Prop:=∃ Oo A0 B0 C0 D0 A1 B1 C1 D1 Os Oq Oa Obk,O.Perm (Oo++(A0++(B0++(C0++(D0++(A1++(B1++(C1++(D1++(Os++(Oq++(Oa++Obk))))))))))))∧OBd t w b Oo A0 B0 C0 D0 A1 B1 C1 D1 Os Oq Oa Obk
def OwnBS (t:Tys) (w:dG) (b:Bd) (O:Own):Prop:=∃ A R,O.Perm (A++R)∧OItsS t.tg t.it w.s b.stack A∧∀ v' l' A',OIts t.tg t.it v' l' A'→OwnB t { w with s:=v' } { b with stack:=l' } (A'++R)
theorem OIts.r {te ti:TypeId} {v:Value} {l:List It} {O O':Own} (h:OIts te ti v l O) (hO:∀ p ∈ O,p ∈ O') (H:Heap):ItsR H O' v l:=by
 obtain ⟨rows,A,Ts,hp,h1,h2,h3,h4⟩:=h
 refine ⟨rows,h1.rsl (fun p hp'=>hO p (hp.mem_iff.2 (by simp [hp']))) H,h2,fun i r x hr hx=>?_⟩
 have hlt:i < Ts.length:=by rw [h3];exact (List.getElem?_eq_some_iff.1 hx).1
 obtain ⟨s,e,k⟩:=h4 i r x Ts[i] hr hx (List.getElem?_eq_getElem hlt)
 exact ⟨s,e,k.rsl (fun p hp'=>hO p (hp.mem_iff.2 (List.mem_append_right _ (List.mem_flatten.2 ⟨Ts[i],List.getElem_mem hlt,hp'⟩)))) H⟩
theorem OwnB.r {t:Tys} {w:dG} {b:Bd} {O O':Own} (h:OwnB t w b O) (hO:∀ p ∈ O,p ∈ O') (H:Heap):BdR H O' w b:=by
 obtain ⟨Oo,A0,B0,C0,D0,A1,B1,C1,D1,Os,Oq,Oa,Obk,hp,h⟩:=h
 have m:∀ p,p ∈ Oo++(A0++(B0++(C0++(D0++(A1++(B1++(C1++(D1++(Os++(Oq++(Oa++Obk)))))))))))→p ∈ O':=fun p h=>hO p (hp.mem_iff.2 h)
 refine ⟨h.objs.rsl (fun p k=>m p (by simp [k])) H,⟨h.l0.rsl (fun p k=>m p (by simp [k])) H,h.h0.rsl (fun p k=>m p (by simp [k])) H,h.f0.rsl (fun p k=>m p (by simp [k])) H,h.g0.rsl (fun p k=>m p (by simp [k])) H⟩,
  ⟨h.l1.rsl (fun p k=>m p (by simp [k])) H,h.h1.rsl (fun p k=>m p (by simp [k])) H,h.f1.rsl (fun p k=>m p (by simp [k])) H,h.g1.rsl (fun p k=>m p (by simp [k])) H⟩,
  h.stack.r (fun p k=>m p (by simp [k])) H,h.queue.r (fun p k=>m p (by simp [k])) H,h.att.rsl (fun p k=>m p (by simp [k])) H,h.blocks.rsl (fun p k=>m p (by simp [k])) H⟩
theorem OwnBS.weak {t:Tys} {w:dG} {b:Bd} {O:Own} (h:OwnBS t w b O):OwnB t w b O:=by
 obtain ⟨A,R,hp,hs,hk⟩:=h
 obtain ⟨Oo,A0,B0,C0,D0,A1,B1,C1,D1,Os,Oq,Oa,Obk,hp',h⟩:=hk w.s b.stack A hs.weak
 exact ⟨Oo,A0,B0,C0,D0,A1,B1,C1,D1,Os,Oq,Oa,Obk,hp.trans hp',h⟩
def VV (l:List It):Prop:=l.length≤1000000∧∀ x ∈ l,x.tgs.length≤1000000
def stB (s:St):Prop:=s.lib.length≤1000000∧s.hand.length≤1000000∧s.field.length≤1000000∧s.grave.length≤1000000
def bdB (b:Bd):Prop:=b.objs.length≤1000000∧stB b.s0∧stB b.s1∧VV b.stack∧VV b.queue∧b.att.length≤1000000∧b.blocks.length≤1000000
end Go.Sx
namespace Go.Proofs.YtdhobpmnkfmcfaaGreatDoor
open Go Go.Sx
set_option maxRecDepth 100000
set_option maxHeartbeats 1000000
abbrev IX (n:Nat) (R:Nat→List Value→Heap→Own→Prop):List Value→Heap→Own→Prop:=fun vs H O=>∃ (i:Nat) (xs:List Value),vs=iV i::xs∧i≤n∧R i xs H O
abbrev MX (n:Nat):List Value→Heap→Own→Nat:=fun vs _ _=>match g vs 0 with | .int _ k=>n - k.toNat | _=>0
theorem u5 {P:Program} {lab key:Nat} {init:List Value} {body:(List Value→Heap→Own→Prop)→List Value→Tree} {H:Heap} {O:Own} {Q:Value→Heap→Own→Prop} (n:Nat) (R:Nat→List Value→Heap→Own→Prop)
  (h0:R 0 init H O) (step:∀ i xs H' O',i≤n→xs.length=init.length→Ones xs→Heap.le H H'→R i xs H' O'→(body (NL (IX n R) (MX n) (n - i)) (iV i::xs)).den P Q H' O') :
  (Tree.loop lab key (iV 0::init) body).den P Q H O:=by
 refine ln (IX n R) (MX n) ⟨0,init,rfl,Nat.zero_le _,h0⟩ ?_
 rintro vs H' O' hl ho hle ⟨i,xs,rfl,hi,hr⟩
 exact step i xs H' O' hi (by simpa using hl) ho.2 hle hr
theorem nw {P:Program} {lab n i:Nat} {R:Nat→List Value→Heap→Own→Prop} {xs:List Value} {eqs:List (List Value × List Value)} {H:Heap} {O:Own} {Q:Value→Heap→Own→Prop} (he:Eqs eqs) (hi:i < n) (hr:R (i + 1) xs H O) :
  (Tree.cont lab (NL (IX n R) (MX n) (n - i)) (iV ((i + 1:Nat):Int)::xs) eqs).den P Q H O:=by
 refine fj he ⟨i + 1,xs,rfl,hi,hr⟩ ?_
 show n - ((i + 1:Nat):Int).toNat < n - i
 simp;omega
theorem uT {P:Program} {v:Value} {H:Heap} {O:Own} {Q:Value→Heap→Own→Prop} (h:Q v H []):(Tree.ret v []).den P Q H O:=fun _=>⟨H,[],Ghost.drop _ _,h⟩
theorem Sl.block1 {H:Heap} {r size:Nat} {row:List Value} {T:TypeId} (h:H r=some (.cells row.toArray T (0,0))) (hl:row.length=size) (ho:Ones row):Sl H size (.slice (some ⟨r,0,none⟩) 1 1) [row]:=by
 refine ⟨_,_,rfl,Nat.le_refl _,by simp,fun _=>⟨_,rfl,?_⟩⟩
 intro i x hx
 cases i with
 | succ i=>simp at hx
 | zero =>
  simp at hx
  subst hx
  refine ⟨?_,hl,ho⟩
  rw [cK,Nat.zero_mul,Nat.add_zero,pP h (by omega)]
  simp [← hl]
def MM (id c ow:Int):Ob:=⟨id,c,ow,0,0,0,0,0,0,false,false,false⟩
def gU (k:Nat) (l:List Int) (ow:Int):List Ob:=l.mapIdx fun i c=>MM ((k + i + 1:Nat):Int) c ow
theorem iq (k:Nat) (l:List Int) (ow:Int):(gU k l ow).length=l.length:=by simp [gU]
theorem xQ {k:Nat} {l:List Int} {ow:Int} {i:Nat} (h:i < l.length):(gU k l ow).take (i + 1)=(gU k l ow).take i++[MM ((k + i + 1:Nat):Int) l[i] ow]:=by
 rw [List.take_add_one]
 congr 1
 simp [gU,h]
def zSt (life:Int) (lib:List Int):St:=⟨life,0,0,0,0,lib,[],[],[],false,false,false,0,0⟩
def zBd:Bd:=⟨[],zSt 0 [],zSt 0 [],[],[],[],[],0,0,0,0,0⟩
def Uf (life:Int) (a c:List Int):Bd:=⟨gU 0 a 0++gU a.length c 1,zSt life ((gU 0 a 0).map (·.id)),zSt life ((gU a.length c 1).map (·.id)),[],[],[],[],0,0,0,-1,0⟩
def JB (life:Int) (a c:List Int):Bool:=(decide (1≤life∧life≤9999) && decide (a.length + c.length≤500)) && ((a++c).all fun x=>decide (0≤x∧x≤399))
def SO (life:Int) (a c:List Int):Bd × Int:=if JB life a c then (Uf life a c,0) else (zBd,2)
abbrev qt:Value:=.slice none 0 0
def AP:dG:=⟨qt,qt,qt,qt,qt,qt,qt,qt,qt,qt,qt,qt,qt⟩
theorem BE (H:Heap):ItsS H qt []:=⟨[],Sl.nil H 5,rfl,fun i r x h=>by simp at h⟩
theorem V0 (H:Heap):BdS H AP zBd :=
 ⟨Sl.nil _ _,⟨Sl.nil _ _,Sl.nil _ _,Sl.nil _ _,Sl.nil _ _⟩,⟨Sl.nil _ _,Sl.nil _ _,Sl.nil _ _,Sl.nil _ _⟩,BE _,BE _,Sl.nil _ _,Sl.nil _ _⟩
def Wz (life:Int) (a c:List Int) (v:Value) (H':Heap) (O':Own):Prop :=
 O'=[]∧∃ w,v=.tuple #[.agg (ao w (SO life a c).1).toArray,iV (SO life a c).2]∧BdS H' w (SO life a c).1
theorem JA {life:Int} {a c:List Int} (h:JB life a c=false) (H:Heap):Wz life a c (.tuple #[.agg (ao AP zBd).toArray,iV 2]) H []:=by
 refine ⟨rfl,AP,?_,?_⟩
 ·simp only [SO,h];rfl
 ·simp only [SO,h];exact V0 H
theorem Rk {life:Int} {a c:List Int} (h:JB life a c=true) {H:Heap} {o l0 l1:Value} {O O1 O2 O3:Own} (hO:O.Perm (O1++(O2++O3))) (ho:OSl aO 12 o ((gU 0 a 0++gU a.length c 1).map Ob.row) O1)
  (hl:OSl aM 1 l0 (aG ((gU 0 a 0).map (·.id))) O2) (hm:OSl aM 1 l1 (aG ((gU a.length c 1).map (·.id))) O3) {P:Program} :
  (Tree.ret (.tuple #[.agg (ao ⟨o,l0,qt,qt,qt,l1,qt,qt,qt,qt,qt,qt,qt⟩ (Uf life a c)).toArray,iV 0]) []).den P (Wz life a c) H O:=by
 intro hc0
 have hc:Cons H (O1++(O2++O3)):=let ⟨w,F,hm⟩:=hc0;⟨w,F,hm.perm (hO.append_right F)⟩
 obtain ⟨H1,g1,s1,le1⟩:=ho.freeze hc
 have hc1:Cons H1 (O2++O3):=let ⟨w,F,hm⟩:=hc;⟨w,F,(g1 w F hm).1⟩
 obtain ⟨H2,g2,s2,l2⟩:=hl.freeze hc1
 have hc2:Cons H2 (O3++[]):=by
  obtain ⟨w,F,hm⟩:=hc1
  exact ⟨w,F,by rw [List.append_nil];exact (g2 w F hm).1⟩
 obtain ⟨H3,g3,s3,l3⟩:=hm.freeze hc2
 rw [List.append_nil] at g3
 refine ⟨H3,[],(Ghost.perm hO).trans (g1.trans (g2.trans g3)),rfl,⟨o,l0,qt,qt,qt,l1,qt,qt,qt,qt,qt,qt,qt⟩,?_,?_⟩
 ·simp only [SO,h];rfl
 ·simp only [SO,h,if_true]
  exact ⟨(s1.le l2).le l3,⟨s2.le l3,Sl.nil _ _,Sl.nil _ _,Sl.nil _ _⟩,⟨s3,Sl.nil _ _,Sl.nil _ _,Sl.nil _ _⟩,BE _,BE _,Sl.nil _ _,Sl.nil _ _⟩
theorem Du (l:List Int) (x:Int):aG l++[[iV x]]=aG (l++[x]):=by simp [aG]
theorem Ih {life:Int} {a c:List Int} {i:Nat} (h:i < (a++c).length) (hx:¬ (0≤(a++c)[i]∧(a++c)[i]≤399)):JB life a c=false:=by
 unfold JB
 have:((a++c).all fun x=>decide (0≤x∧x≤399))=false:=by
  rw [Bool.eq_false_iff]
  intro hall
  have:=List.all_eq_true.1 hall _ (List.getElem_mem h)
  exact hx (by simpa using this)
 rw [this,Bool.and_false]
theorem LO {l:List Int} {i:Nat} (h:i < l.length) (h1:∀ x ∈ l.take i,0≤x∧x≤399) (h2:0≤l[i]∧l[i]≤399):∀ x ∈ l.take (i + 1),0≤x∧x≤399:=by
 intro x hx
 rw [List.take_add_one,List.getElem?_eq_getElem h] at hx
 rcases List.mem_append.1 hx with hx | hx
 ·exact h1 x hx
 ·simp at hx;subst hx;exact h2
theorem xm {P:Program} {gd:Gd} {op:POp} {args:List Value} {k:Value→Tree} {H:Heap} {O:Own} {Q:Value→Heap→Own→Prop} {v:Value} (h:ak op args=some v) (h1:v.oneCell'=true) (hk:(k v).den P Q H O) :
  (Tree.pure gd op args k).den P Q H O:=⟨v,fun _=>h,.inr h1,hk⟩
theorem Io {P:Program} {gd:Gd} {p:Value} {m:Nat} {vs:List Value} {k:List Value→Tree} {H:Heap} {O:Own} {Q:Value→Heap→Own→Prop} (h:H.read p m=some vs) (hl:vs.length=m) (ho:Ones vs)
  (hk:(k vs).den P Q H O):(Tree.load gd p m k).den P Q H O:=⟨vs,hl,ho,fun _=>.inl h,hk⟩
end Go.Proofs.YtdhobpmnkfmcfaaGreatDoor
namespace Go.Proofs.YtdhobpmnkfmcfaaGreatDoor
open Go Go.Sx
set_option maxRecDepth 100000
set_option maxHeartbeats 1000000
theorem tM {P:Program} {v:Value} {H:Heap} {O X Ox:Own} {Q:Value→Heap→Own→Prop} (hO:O.Perm (X++Ox)) (h:Q v H Ox):(Tree.ret v []).den P Q H O:=by
 intro _
 exact ⟨H,Ox,(Ghost.perm hO).trans (Ghost.sub (List.sublist_append_right X Ox)),h⟩
theorem Tn:∀ w,(zeroValue aM).run PP w=.ok (iV 0) w:=by
 intro w
 have:(PP.info? aM).bind (·.zero)=some (iV 0):=by kernel_rfl
 simp only [Option.bind_eq_some_iff] at this
 obtain ⟨i,hi,hz⟩:=this
 simp [zeroValue,typeInfo,hi,hz]
theorem Pe:PP.underlying cE=some (.map aM aM):=by kernel_rfl
theorem Pz:PP.underlying aM=some (.int .i64):=by kernel_rfl
theorem FT {m:Hk} {mv:Value} {Om:Own} (hm:OMap .i64 mv m Om) (r1:Nat) (id player:Int) (H:Heap) (h1:((cU m id).getD (iV 0)).oneCell'=true) :
  Triple PP mb [iV id,iV player,.pointer (some ⟨r1,0,none⟩)] H ((r1,.cells #[mv] cE (0,0))::Om) fun v _ O'=>v=.bool (cU m id).isNone∧∃ Om',O'=(r1,.cells #[mv] cE (0,0))::Om'∧OMap .i64 mv (BA m id (iV player)) Om':=by
 refine xk (vs:=[iV id,iV player,.pointer (some ⟨r1,0,none⟩)]) (by kernel_rfl) ⟨rfl,rfl,rfl,trivial⟩ ?_
 simp only [ma]
 have hr:∀ (H':Heap) (X:Own),Reads H' ((r1,.cells #[mv] cE (0,0))::X) (.pointer (some ⟨r1,0,none⟩)) 1 [mv]:=fun H' X=>.inr ⟨⟨r1,0,none⟩,#[mv],cE,rfl,rfl,by simp,rfl,rfl⟩
 refine aw (hr _ _) rfl ⟨hm.one,trivial⟩ ?_
 refine wo Pe Pz Tn hm (fun p hp=>List.mem_cons_of_mem _ hp) id h1 ?_
 refine aw (hr _ _) rfl ⟨hm.one,trivial⟩ ?_
 refine ny Pe Pz hm (O2:=[(r1,.cells #[mv] cE (0,0))]) List.perm_append_comm id (iV player) ?_
 intro r Om' hm' _
 refine aa _ (aJ _) ?_
 intro _
 refine ⟨H,(r1,.cells #[mv] cE (0,0))::Om',Ghost.perm (show (Om'++[(r1,Obj.cells #[mv] cE (0,0))]).Perm ([(r1,Obj.cells #[mv] cE (0,0))]++Om') from List.perm_append_comm),?_,Om',rfl,hm'⟩
 cases cU m id <;> rfl
theorem Qg {t ty:TypeId} {m:Hk} {mv:Value} {Om O:Own} {H:Heap} {K:List Value→List (List Value)→Heap→Own→Prop} (hm:OMap .i64 mv m Om) (hsub:∀ p ∈ Om,p ∈ O) (hk:K [iV m.length] [] H O) (ht:(match PP.underlying t with | some (.map _ _)=>true | _=>false)=true:=by kernel_rfl) :
  dZ (fun H1 O1 R=>bY PP ((PrimOp.bi .len #[t] ty).sem [mv]) H1 O1 R) false [] [] .one K H O:=by
 refine Jx (v:=iV m.length) ?_ rfl ⟨rfl,trivial⟩ hk
 intro w F hmo
 obtain ⟨r,es,clock,rfl,rfl,he⟩:=hm
 have hrow:=(hmo.own (r,.map es clock) (List.mem_append_left _ (hsub _ (by simp)))).1
 have hg:(getObj r).run PP w=.ok (.map es clock) w:=by simp [getObj,Sem.run,hrow]
 have hlen:es.size=m.length:=by have:=congrArg List.length he;simpa using this
 cases hu:PP.underlying t with
 | none=>rw [hu] at ht;cases ht
 | some d =>
  cases d with
  | map kt et =>
   have:(Builtin.len_ #[t] ty #[.map (some r)]).run PP w=.ok (iV m.length) w:=by
    simp only [Builtin.len_]
    simp [run_underlying hu,hg,hlen,goInt]
   simp only [PrimOp.sem,builtin,Sem.run_bind]
   rw [this];rfl
  | _=>rw [hu] at ht;cases ht
theorem tP {lab key:Nat} {lv mv n0:Value} {l:List Int} {pl:Int} {r1:Nat} {H:Heap} {O Om Ox:Own} {pre:List (Int × Int)} {Q:Value→Heap→Own→Prop} {rest:List Value→Tree}
  {eqs:(List Value→Heap→Own→Prop)→List Value→Value→List Value→List Value→List (List Value)→Value→Value→List (List Value × List Value)}
  (hl:RSl H Ox 1 lv (aG l)) (hn:n0=iV l.length) (hm:OMap .i64 mv (jd pre) Om) (hO:O.Perm (Om++Ox)) (hnd:(pre.map (·.1)).Nodup)
  (heq:∀ C a b c d e f g,Eqs (eqs C a b c d e f g))
  (bad:∀ H',Heap.le H H'→¬ ((pre++l.map fun i=>(i,pl)).map (·.1)).Nodup→Q (.bool false) H' Ox)
  (good:∀ H' O' Om',Heap.le H H'→((pre++l.map fun i=>(i,pl)).map (·.1)).Nodup→OMap .i64 mv (jd (pre++l.map fun i=>(i,pl))) Om'→O'.Perm (Om'++Ox)→(rest [iV l.length,mv]).den PP Q H' O') :
  (Tree.loop lab key [iV 0,mv] fun C l3 =>
   .pure [] (.bin .lss .int) [(g l3 0),n0] fun v4 =>
   .br v4 (
    .pure [] (.idx 1) [lv,(g l3 0)] fun v5 =>
    .load [] v5 1 fun l6 =>
    .call false mb [(g l6 0),iV pl,(.pointer (some ⟨r1,0,none⟩))] [] [⟨r1,cE,[(g l3 1)]⟩] .one fun l7 c7 =>
    .pure [] .not [(g l7 0)] fun v8 =>
    .br v8 (
     .ret (.bool false) []) (
     .pure [] (.bin .add .int) [(g l3 0),iV 1] fun v9 =>
     .cont lab C [v9,(g (c7.getD 0 []) 0)] (eqs C l3 v5 l6 l7 c7 v8 v9))) (rest l3)).den PP Q H O:=by
 subst hn
 refine u5 l.length (fun i xs H' O'=>xs=[mv]∧Heap.le H H'∧∃ Om',O'.Perm (Om'++Ox)∧OMap .i64 mv (jd (pre++(l.take i).map fun i=>(i,pl))) Om'∧((pre++(l.take i).map fun i=>(i,pl)).map (·.1)).Nodup)
  ⟨rfl,Heap.le_refl H,Om,hO,by simpa using hm,by simpa using hnd⟩ ?_
 rintro i xs H' O' hi - - - ⟨rfl,hle,Om',hO',hm',hnd'⟩
 refine aa _ (aI _ _) (aj (fun hb=>?_) (fun hb=>?_))
 ·have hlt:i < l.length:=by simpa using hb
  obtain ⟨a,h1,h2,_,h3,h4⟩:=((hl.le hle).own (fun p hp=>hO'.mem_iff.2 (List.mem_append_right Om' hp))).idx .i64 i [iV l[i]] (by simp [aG,hlt])
  refine aa _ h1 (aw h2 h3 h4 ?_)
  have hone:((cU (jd (pre++(l.take i).map fun i=>(i,pl))) l[i]).getD (iV 0)).oneCell'=true:=by
   rw [dO];cases cz (pre++(l.take i).map fun i=>(i,pl)) l[i] <;> rfl
  have hc:=FT hm' r1 l[i] pl H' hone
  intro _
  refine ⟨H',Om',Ox,_,Ghost.perm hO',hc,?_⟩
  rintro v H2 O2 ⟨rfl,Om2,rfl,hm2⟩ hle2
  refine ⟨[_],[[mv]],Om2,rfl,⟨rfl,trivial⟩,⟨rfl,⟨hm2.one,trivial⟩,trivial⟩,rfl,?_⟩
  refine aa _ (aJ _) (aj (fun hb=>?_) (fun hb=>?_))
  ·have hin:l[i] ∈ (pre++(l.take i).map fun i=>(i,pl)).map (·.1):=by
    rw [dO] at hb
    simp only [Bool.not_eq_true',Option.isNone_map] at hb
    rcases Classical.em (l[i] ∈ (pre++(l.take i).map fun i=>(i,pl)).map (·.1)) with h | h
    ·exact h
    ·rw [eP.2 h] at hb;cases hb
   refine tM (List.Perm.refl _) (bad H2 (Heap.le_trans hle hle2) ?_)
   intro hnd2
   have e:pre++l.map (fun i=>(i,pl))=(pre++(l.take i).map fun i=>(i,pl))++((l[i],pl)::(l.drop (i + 1)).map fun i=>(i,pl)):=by
    rw [List.append_assoc,← List.map_cons (f:=fun i=>(i,pl)),← List.drop_eq_getElem_cons hlt,← List.map_append,List.take_append_drop]
   rw [e,List.map_append,List.map_cons] at hnd2
   exact (List.nodup_append.1 hnd2).2.2 _ hin _ (List.mem_cons_self) rfl
  ·have hnin:l[i] ∉ (pre++(l.take i).map fun i=>(i,pl)).map (·.1):=by
    rw [dO] at hb
    simp only [Bool.not_eq_false',Option.isNone_map,Option.isNone_iff_eq_none] at hb
    exact eP.1 hb
   have e:pre++(l.take (i + 1)).map (fun i=>(i,pl))=(pre++(l.take i).map fun i=>(i,pl))++[(l[i],pl)]:=by
    rw [List.take_add_one,List.getElem?_eq_getElem hlt,List.map_append,List.append_assoc];rfl
   refine aa _ (aA (by have:=hl.lenB;simp [aG] at this;omega)) (nw (heq _ _ _ _ _ _ _ _) hlt ⟨rfl,Heap.le_trans hle hle2,Om2,List.Perm.refl _,?_,?_⟩)
   ·rw [e,← F6 hnin];exact hm2
   ·rw [e,List.map_append,List.nodup_append]
    refine ⟨hnd',by simp,?_⟩
    intro x hx y hy
    simp only [List.map_cons,List.map_nil,List.mem_singleton] at hy
    subst hy
    rintro rfl
    exact hnin hx
 ·have hie:i=l.length:=by have:¬ ((i:Int) < (l.length:Int)):=(by simpa using hb);omega
  subst hie
  rw [List.take_length] at hm' hnd'
  exact good H' O' Om' hle hnd' hm' hO'
theorem oM (r:Nat) (o:Nat) (H:Heap) (O:Own):RetO PP yy [.pointer (some ⟨r,o,none⟩)] H O (.agg #[.pointer (some ⟨r,o + 5,none⟩),.pointer (some ⟨r,o + 6,none⟩),.pointer (some ⟨r,o + 7,none⟩),.pointer (some ⟨r,o + 8,none⟩)]):=by
 refine Ce (vs:=[.pointer (some ⟨r,o,none⟩)]) (by kernel_rfl) ⟨rfl,trivial⟩ ?_
 simp only [rN]
 refine af fun r0=>aK rfl (aK rfl (aK rfl (aK rfl (aK rfl (aK rfl (aK rfl (aK rfl (ab (ab (ah ⟨?_,rfl⟩))))))))))
 simp only [g,List.getD_eq_getElem?_getD,List.getElem?_cons_zero,Option.getD_some,be,cK]
theorem RO {H:Heap} {O:Own} {v:dG} {b:Bd} (h:BdR H O v b):RetO PP vS [.agg (ao v b).toArray] H O (.bool (bD aY b)):=by
 refine AL (vs:=ao v b) (by kernel_rfl) (ap h) ?_
 simp only [pe]
 have len1:∀ {H':Heap} {O':Own} {w:Value} {l:List Int},RSl H' O' 1 w (aG l)→ak .len [w]=some (iV l.length):=fun h=>by have:=h.len;rwa [aG,List.length_map] at this
 have failB:∀ {l:List (Int × Int)},(∃ r,aL b=l++r)→¬ (l.map (·.1)).Nodup→(Value.bool false:Value)=.bool (bD aY b):=by
  rintro l ⟨r,hr⟩ hn
  have:¬ ((aL b).map (·.1)).Nodup:=by
   rw [hr,List.map_append]
   exact fun h=>hn (List.nodup_append.1 h).1
  simp only [bD,this,decide_false,Bool.false_and]
 refine af fun r0=>DY (kd:=.i64) fun mv O1 hm=>af fun r1=>ab (ai (oM r0 1 H _) rfl ⟨rfl,rfl,rfl,rfl,trivial⟩ fun H1 l1=>?_)
 refine ae (ae (ae (ae (ab (aa _ (len1 h.s0.lib) ?_)))))
 replace h:=h.le l1
 refine tP (mv:=mv) (pre:=[]) (Ox:=O) h.s0.lib rfl hm (List.Perm.refl _) (by simp) (by intros;simp [Eqs]) (fun H' _ hn=>⟨failB (l:=[]++b.s0.lib.map fun i=>(i,0)) ⟨_,by simp [aL,cB];rfl⟩ hn,rfl⟩) ?_
 intro H2 O2 Om2 l2 nd2 hm2 hO2
 replace h:=h.le l2
 refine ab (aa _ (len1 h.s0.hand) ?_)
 refine tP (mv:=mv) (pre:=[]++b.s0.lib.map fun i=>(i,0)) (Ox:=O) h.s0.hand rfl hm2 hO2 nd2 (by intros;simp [Eqs]) (fun H' _ hn=>⟨failB ⟨_,by simp [aL,cB];rfl⟩ hn,rfl⟩) ?_
 intro H3 O3 Om3 l3 nd3 hm3 hO3
 replace h:=h.le l3
 refine ab (aa _ (len1 h.s0.field) ?_)
 refine tP (mv:=mv) (Ox:=O) h.s0.field rfl hm3 hO3 nd3 (by intros;simp [Eqs]) (fun H' _ hn=>⟨failB ⟨_,by simp [aL,cB];rfl⟩ hn,rfl⟩) ?_
 intro H4 O4 Om4 l4 nd4 hm4 hO4
 replace h:=h.le l4
 refine ab (aa _ (len1 h.s0.grave) ?_)
 refine tP (mv:=mv) (Ox:=O) h.s0.grave rfl hm4 hO4 nd4 (by intros;simp [Eqs]) (fun H' _ hn=>⟨failB ⟨_,by simp [aL,cB];rfl⟩ hn,rfl⟩) ?_
 intro H5 O5 Om5 l5 nd5 hm5 hO5
 replace h:=h.le l5
 refine ai (oM r0 15 H5 _) rfl ⟨rfl,rfl,rfl,rfl,trivial⟩ fun H6 l6=>?_
 replace h:=h.le l6
 refine ae (ae (ae (ae (ab (aa _ (len1 h.s1.lib) ?_)))))
 refine tP (mv:=mv) (Ox:=O) h.s1.lib rfl hm5 hO5 nd5 (by intros;simp [Eqs]) (fun H' _ hn=>⟨failB ⟨_,by simp [aL,cB];rfl⟩ hn,rfl⟩) ?_
 intro H7 O7 Om7 l7 nd7 hm7 hO7
 replace h:=h.le l7
 refine ab (aa _ (len1 h.s1.hand) ?_)
 refine tP (mv:=mv) (Ox:=O) h.s1.hand rfl hm7 hO7 nd7 (by intros;simp [Eqs]) (fun H' _ hn=>⟨failB ⟨_,by simp [aL,cB];rfl⟩ hn,rfl⟩) ?_
 intro H8 O8 Om8 l8 nd8 hm8 hO8
 replace h:=h.le l8
 refine ab (aa _ (len1 h.s1.field) ?_)
 refine tP (mv:=mv) (Ox:=O) h.s1.field rfl hm8 hO8 nd8 (by intros;simp [Eqs]) (fun H' _ hn=>⟨failB ⟨_,by simp [aL,cB];rfl⟩ hn,rfl⟩) ?_
 intro H9 O9 Om9 l9 nd9 hm9 hO9
 replace h:=h.le l9
 refine ab (aa _ (len1 h.s1.grave) ?_)
 refine tP (mv:=mv) (Ox:=O) h.s1.grave rfl hm9 hO9 nd9 (by intros;simp [Eqs]) (fun H' _ hn=>⟨failB ⟨_,by simp [aL,cB];rfl⟩ hn,rfl⟩) ?_
 intro H10 O10 Om10 l10 nd10 hm10 hO10
 replace h:=h.le l10
 have hpre:∃ pre,pre=cB b.s0 0++cB b.s1 1:=⟨_,rfl⟩
 obtain ⟨pre,hpe⟩:=hpre
 have e10:([]++b.s0.lib.map (fun i=>(i,(0:Int)))++b.s0.hand.map (fun i=>(i,0))++b.s0.field.map (fun i=>(i,0))++b.s0.grave.map (fun i=>(i,0))++b.s1.lib.map (fun i=>(i,1))++b.s1.hand.map (fun i=>(i,1))++b.s1.field.map (fun i=>(i,1))++b.s1.grave.map (fun i=>(i,1)))=pre:=by
  rw [hpe];simp [cB]
 rw [e10] at nd10 hm10
 have hpb:aL b=pre++eN b.stack:=by rw [hpe];simp [aL]
 refine DY (kd:=.i64) fun cv Oc0 hc0=>ab (aa _ (ItsR.len h.stack) ?_)
 have stk:=h.stack
 obtain ⟨rows,hrs,hrl,hit⟩:=stk
 refine u5 b.stack.length (fun i xs H' O'=>xs=[mv]∧Heap.le H10 H'∧∃ Om Oc,O'.Perm (Om++(Oc++O))∧OMap .i64 mv (jd (pre++eN (b.stack.take i))) Om∧OMap .i64 cv (jd (bp (b.stack.take i))) Oc∧((pre++eN (b.stack.take i)).map (·.1)).Nodup)
  ⟨rfl,Heap.le_refl _,Om10,Oc0,?_,by simpa [eN,cA] using hm10,by simpa [bp,cA,jd] using hc0,by simpa [eN,cA] using nd10⟩ ?_
 ·exact ((hO10.append_left Oc0).trans (by rw [← List.append_assoc,← List.append_assoc];exact List.perm_append_comm.append_right O))
 rintro i xs H11 O11 hi - - - ⟨rfl,l11,Om,Oc,hO,hm,hc,hnd⟩
 refine aa _ (aI _ _) (aj (fun hb=>?_) (fun hb=>?_))
 ·have hlt:i < b.stack.length:=by simpa using hb
  have hsub:∀ p ∈ O,p ∈ O11:=fun p hp=>hO.mem_iff.2 (by simp [hp])
  obtain ⟨a,h1,h2,_,h3,h4⟩:=((hrs.le l11).own hsub).idx .i64 i rows[i] (by simp [hrl,hlt])
  obtain ⟨s,hrow,_⟩:=hit i rows[i] b.stack[i] (by simp [hrl,hlt]) (by simp [hlt])
  rw [hrow] at h2 h3 h4
  have etk:b.stack.take (i + 1)=b.stack.take i++[b.stack[i]]:=by rw [List.take_add_one,List.getElem?_eq_getElem hlt];rfl
  refine aa _ h1 (aw h2 h3 h4 (af fun r2=>ab (ab (aa _ (aI _ _) (aj (fun hb=>?_) (fun hb=>?_))))))
  ·
   have htr:b.stack[i].trig < 0:=by simpa using hb
   have eow:eN (b.stack.take (i + 1))=eN (b.stack.take i)++[(b.stack[i].id,b.stack[i].player)]:=by
    rw [etk,oe,Ib htr]
   have eca:bp (b.stack.take (i + 1))=bp (b.stack.take i)++[(b.stack[i].id,b.stack[i].card)]:=by
    rw [etk,xR,Nv htr]
   have hone:((cU (jd (pre++eN (b.stack.take i))) b.stack[i].id).getD (iV 0)).oneCell'=true:=by
    rw [dO];cases cz (pre++eN (b.stack.take i)) b.stack[i].id <;> rfl
   refine ab (ab ?_)
   have hcall:=FT hm r1 b.stack[i].id b.stack[i].player H11 hone
   intro _
   refine ⟨H11,Om,Oc++O,_,Ghost.perm hO,hcall,?_⟩
   rintro w H12 O12 ⟨rfl,Om2,rfl,hm2⟩ l12
   refine ⟨[_],[[mv]],Om2,rfl,⟨rfl,trivial⟩,⟨rfl,⟨hm2.one,trivial⟩,trivial⟩,rfl,?_⟩
   refine aa _ (aJ _) (aj (fun hb=>?_) (fun hb=>ab (ab ?_)))
   ·have hin:b.stack[i].id ∈ (pre++eN (b.stack.take i)).map (·.1):=by
     rw [dO] at hb
     simp only [Bool.not_eq_true',Option.isNone_map] at hb
     rcases Classical.em (b.stack[i].id ∈ (pre++eN (b.stack.take i)).map (·.1)) with h | h
     ·exact h
     ·rw [eP.2 h] at hb;cases hb
    refine tM (X:=Om2++Oc) (by rw [List.append_assoc]) ⟨failB (l:=pre++eN (b.stack.take (i + 1))) ⟨eN (b.stack.drop (i + 1)),?_⟩ ?_,rfl⟩
    ·rw [hpb,List.append_assoc,← oe,List.take_append_drop]
    ·rw [eow,← List.append_assoc,List.map_append]
     intro hn
     exact (List.nodup_append.1 hn).2.2 _ hin _ (by simp) rfl
   ·have hnin:b.stack[i].id ∉ (pre++eN (b.stack.take i)).map (·.1):=by
     rw [dO] at hb
     simp only [Bool.not_eq_false',Option.isNone_map,Option.isNone_iff_eq_none] at hb
     exact eP.1 hb
    have hninc:b.stack[i].id ∉ (bp (b.stack.take i)).map (·.1):=by
     intro hin
     refine hnin ?_
     rw [List.map_append]
     refine List.mem_append_right _ ?_
     simpa [bp,eN] using hin
    refine ny Pe Pz hc (O2:=Om2++O) ?_ b.stack[i].id (iV b.stack[i].card) ?_
    ·rw [← List.append_assoc,← List.append_assoc]
     exact List.perm_append_comm.append_right O
    intro w2 Oc2 hc2 _
    refine aa _ (aA (by have:=hrs.lenB;omega)) (nw (by simp [Eqs]) hlt ⟨rfl,Heap.le_trans l11 l12,Om2,Oc2,?_,?_,?_,?_⟩)
    ·rw [← List.append_assoc,← List.append_assoc]
     exact List.perm_append_comm.append_right O
    ·rw [eow,← List.append_assoc,← F6 hnin];exact hm2
    ·rw [eca,← F6 hninc];exact hc2
    ·rw [eow,← List.append_assoc,List.map_append,List.nodup_append]
     refine ⟨hnd,by simp,?_⟩
     intro x hx y hy
     simp only [List.map_cons,List.map_nil,List.mem_singleton] at hy
     subst hy
     rintro rfl
     exact hnin hx
  ·have htr:¬ b.stack[i].trig < 0:=by simpa using hb
   have eow:eN (b.stack.take (i + 1))=eN (b.stack.take i):=by
    rw [etk,oe,E8 htr,List.append_nil]
   have eca:bp (b.stack.take (i + 1))=bp (b.stack.take i):=by
    rw [etk,xR,JY htr,List.append_nil]
   refine aa _ (aA (by have:=hrs.lenB;omega)) (nw (by simp [Eqs]) hlt ⟨rfl,l11,Om,Oc,hO,?_,?_,?_⟩)
   ·rw [eow];exact hm
   ·rw [eca];exact hc
   ·rw [eow];exact hnd
 ·have hie:i=b.stack.length:=by
   have:¬ ((i:Int) < (b.stack.length:Int)):=by simpa using hb
   omega
  subst hie
  rw [List.take_length] at hm hc hnd
  rw [← hpb] at hm hnd
  replace h:=h.le l11
  have lo:=h.objs.len
  rw [List.length_map] at lo
  have hsub:∀ p ∈ O,p ∈ O11:=fun p hp=>hO.mem_iff.2 (by simp [hp])
  have hsubm:∀ p ∈ Om,p ∈ O11:=fun p hp=>hO.mem_iff.2 (by simp [hp])
  have hsubc:∀ p ∈ Oc,p ∈ O11:=fun p hp=>hO.mem_iff.2 (by simp [hp])
  have hpl:bD aY b=(pU aY (aL b) (bp b.stack) none b.objs && decide ((aL b).length=b.objs.length)):=by
   simp only [bD,hnd,decide_true,Bool.true_and]
  refine ab (aa _ lo ?_)
  refine aX b.objs.length (fun i H' O'=>O'=O11∧Heap.le H11 H'∧pU aY (aL b) (bp b.stack) none b.objs=pU aY (aL b) (bp b.stack) (nk b.objs i) (b.objs.drop i)) ⟨rfl,Heap.le_refl _,by simp [nk]⟩ ?_
  rintro i H12 O12 hi - ⟨rfl,l12,hor⟩
  refine aa _ (aI _ _) (aj (fun hb=>?_) (fun hb=>?_))
  ·have hlt:i < b.objs.length:=by simpa using hb
   obtain ⟨a,h1,h2,_,h3,h4⟩:=((h.objs.le l12).own hsub).idx .i64 i (Ob.row b.objs[i]) (by simp [hlt])
   refine aa _ h1 (aw h2 h3 h4 (af fun r3=>ab (ab (ab ?_))))
   have hone:((cU (jd (aL b)) b.objs[i].id).getD (iV 0)).oneCell'=true:=by
    rw [dO];cases cz (aL b) b.objs[i].id <;> rfl
   have honec:((cU (jd (bp b.stack)) b.objs[i].id).getD (iV 0)).oneCell'=true:=by
    rw [dO];cases cz (bp b.stack) b.objs[i].id <;> rfl
   refine wo Pe Pz Tn hm hsubm _ hone (ab (wo Pe Pz Tn hc hsubc _ honec (ab ?_)))
   have g1:(cU (jd (aL b)) b.objs[i].id).getD (iV 0)=iV ((cz (aL b) b.objs[i].id).getD 0):=by rw [dO];cases cz (aL b) b.objs[i].id <;> rfl
   have g2:(cU (jd (bp b.stack)) b.objs[i].id).getD (iV 0)=iV ((cz (bp b.stack) b.objs[i].id).getD 0):=by rw [dO];cases cz (bp b.stack) b.objs[i].id <;> rfl
   have g3:(cU (jd (aL b)) b.objs[i].id).isSome=!(cz (aL b) b.objs[i].id).isNone:=by rw [dO];cases cz (aL b) b.objs[i].id <;> rfl
   have g4:(cU (jd (bp b.stack)) b.objs[i].id).isSome=(cz (bp b.stack) b.objs[i].id).isSome:=by rw [dO];cases cz (bp b.stack) b.objs[i].id <;> rfl
   rw [g1,g2,g3,g4]
   refine ai (vF b.objs[i] H12 O12) rfl ⟨rfl,trivial⟩ fun H13 l13=>?_
   have l13':=Heap.le_trans l12 l13
   have hp:∃ (pv:Value) (x:Int),pv.oneCell'=true∧(0 < i→ak (.idx 12) [v.o,iV ((i:Int) - 1)]=some pv∧GG pv=true∧Reads H13 O12 pv 1 [iV x])∧jQ (nk b.objs i) b.objs[i].id=(decide ((i:Int) > 0) && decide (x ≥ b.objs[i].id)):=by
    rcases Nat.eq_zero_or_pos i with rfl | hpos
    ·exact ⟨iV 0,0,rfl,fun h=>absurd h (Nat.lt_irrefl 0),by simp [nk,jQ]⟩
    ·obtain ⟨j,rfl⟩:∃ j,i=j + 1:=⟨i - 1,by omega⟩
     have hj:j < b.objs.length:=by omega
     obtain ⟨a,k1,k2,k3,_⟩:=((h.objs.le l13').own hsub).idx .i64 j (Ob.row b.objs[j]) (by simp [hj])
     refine ⟨.pointer (some a),b.objs[j].id,rfl,fun _=>⟨?_,rfl,?_⟩,?_⟩
     ·have e:((j + 1:Nat):Int) - 1=(j:Int):=by omega
      rw [e];exact k1
     ·have:=k3 0 1 (by omega)
      have e:be (.pointer (some a)) 0=.pointer (some a):=by simp [be,Addr.add]
      rwa [e] at this
     ·rw [xn hj]
      have:((j + 1:Nat):Int) > 0:=by omega
      simp only [jQ,this,decide_true,Bool.true_and]
   obtain ⟨pv,x,hpone,hpv,hprev⟩:=hp
   have hiB:(i:Int) + 1 < 9223372036854775808:=by have:=h.objs.lenB;simp at this;omega
   have hsub1:ak (.bin .sub .int) [iV i,iV 1]=some (iV ((i:Int) - 1)):=by
    simp only [ak,fh,eE,if_true]
    rw [gC (by omega) (by omega)]
   have hon:∀ {u:Bool},On [((.bool (decide ((i:Int) > 0)):Value),true),(.bool u,false)]→0 < i:=fun h=>by
    have:=h.1
    simp at this
    omega
   refine aa _ (aJ _) (ae (aa _ (bN _ _) ?_))
   repeat (first | refine ab ?_ | refine ae ?_ | refine aa _ hsub1 ?_)
   refine ⟨pv,fun ho=>(hpv (hon ho)).1,.inr hpone,?_⟩
   refine ⟨fun ho=>(hpv (hon ho)).2.1,?_⟩
   refine ae (ae (ae (ae ?_)))
   refine ⟨[iV x],rfl,⟨rfl,trivial⟩,fun ho=>(hpv (hon ho)).2.2,?_⟩
   repeat (first | refine ab ?_ | refine ae ?_ | refine af fun _=>?_ | refine aa _ (aI _ _) ?_ | refine aa _ (bN _ _) ?_ | refine aa _ (eY _ _) ?_ | refine aa _ (dt _ _) ?_ | refine aa _ (aC _ _) ?_ | refine aa _ (ba _ _) ?_ | refine aa _ (aU _ _) ?_ | refine aa _ (aP _ _) ?_ | refine aa _ (aJ _) ?_ | refine aa _ (wv _ _) ?_ | refine aa _ (oO _ _) ?_)
   have hbad:Fe (aL b) (bp b.stack) (nk b.objs i) (aY b.objs[i]) b.objs[i] =
     ((((!aY b.objs[i] || (decide ((i:Int) > 0) && decide (x ≥ b.objs[i].id))) || (cz (aL b) b.objs[i].id).isNone) || ((cz (aL b) b.objs[i].id).getD 0 != b.objs[i].owner)) || ((cz (bp b.stack) b.objs[i].id).isSome && ((cz (bp b.stack) b.objs[i].id).getD 0 != b.objs[i].card))):=by
    unfold Fe;rw [hprev]
   have hstep:pU aY (aL b) (bp b.stack) (nk b.objs i) (b.objs.drop i)=(!Fe (aL b) (bp b.stack) (nk b.objs i) (aY b.objs[i]) b.objs[i] && pU aY (aL b) (bp b.stack) (some b.objs[i].id) (b.objs.drop (i + 1))):=by
    rw [List.drop_eq_getElem_cons hlt,pU]
   refine aj (fun hb=>?_) (fun hb=>?_)
   ·refine tM (X:=Om++Oc) (by rw [List.append_assoc];exact hO) ⟨?_,rfl⟩
    rw [hpl,hor,hstep,hbad]
    simp only [Bool.not_not] at hb
    rw [hb];rfl
   ·refine aa _ (aA (by omega)) (aR (by simp [Eqs]) hlt ⟨rfl,l13',?_⟩)
    simp only [Bool.not_not] at hb
    rw [hor,hstep,hbad,hb,xn hlt];rfl
  ·have hie:i=b.objs.length:=by
    have:¬ ((i:Int) < (b.objs.length:Int)):=by simpa using hb
    omega
   subst hie
   rw [List.drop_length] at hor
   refine ab ?_
   refine Qg hm hsubm (ab (aa _ lo (aa _ (aC _ _) (tM (X:=Om++Oc) (by rw [List.append_assoc];exact hO) ⟨?_,rfl⟩))))
   rw [hpl,hor]
   simp only [pU,Bool.true_and,jd,List.length_map]
   congr 1
   rw [Bool.eq_iff_iff]
   simp only [beq_iff_eq,decide_eq_true_eq]
   omega
end Go.Proofs.YtdhobpmnkfmcfaaGreatDoor
namespace Go.Proofs.YtdhobpmnkfmcfaaGreatDoor
open Go Go.Sx
set_option maxRecDepth 100000
set_option maxHeartbeats 1000000
theorem NP:∀ w,(zeroValue Hi).run PP w=.ok (.bool false) w:=by
 intro w
 have:(PP.info? Hi).bind (·.zero)=some (.bool false):=by kernel_rfl
 simp only [Option.bind_eq_some_iff] at this
 obtain ⟨i,hi,hz⟩:=this
 simp [zeroValue,typeInfo,hi,hz]
theorem MR:PP.underlying dh=some (.map aM Hi):=by kernel_rfl
theorem SQ (a:Int):ak .neg [iV a]=some (iV (IntKind.i64.wrap (0 - a))):=rfl
theorem FN {lab1 key1 lab2 key2:Nat} {fo ft av bv:Value} {own other att:List Int} {bl:List Bl} {H:Heap} {O:Own} {Q:Value→Heap→Own→Prop} {r0:Nat}
  {eqs1:List Value→Value→List (List Value × List Value)}
  {eqs2:List Value→Value→List (List Value × List Value)}
  (ho:RSl H O 1 fo (aG own)) (ht:RSl H O 1 ft (aG other)) (ha:RSl H O 1 av (aG att)) (hb:RSl H O 2 bv (bl.map Bl.row)) (hpo:∀ x ∈ own,0 < x) (hpt:∀ x ∈ other,0 < x∧x≤500)
  (heq1:∀ a b,Eqs (eqs1 a b)) (heq2:∀ a b,Eqs (eqs2 a b))
  (hQ:∀ H',Heap.le H H'→Q (.bool (jY own other att bl)) H' O) :
  (Tree.prim (.makeMap dh false) [] [] [] .one fun l1 _ =>
   .chk (.eqN r0 r0) <|
   .pure [] .len [av] fun v2 =>
   .loop lab1 key1 [(.int .i64 0)] fun C23 l3 =>
    .pure [] (.bin .lss .int) [(g l3 0),v2] fun v4 =>
    .br v4 (
     .pure [] (.idx 1) [av,(g l3 0)] fun v5 =>
     .load [] v5 1 fun l6 =>
     .prim (.lookup dh false) [(g l1 0),(g l6 0)] [] [] .one fun l7 _ =>
     .br (g l7 0) (
      .ret (.bool false) []) (
      .call false cu [fo,(g l6 0)] [] [] .one fun l8 _ =>
      .pure [] .not [(g l8 0)] fun v9 =>
      .br v9 (
       .ret (.bool false) []) (
       .prim (.mapUpdate dh) [(g l1 0),(g l6 0),(.bool true)] [] [] .one fun l10 _ =>
       .pure [] (.bin .add .int) [(g l3 0),(.int .i64 1)] fun v11 =>
       .cont lab1 C23 [v11] (eqs1 l1 v2)))) (
     .chk (.eqN r0 r0) <|
     .pure [] .len [bv] fun v12 =>
     .loop lab2 key2 [(.int .i64 0)] fun C29 l13 =>
      .pure [] (.bin .lss .int) [(g l13 0),v12] fun v14 =>
      .br v14 (
       .pure [] (.idx 2) [bv,(g l13 0)] fun v15 =>
       .load [] v15 2 fun l16 =>
       .newbox fun r1 =>
       .chk (.eqN r1 r1) <|
       .chk (.eqN r1 r1) <|
       .prim (.lookup dh false) [(g l1 0),(g l16 1)] [] [] .one fun l17 _ =>
       .pure [] .not [(g l17 0)] fun v18 =>
       .br v18 (
        .ret (.bool false) []) (
        .chk (.eqN r1 r1) <|
        .pure [] .neg [(g l16 0)] fun v19 =>
        .prim (.lookup dh false) [(g l1 0),v19] [] [] .one fun l20 _ =>
        .br (g l20 0) (
         .ret (.bool false) []) (
         .chk (.eqN r0 r0) <|
         .chk (.eqN r1 r1) <|
         .call false cu [av,(g l16 1)] [] [] .one fun l21 _ =>
         .pure [] .not [(g l21 0)] fun v22 =>
         .br v22 (
          .ret (.bool false) []) (
          .chk (.eqN r1 r1) <|
          .call false cu [ft,(g l16 0)] [] [] .one fun l23 _ =>
          .pure [] .not [(g l23 0)] fun v24 =>
          .br v24 (
           .ret (.bool false) []) (
           .chk (.eqN r1 r1) <|
           .chk (.eqN r1 r1) <|
           .pure [] .neg [(g l16 0)] fun v25 =>
           .prim (.mapUpdate dh) [(g l1 0),(g l16 1),(.bool false)] [] [] .one fun l26 _ =>
           .prim (.mapUpdate dh) [(g l1 0),v25,(.bool true)] [] [] .one fun l27 _ =>
           .pure [] (.bin .add .int) [(g l13 0),(.int .i64 1)] fun v28 =>
           .cont lab2 C29 [v28] (eqs2 l1 v12)))))) (
       .ret (.bool true) []))).den PP Q H O:=by
 have la:=ha.len
 have lb:=hb.len
 rw [aG,List.length_map] at la
 rw [List.length_map] at lb
 refine DY (kd:=.i64) fun mv Om0 hm0=>ab (aa _ la ?_)
 refine aX att.length (fun i H' O'=>Heap.le H H'∧∃ m Om,O'.Perm (Om++O)∧OMap .i64 mv m Om∧(∀ k,(cU m k).getD (.bool false)=.bool (qA (att.take i) [] [] k))∧(att.take i).Nodup∧∀ x ∈ att.take i,x ∈ own)
  ⟨Heap.le_refl H,[],Om0,List.Perm.refl _,hm0,fun k=>by simp [cU,qA],by simp,by simp⟩ ?_
 rintro i H1 O1 hi - ⟨l1,m,Om,hO,hm,hs,hnd,hall⟩
 have hsubO:∀ p ∈ O,p ∈ O1:=fun p hp=>hO.mem_iff.2 (List.mem_append_right Om hp)
 have hsubM:∀ p ∈ Om,p ∈ O1:=fun p hp=>hO.mem_iff.2 (List.mem_append_left O hp)
 refine aa _ (aI _ _) (aj (fun hlt=>?_) (fun hge=>?_))
 ·have hlt:i < att.length:=by simpa using hlt
  obtain ⟨a,h1,h2,_,h3,h4⟩:=((ha.le l1).own hsubO).idx .i64 i [iV att[i]] (by simp [aG,hlt])
  refine aa _ h1 (aw h2 h3 h4 ?_)
  refine ug MR Pz NP hm hsubM att[i] (by show ((cU m att[i]).getD (.bool false)).oneCell'=true;rw [hs];rfl) ?_
  show Tree.den PP Q (.br ((cU m att[i]).getD (.bool false)) _ _) H1 O1
  rw [hs]
  have etk:att.take (i + 1)=att.take i++[att[i]]:=by rw [List.take_add_one,List.getElem?_eq_getElem hlt];rfl
  refine aj (fun hin=>?_) (fun hnin=>?_)
  ·refine tM hO ?_
   have:¬ att.Nodup:=by
    intro hn
    have hin:att[i] ∈ att.take i:=by simpa [qA] using hin
    have hn2:(att.take (i + 1)).Nodup:=hn.sublist (List.take_sublist _ _)
    rw [etk,List.nodup_append] at hn2
    exact hn2.2.2 _ hin _ (by simp) rfl
   have:=hQ H1 l1
   simpa [jY,‹¬ att.Nodup›] using this
  ·refine ai (eF ((ho.le l1).own hsubO) att[i]) rfl ⟨rfl,trivial⟩ fun H2 l2=>aa _ (aJ _) (aj (fun hc=>?_) (fun hc=>?_))
   ·refine tM hO ?_
    have hf:(att.all fun x=>own.contains x)=false:=by
     rw [Bool.eq_false_iff]
     intro hh
     have:=List.all_eq_true.1 hh att[i] (List.getElem_mem hlt)
     rw [this] at hc;cases hc
    have:=hQ H2 (Heap.le_trans l1 l2)
    simpa only [jY,hf,Bool.false_and,Bool.and_false] using this
   ·refine ny MR Pz hm hO att[i] (.bool true) ?_
    intro w Om2 hm2 _
    refine aa _ (aA (by have:=ha.lenB;simp [aG] at this;omega)) (aR (heq1 _ _) hlt ⟨Heap.le_trans l1 l2,_,Om2,List.Perm.refl _,hm2,?_,?_,?_⟩)
    ·intro k
     rw [Dn]
     by_cases hk:k=att[i]
     ·rw [if_pos hk,etk]
      have:qA (att.take i++[att[i]]) [] [] k=true:=by simp only [qA,decide_eq_true_eq,List.mem_append,List.mem_singleton];exact .inl ⟨.inr hk,by simp⟩
      rw [this];rfl
     ·rw [if_neg hk,hs,etk]
      congr 1
      simp only [qA,List.mem_append,List.mem_singleton,hk,or_false]
    ·rw [etk,List.nodup_append]
     refine ⟨hnd,by simp,?_⟩
     intro x hx y hy
     simp only [List.mem_singleton] at hy
     subst hy
     rintro rfl
     simp [qA] at hnin
     exact hnin hx
    ·rw [etk]
     intro x hx
     rcases List.mem_append.1 hx with hx | hx
     ·exact hall x hx
     ·simp only [List.mem_singleton] at hx
      subst hx
      simpa using hc
 ·have hie:i=att.length:=by
   have:¬ ((i:Int) < (att.length:Int)):=by simpa using hge
   omega
  subst hie
  rw [List.take_length] at hs hnd hall
  have hfb:jY own other att bl=wu att other [] [] bl:=by
   have:(att.all fun x=>own.contains x)=true:=by
    rw [List.all_eq_true]
    intro x hx
    simpa using hall x hx
   simp only [jY,hnd,decide_true,this,Bool.true_and]
  refine ab (aa _ lb ?_)
  refine aX bl.length (fun i H' O'=>Heap.le H1 H'∧∃ m Om ua ub,O'.Perm (Om++O)∧OMap .i64 mv m Om∧(∀ k,(cU m k).getD (.bool false)=.bool (qA att ua ub k))∧(∀ x ∈ ub,0 < x)∧wu att other [] [] bl=wu att other ua ub (bl.drop i))
   ⟨Heap.le_refl H1,m,Om,[],[],hO,hm,hs,by simp,by simp⟩ ?_
  rintro i H2 O2 hi - ⟨l2,m,Om,ua,ub,hO,hm,hs,hub,hgo⟩
  have l2':=Heap.le_trans l1 l2
  have hsubO:∀ p ∈ O,p ∈ O2:=fun p hp=>hO.mem_iff.2 (List.mem_append_right Om hp)
  have hsubM:∀ p ∈ Om,p ∈ O2:=fun p hp=>hO.mem_iff.2 (List.mem_append_left O hp)
  refine aa _ (aI _ _) (aj (fun hlt=>?_) (fun hge=>?_))
  ·have hlt:i < bl.length:=by simpa using hlt
   obtain ⟨a,h1,h2,_,h3,h4⟩:=((hb.le l2').own hsubO).idx .i64 i (Bl.row bl[i]) (by simp [hlt])
   rw [List.drop_eq_getElem_cons hlt,wu] at hgo
   generalize bl[i]=x at hgo h2 h3 h4
   have hone:∀ k,((cU m k).getD (.bool false)).oneCell'=true:=fun k=>by rw [hs];rfl
   have fin:∀ H',Heap.le H H'→((!ua.contains x.attacker && att.contains x.attacker && (!ub.contains x.blocker && other.contains x.blocker))=false)→Q (.bool false) H' O:=by
    intro H' hl hf
    have:=hQ H' hl
    rwa [hfb,hgo,hf,Bool.false_and] at this
   refine aa _ h1 (aw h2 h3 h4 (af fun r1=>ab (ab ?_)))
   refine ug MR Pz NP hm hsubM x.attacker (hone _) ?_
   show Tree.den PP Q (.pure [] .not [(cU m x.attacker).getD (.bool false)] _) H2 O2
   rw [hs]
   refine aa _ (aJ _) (aj (fun h1=>tM hO (fin H2 l2' ?_)) (fun h1=>ab (aa _ (SQ _) ?_)))
   ·simp only [Bool.not_eq_true',qA,decide_eq_false_iff_not,not_or,not_and,Decidable.not_not] at h1
    by_cases hin:x.attacker ∈ att
    ·have:=h1.1 hin
     simp [this]
    ·simp [hin]
   refine ug MR Pz NP hm hsubM _ (hone _) ?_
   show Tree.den PP Q (.br ((cU m (IntKind.i64.wrap (0 - x.blocker))).getD (.bool false)) _ _) H2 O2
   rw [hs]
   refine aj (fun h2=>tM hO (fin H2 l2' ?_)) (fun h2=>ab (ab ?_))
   ·by_cases hin:x.blocker ∈ other
    ·have hr:=hpt _ hin
     rw [gC (by omega) (by omega)] at h2
     simp only [qA,decide_eq_true_eq,Int.zero_sub,Int.neg_neg] at h2
     rcases h2 with ⟨h2,_⟩ | h2
     ·have:=hpo _ (hall _ h2);omega
     ·simp [h2]
    ·simp [hin]
   refine ai (eF ((ha.le l2').own hsubO) x.attacker) rfl ⟨rfl,trivial⟩ fun H3 l3=>aa _ (aJ _) (aj (fun h3=>tM hO (fin H3 (Heap.le_trans l2' l3) ?_)) (fun h3=>ab ?_))
   ·simp only [Bool.not_eq_true'] at h3
    rw [h3];simp
   refine ai (eF ((ht.le (Heap.le_trans l2' l3)).own hsubO) x.blocker) rfl ⟨rfl,trivial⟩ fun H4 l4=>aa _ (aJ _) (aj (fun h4=>tM hO (fin H4 (Heap.le_trans l2' (Heap.le_trans l3 l4)) ?_)) (fun h4=>ab (ab (aa _ (SQ _) ?_))))
   ·simp only [Bool.not_eq_true'] at h4
    rw [h4];simp
   simp only [Bool.not_eq_false'] at h1 h3 h4
   have hain:x.attacker ∈ att:=by simpa using h3
   have hbin:x.blocker ∈ other:=by simpa using h4
   have hr:=hpt _ hbin
   have hapos:=hpo _ (hall _ hain)
   rw [gC (by omega) (by omega)] at h2 ⊢
   rw [Int.zero_sub] at h2 ⊢
   refine ny MR Pz hm hO x.attacker (.bool false) ?_
   intro w Om2 hm2 _
   refine ny MR Pz hm2 (List.Perm.refl _) (-x.blocker) (.bool true) ?_
   intro w Om3 hm3 _
   refine aa _ (aA (by have:=hb.lenB;simp at this;omega)) (aR (heq2 _ _) hlt ⟨Heap.le_trans l2 (Heap.le_trans l3 l4),_,Om3,x.attacker::ua,x.blocker::ub,List.Perm.refl _,hm3,QV hs hub hapos hr.1,?_,?_⟩)
   ·intro y hy
    rcases List.mem_cons.1 hy with rfl | hy
    ·exact hr.1
    ·exact hub y hy
   ·rw [hgo]
    have hua:ua.contains x.attacker=false:=by
     simp only [qA,decide_eq_true_eq] at h1
     rcases h1 with ⟨_,h1⟩ | h1
     ·simpa using h1
     ·have:=hub _ h1;omega
    have hubn:ub.contains x.blocker=false:=by
     simp only [qA,decide_eq_false_iff_not,not_or,Int.neg_neg] at h2
     simpa using h2.2
    rw [hua,h3,hubn,h4];rfl
  ·have hie:i=bl.length:=by
    have:¬ ((i:Int) < (bl.length:Int)):=by simpa using hge
    omega
   subst hie
   rw [List.drop_length] at hgo
   refine tM hO ?_
   have:=hQ H2 l2'
   rwa [hfb,hgo,wu] at this
end Go.Proofs.YtdhobpmnkfmcfaaGreatDoor
