/- Boards as plain data, and how they lie in memory. -/
import Derived.Test.YteakpllehopodaaGreatDoorFw2
import Derived.Test.YteakpllehopodaaGreatDoorFw3
import Derived.Test.YteakpllehopodaaGreatDoorFw2
import Derived.Lib.Overlaps
import Derived.Lib.AppendZerosOnto
import Derived.Shelf.GgSortFunc.InsertionK
import Derived.Test.YteakpllehopodaaGreatDoorBT6
namespace Go.Sx
open Go
abbrev iV (n:Int):Value:=.int .i64 n
def aJ (l:List Int):List (List Value):=l.map fun n=>[iV n]
structure Ob where
 (id card owner power tough dmg cnt pp pt:Int)
 (tap sick doom:Bool)
deriving DecidableEq
def Ob.row (o:Ob):List Value:=[iV o.id,iV o.card,iV o.owner,iV o.power,iV o.tough,iV o.dmg,iV o.cnt,iV o.pp,iV o.pt,.bool o.tap,.bool o.sick,.bool o.doom]
structure Tg where
 (id player:Int)
deriving DecidableEq
def Tg.row (t:Tg):List Value:=[iV t.id,iV t.player]
structure It where
 (player id card trig:Int)
 tgs:List Tg
deriving DecidableEq
structure Bl where
 (blocker attacker:Int)
deriving DecidableEq
def Bl.row (b:Bl):List Value:=[iV b.blocker,iV b.attacker]
structure St where
 (life p0 p1 p2 p3:Int)
 (lib hand field grave:List Int)
 (empty played kept:Bool)
 (mull acts:Int)
deriving DecidableEq
structure Bd where
 objs:List Ob
 (s0 s1:St)
 (stack queue:List It)
 att:List Int
 blocks:List Bl
 (turn active phase holder passes:Int)
deriving DecidableEq
def ItR (H:Heap) (O:Go.Sx.Own) (row:List Value) (x:It):Prop:=∃ s,row=[iV x.player,iV x.id,iV x.card,iV x.trig,s]∧RSl H O 2 s (x.tgs.map Tg.row)
def ItsR (H:Heap) (O:Go.Sx.Own) (v:Value) (l:List It):Prop:=∃ rows,RSl H O 5 v rows∧rows.length=l.length∧∀ (i:Nat) (r:List Value) (x:It),rows[i]?=some r→l[i]?=some x→ItR H O r x
structure StR (H:Heap) (O:Go.Sx.Own) (vl vh vf vg:Value) (s:St):Prop where
 lib:RSl H O 1 vl (aJ s.lib)
 hand:RSl H O 1 vh (aJ s.hand)
 field:RSl H O 1 vf (aJ s.field)
 grave:RSl H O 1 vg (aJ s.grave)
structure cI where
 (o l0 h0 f0 g0 l1 h1 f1 g1 s q a b:Value)
def ao (v:cI) (b:Bd):List Value :=
  [v.o,iV b.s0.life,iV b.s0.p0,iV b.s0.p1,iV b.s0.p2,iV b.s0.p3,v.l0,v.h0,v.f0,v.g0,.bool b.s0.empty,.bool b.s0.played,.bool b.s0.kept,iV b.s0.mull,iV b.s0.acts,
   iV b.s1.life,iV b.s1.p0,iV b.s1.p1,iV b.s1.p2,iV b.s1.p3,v.l1,v.h1,v.f1,v.g1,.bool b.s1.empty,.bool b.s1.played,.bool b.s1.kept,iV b.s1.mull,iV b.s1.acts,
   v.s,v.q,v.a,v.b,iV b.turn,iV b.active,iV b.phase,iV b.holder,iV b.passes]
structure BdR (H:Heap) (O:Go.Sx.Own) (v:cI) (b:Bd):Prop where
 objs:RSl H O 12 v.o (b.objs.map Ob.row)
 s0:StR H O v.l0 v.h0 v.f0 v.g0 b.s0
 s1:StR H O v.l1 v.h1 v.f1 v.g1 b.s1
 stack:ItsR H O v.s b.stack
 queue:ItsR H O v.q b.queue
 att:RSl H O 1 v.a (aJ b.att)
 blocks:RSl H O 2 v.b (b.blocks.map Bl.row)
theorem ItR.le {H H':Heap} {O:Go.Sx.Own} {row:List Value} {x:It} (h:ItR H O row x) (hl:Heap.le H H'):ItR H' O row x:=let ⟨s,h1,h2⟩:=h;⟨s,h1,h2.le hl⟩
theorem ItsR.le {H H':Heap} {O:Go.Sx.Own} {v:Value} {l:List It} (h:ItsR H O v l) (hl:Heap.le H H'):ItsR H' O v l :=
 let ⟨rows,h1,h2,h3⟩:=h;⟨rows,h1.le hl,h2,fun i r x a b=>(h3 i r x a b).le hl⟩
theorem StR.le {H H':Heap} {O:Go.Sx.Own} {vl vh vf vg:Value} {s:St} (h:StR H O vl vh vf vg s) (hl:Heap.le H H'):StR H' O vl vh vf vg s:=⟨h.lib.le hl,h.hand.le hl,h.field.le hl,h.grave.le hl⟩
theorem BdR.le {H H':Heap} {O:Go.Sx.Own} {v:cI} {b:Bd} (h:BdR H O v b) (hl:Heap.le H H'):BdR H' O v b :=
 ⟨h.objs.le hl,h.s0.le hl,h.s1.le hl,h.stack.le hl,h.queue.le hl,h.att.le hl,h.blocks.le hl⟩
def ay (a lo hi:Int):Bool:=decide (lo≤a∧a≤hi)
def Aj (t:Tg):Bool:=ay t.id 0 500 && (ay t.player 0 1 && (t.id == 0 || t.player == 0))
def vz (x:It) (q:Bool):Bool :=
 ay x.player 0 1 && (ay x.id 1 500 && (ay x.card 0 399 && (ay x.trig (-1) 1 && (!(decide ((x.tgs.length:Int) > 4) || (decide (x.trig ≥ 0) && decide ((x.tgs.length:Int) > 0)) || (q && decide (x.trig < 0))) && !x.tgs.any (fun t=>!Aj t)))))
def mJ {α:Type} (p:α→Bool):List α→Int→Int
 | [],_=>-1
 | a::r,i=>if p a then i else mJ p r (i + 1)
theorem vw {α:Type} (p:α→Bool):∀ (l:List α) (i:Int),0≤i→decide (0≤mJ p l i)=l.any p
 | [],i,_=>by simp[mJ]
 | a::r,i,h=>by
  simp only[mJ,List.any_cons]
  by_cases hx:p a
  ·simp[hx,h]
  ·simp only[hx,Bool.false_eq_true,if_false,Bool.false_or]
   exact vw p r (i + 1) (by omega)
def gu (l:List (Int × Int)):EV:=l.map fun p=>(p.1,iV p.2)
def dQ (l:List (Int × Int)) (k:Int):Option Int:=(l.find? fun p=>k == p.1).map (·.2)
theorem dw (l:List (Int × Int)) (k:Int):bH (gu l) k=(dQ l k).map iV:=by
 induction l with
 | nil=>rfl
 | cons p r ih =>
  by_cases h:k=p.1
  ·simp[bH,dQ,gu,h]
  ·simp only[bH,dQ,gu,List.map_cons,List.find?_cons] at ih ⊢
   have hb:(k == p.1)=false:=by simpa using h
   simp only[hb]
   exact ih
theorem gZ {l:List (Int × Int)} {k:Int}:dQ l k=none ↔ k ∉ l.map (·.1):=by
 induction l with
 | nil=>simp[dQ]
 | cons p r ih =>
  by_cases h:k=p.1
  ·simp[dQ,h]
  ·have hb:(k == p.1)=false:=by simpa using h
   simp only[dQ,List.find?_cons,hb,List.map_cons,List.mem_cons,not_or] at ih ⊢
   rw[ih];simp[h]
theorem j7 {l:List (Int × Int)} {k v:Int} (hn:(l.map (·.1)).Nodup):dQ l k=some v ↔ (k,v) ∈ l:=by
 induction l with
 | nil=>simp[dQ]
 | cons p r ih =>
  simp only[List.map_cons,List.nodup_cons] at hn
  by_cases h:k=p.1
  ·simp only[dQ,List.find?_cons,h,beq_self_eq_true,Option.map_some,Option.some.injEq,List.mem_cons]
   constructor
   ·rintro rfl;left;rfl
   ·rintro (h' | h')
    ·rw[← h']
    ·exact absurd (List.mem_map_of_mem (f:=Prod.fst) h') hn.1
  ·have hb:(k == p.1)=false:=by simpa using h
   have:=ih hn.2
   simp only[dQ,List.find?_cons,hb] at this ⊢
   rw[this]
   simp only[List.mem_cons]
   constructor
   ·exact .inr
   ·rintro (h' | h')
    ·exact absurd (congrArg Prod.fst h') h
    ·exact h'
theorem OI {m:EV} {k:Int} {v:Value} (h:bH m k=none):vR m k v=m++[(k,v)]:=by
 refine E3 ?_
 rw[List.findIdx?_eq_none_iff]
 intro p hp
 simp only[bH,Option.map_eq_none_iff,List.find?_eq_none] at h
 simpa using h p hp
theorem Dm {l:List (Int × Int)} {k v:Int} (h:k ∉ l.map (·.1)):vR (gu l) k (iV v)=gu (l++[(k,v)]):=by
 rw[OI (by rw[dw,gZ.2 h];rfl)]
 simp[gu]
def fw (s:St) (p:Int):List (Int × Int):=(s.lib++(s.hand++(s.field++s.grave))).map fun i=>(i,p)
def iO (l:List It):List It:=l.filter fun x=>decide (x.trig < 0)
def iy (l:List It):List (Int × Int):=(iO l).map fun x=>(x.id,x.player)
def bM (l:List It):List (Int × Int):=(iO l).map fun x=>(x.id,x.card)
def aM (b:Bd):List (Int × Int):=fw b.s0 0++(fw b.s1 1++iy b.stack)
def nA (prev:Option Int) (id:Int):Bool:=match prev with | some p=>decide (p ≥ id) | none=>false
def BW (ps cs:List (Int × Int)) (prev:Option Int) (valid:Bool) (o:Ob):Bool :=
 !valid || nA prev o.id || (dQ ps o.id).isNone || ((dQ ps o.id).getD 0 != o.owner) || ((dQ cs o.id).isSome && ((dQ cs o.id).getD 0 != o.card))
theorem pg (l r:List It):iy (l++r)=iy l++iy r:=by simp only[iy,iO,List.filter_append,List.map_append]
theorem uc (l r:List It):bM (l++r)=bM l++bM r:=by simp only[bM,iO,List.filter_append,List.map_append]
theorem L8 {x:It} (h:x.trig < 0):iy [x]=[(x.id,x.player)]:=by simp only[iy,iO,List.filter_cons,h,decide_true,if_true,List.filter_nil,List.map_cons,List.map_nil]
theorem KF {x:It} (h:x.trig < 0):bM [x]=[(x.id,x.card)]:=by simp only[bM,iO,List.filter_cons,h,decide_true,if_true,List.filter_nil,List.map_cons,List.map_nil]
theorem J3 {x:It} (h:¬ x.trig < 0):iy [x]=[]:=by simp only[iy,iO,List.filter_cons,h,decide_false,Bool.false_eq_true,if_false,List.filter_nil,List.map_nil]
theorem Im {x:It} (h:¬ x.trig < 0):bM [x]=[]:=by simp only[bM,iO,List.filter_cons,h,decide_false,Bool.false_eq_true,if_false,List.filter_nil,List.map_nil]
def mE (val:Ob→Bool) (ps cs:List (Int × Int)):Option Int→List Ob→Bool
 | _,[]=>true
 | prev,o::r=>!BW ps cs prev (val o) o && mE val ps cs (some o.id) r
def cq (val:Ob→Bool) (b:Bd):Bool:=decide ((aM b).map (·.1)).Nodup && (mE val (aM b) (bM b.stack) none b.objs && decide ((aM b).length=b.objs.length))
def tL (l:List Ob) (i:Nat):Option Int:=if i=0 then none else (l[i - 1]?).map (·.id)
theorem FN {l:List Ob} {i:Nat} (h:i < l.length):tL l (i + 1)=some l[i].id:=by simp[tL,h]
def IF (att other:List Int):List Int→List Int→List Bl→Bool
 | _,_,[]=>true
 | ua,ub,x::r=>(!ua.contains x.attacker && att.contains x.attacker && (!ub.contains x.blocker && other.contains x.blocker)) && IF att other (x.attacker::ua) (x.blocker::ub) r
def sP (own other att:List Int) (bl:List Bl):Bool:=decide att.Nodup && (att.all (fun x=>own.contains x) && IF att other [] [] bl)
def nv (att ua ub:List Int) (k:Int):Bool:=decide ((k ∈ att∧k ∉ ua)∨-k ∈ ub)
theorem OQ {att ua ub:List Int} {m:EV} {a c:Int} (h:∀ k,(bH m k).getD (.bool false)=.bool (nv att ua ub k)) (hub:∀ x ∈ ub,0 < x) (ha:0 < a) (hc:0 < c) :
  ∀ k,(bH (vR (vR m a (.bool false)) (-c) (.bool true)) k).getD (.bool false)=.bool (nv att (a::ua) (c::ub) k):=by
 intro k
 rw[zn]
 by_cases h1:k=-c
 ·rw[if_pos h1]
  have:nv att (a::ua) (c::ub) k=true:=by
   simp only[nv,decide_eq_true_eq]
   right
   rw[h1];simp
  rw[this];rfl
 ·rw[if_neg h1,zn]
  by_cases h2:k=a
  ·rw[if_pos h2]
   have:nv att (a::ua) (c::ub) k=false:=by
    simp only[nv,decide_eq_false_iff_not,not_or,not_and]
    refine⟨fun _ hn=>hn (by rw[h2];simp),?_⟩
    rw[h2,List.mem_cons]
    rintro (h3 | h3)
    ·omega
    ·have:=hub _ h3;omega
   rw[this];rfl
  ·rw[if_neg h2,h k]
   congr 1
   simp only[nv,List.mem_cons,not_or]
   have:¬ (-k=c):=by omega
   simp[this,h2]
theorem az {P:Program} {f:FuncId} {args:List Value} {H:Heap} {O:Go.Sx.Own} {R:Value→Heap→Go.Sx.Own→Prop} {d:Bool} {shp:Shp} {K:List Value→List (List Value)→Heap→Go.Sx.Own→Prop}
  (h:Triple P f args H [] R) (hk:∀ v H' O1,R v H' O1→Heap.le H H'→∃ vs,shp.open v=some vs∧Ones vs∧K vs [] H' (O1++O)) :
  dc (fun H1 O1 R=>Triple P f args H1 O1 R) d [] [] shp K H O:=by
 intro _
 refine⟨H,[],O,R,?_,by simpa using h,fun v H' O' hr hle=>?_⟩
 ·cases d
  ·exact Ghost.refl _ _
  ·exact⟨rfl,.inl ⟨rfl,rfl⟩⟩
 ·obtain⟨vs,h1,h2,h3⟩:=hk v H' O' hr hle
  exact⟨vs,[],O',h1,h2,trivial,rfl,h3⟩
theorem dO {O O':Go.Sx.Own} (h:∀ a [BEq (Nat × Obj)] [LawfulBEq (Nat × Obj)],O.count a=O'.count a):O.Perm O':=by
 haveI:DecidableEq (Nat × Obj):=fun a b=>Classical.propDecidable (a=b)
 exact List.perm_iff_count.2 fun a=>h a
def ItsS (H:Heap) (v:Value) (l:List It):Prop:=∃ rows,Sl H 5 v rows∧rows.length=l.length∧∀ (i:Nat) (r:List Value) (x:It),rows[i]?=some r→l[i]?=some x→∃ s,r=[iV x.player,iV x.id,iV x.card,iV x.trig,s]∧Sl H 2 s (x.tgs.map Tg.row)
structure StS (H:Heap) (vl vh vf vg:Value) (s:St):Prop where
 lib:Sl H 1 vl (aJ s.lib)
 hand:Sl H 1 vh (aJ s.hand)
 field:Sl H 1 vf (aJ s.field)
 grave:Sl H 1 vg (aJ s.grave)
structure BdS (H:Heap) (v:cI) (b:Bd):Prop where
 objs:Sl H 12 v.o (b.objs.map Ob.row)
 s0:StS H v.l0 v.h0 v.f0 v.g0 b.s0
 s1:StS H v.l1 v.h1 v.f1 v.g1 b.s1
 stack:ItsS H v.s b.stack
 queue:ItsS H v.q b.queue
 att:Sl H 1 v.a (aJ b.att)
 blocks:Sl H 2 v.b (b.blocks.map Bl.row)
theorem ItsS.le {H H':Heap} {v:Value} {l:List It} (h:ItsS H v l) (hl:Heap.le H H'):ItsS H' v l :=
 let ⟨rows,h1,h2,h3⟩:=h;⟨rows,h1.le hl,h2,fun i r x a b=>let ⟨s,e,k⟩:=h3 i r x a b;⟨s,e,k.le hl⟩⟩
theorem StS.le {H H':Heap} {vl vh vf vg:Value} {s:St} (h:StS H vl vh vf vg s) (hl:Heap.le H H'):StS H' vl vh vf vg s:=⟨h.lib.le hl,h.hand.le hl,h.field.le hl,h.grave.le hl⟩
theorem BdS.le {H H':Heap} {v:cI} {b:Bd} (h:BdS H v b) (hl:Heap.le H H'):BdS H' v b :=
 ⟨h.objs.le hl,h.s0.le hl,h.s1.le hl,h.stack.le hl,h.queue.le hl,h.att.le hl,h.blocks.le hl⟩
theorem ItsS.r {H:Heap} {v:Value} {l:List It} (h:ItsS H v l) (O:Go.Sx.Own):ItsR H O v l :=
 let ⟨rows,h1,h2,h3⟩:=h;⟨rows,h1.rsl O,h2,fun i r x a b=>let ⟨s,e,k⟩:=h3 i r x a b;⟨s,e,k.rsl O⟩⟩
theorem StS.r {H:Heap} {vl vh vf vg:Value} {s:St} (h:StS H vl vh vf vg s) (O:Go.Sx.Own):StR H O vl vh vf vg s:=⟨h.lib.rsl O,h.hand.rsl O,h.field.rsl O,h.grave.rsl O⟩
theorem BdS.r {H:Heap} {v:cI} {b:Bd} (h:BdS H v b) (O:Go.Sx.Own):BdR H O v b:=⟨h.objs.rsl O,h.s0.r O,h.s1.r O,h.stack.r O,h.queue.r O,h.att.rsl O,h.blocks.rsl O⟩
def OSlE (e:TypeId) (size:Nat) (v:Value) (rows:List (List Value)) (O:Go.Sx.Own):Prop:=OSl e size v rows O∨((∃ a c,v=.slice a 0 c∧c < 2 ^ 63)∧rows=[]∧O=[])
theorem OSlE.one {e:TypeId} {size:Nat} {v:Value} {rows:List (List Value)} {O:Go.Sx.Own} (h:OSlE e size v rows O):v.oneCell'=true:=by
 rcases h with h | ⟨⟨a,c,rfl,_⟩,_⟩
 ·exact h.one
 ·rfl
theorem OSlE.len {e:TypeId} {size:Nat} {v:Value} {rows:List (List Value)} {O:Go.Sx.Own} (h:OSlE e size v rows O):al .len [v]=some (.int .i64 rows.length):=by
 rcases h with h | ⟨⟨a,c,rfl,_⟩,rfl,_⟩
 ·exact h.len
 ·rfl
theorem OSlE.lenB {e:TypeId} {size:Nat} {v:Value} {rows:List (List Value)} {O:Go.Sx.Own} (h:OSlE e size v rows O):rows.length < 2 ^ 63:=by
 rcases h with h | ⟨_,rfl,_⟩
 ·exact h.lenB
 ·simp
theorem OSlE.rsl {e:TypeId} {size:Nat} {v:Value} {rows:List (List Value)} {O1 O:Go.Sx.Own} (h:OSlE e size v rows O1) (hO:∀ p ∈ O1,p ∈ O) (H:Heap):RSl H O size v rows:=by
 rcases h with h | ⟨⟨a,c,rfl,hc⟩,rfl,_⟩
 ·exact h.rsl hO H
 ·exact Sl.rsl ⟨a,c,rfl,Nat.zero_le _,hc,fun h=>absurd rfl h⟩ O
theorem OSlE.idx {e:TypeId} {size:Nat} {v:Value} {rows:List (List Value)} {O1 O:Go.Sx.Own} (h:OSlE e size v rows O1) (hO:∀ p ∈ O1,p ∈ O) (H:Heap) {k:IntKind} {i:Nat} {row:List Value} (hr:rows[i]?=some row) :
  ∃ a,al (.idx size) [v,.int k i]=some (.pointer (some a))∧a.spot=none∧Reads H O (.pointer (some a)) size row∧∀ off m,off + m≤size→Reads H O (an (.pointer (some a)) off) m ((row.drop off).take m):=by
 rcases h with h | ⟨_,rfl,_⟩
 ·exact h.idx hO H hr
 ·simp at hr
theorem OSlE.store {e:TypeId} {size:Nat} {v:Value} {rows:List (List Value)} {O1 O2 O:Go.Sx.Own} (h:OSlE e size v rows O1) (hO:O.Perm (O1++O2)) {k:IntKind} {i:Nat} {row:List Value} (hr:rows[i]?=some row) :
  ∃ a,al (.idx size) [v,.int k i]=some (.pointer (some a))∧∀ off ys,off + ys.length≤size→Ones ys→∃ O1',uE O (an (.pointer (some a)) off) ys (O1'++O2)∧OSlE e size v (rows.set i (bL row off ys)) O1':=by
 rcases h with h | ⟨_,rfl,_⟩
 ·obtain⟨a,h1,h2⟩:=h.store hO hr
  exact⟨a,h1,fun off ys h3 h4=>let ⟨O1',h5,h6⟩:=h2 off ys h3 h4;⟨O1',h5,.inl h6⟩⟩
 ·simp at hr
theorem OSlE.freeze {e:TypeId} {size:Nat} {v:Value} {rows:List (List Value)} {O1 X:Go.Sx.Own} {H:Heap} (h:OSlE e size v rows O1) (hc:Cons H (O1++X)):∃ H',Ghost H (O1++X) H' X∧Sl H' size v rows∧Heap.le H H':=by
 rcases h with h | ⟨⟨a,c,rfl,hb⟩,rfl,rfl⟩
 ·exact h.freeze hc
 ·exact⟨H,Ghost.refl _ _,⟨a,c,rfl,Nat.zero_le _,hb,fun h=>absurd rfl h⟩,Heap.le_refl H⟩
theorem OSlE.empty {e:TypeId} {size:Nat} {H:Heap} {v:Value} (h:Sl H size v []):OSlE e size v [] []:=by
 obtain⟨a,c,rfl,_,hc,_⟩:=h
 exact .inr ⟨⟨a,c,rfl,hc⟩,rfl,rfl⟩
def OIts (te ti:TypeId) (v:Value) (l:List It) (O:Go.Sx.Own):Prop:=∃ rows A Ts,O.Perm (A++List.flatten Ts)∧OSl ti 5 v rows A∧rows.length=l.length∧Ts.length=l.length ∧
 ∀ (i:Nat) (r:List Value) (x:It) (T:Go.Sx.Own),rows[i]?=some r→l[i]?=some x→Ts[i]?=some T→∃ s,r=[iV x.player,iV x.id,iV x.card,iV x.trig,s]∧OSlE te 2 s (x.tgs.map Tg.row) T
def OItsS (te ti:TypeId) (v:Value) (l:List It) (O:Go.Sx.Own):Prop:=∃ rows A Ts,O.Perm (A++List.flatten Ts)∧OSl ti 5 v rows A∧rows.length=l.length∧Ts.length=l.length ∧
 ∀ (i:Nat) (r:List Value) (x:It) (T:Go.Sx.Own),rows[i]?=some r→l[i]?=some x→Ts[i]?=some T→∃ s,r=[iV x.player,iV x.id,iV x.card,iV x.trig,s]∧OSl te 2 s (x.tgs.map Tg.row) T
theorem OItsS.weak {te ti:TypeId} {v:Value} {l:List It} {O:Go.Sx.Own} (h:OItsS te ti v l O):OIts te ti v l O:=by
 obtain⟨rows,A,Ts,h1,h2,h3,h4,h5⟩:=h
 refine⟨rows,A,Ts,h1,h2,h3,h4,fun i r x T a b c=>?_⟩
 obtain⟨s,e,k⟩:=h5 i r x T a b c
 exact⟨s,e,.inl k⟩
theorem OItsS.one {te ti:TypeId} {v:Value} {l:List It} {O:Go.Sx.Own} (h:OItsS te ti v l O):v.oneCell'=true:=by
 obtain⟨rows,A,Ts,_,h1,_⟩:=h;exact h1.one
structure Tys where
 (int ob bl it tg:TypeId)
structure OBd (t:Tys) (w:cI) (b:Bd) (Oo A0 B0 C0 D0 A1 B1 C1 D1 Os Oq Oa Obk:Go.Sx.Own):Prop where
 objs:OSl t.ob 12 w.o (b.objs.map Ob.row) Oo
 l0:OSl t.int 1 w.l0 (aJ b.s0.lib) A0
 h0:OSl t.int 1 w.h0 (aJ b.s0.hand) B0
 f0:OSl t.int 1 w.f0 (aJ b.s0.field) C0
 g0:OSl t.int 1 w.g0 (aJ b.s0.grave) D0
 l1:OSl t.int 1 w.l1 (aJ b.s1.lib) A1
 h1:OSl t.int 1 w.h1 (aJ b.s1.hand) B1
 f1:OSl t.int 1 w.f1 (aJ b.s1.field) C1
 g1:OSl t.int 1 w.g1 (aJ b.s1.grave) D1
 stack:OIts t.tg t.it w.s b.stack Os
 queue:OIts t.tg t.it w.q b.queue Oq
 att:OSl t.int 1 w.a (aJ b.att) Oa
 blocks:OSl t.bl 2 w.b (b.blocks.map Bl.row) Obk
def OwnB (t:Tys) (w:cI) (b:Bd) (O:Go.Sx.Own):Prop:=∃ Oo A0 B0 C0 D0 A1 B1 C1 D1 Os Oq Oa Obk,O.Perm (Oo++(A0++(B0++(C0++(D0++(A1++(B1++(C1++(D1++(Os++(Oq++(Oa++Obk))))))))))))∧OBd t w b Oo A0 B0 C0 D0 A1 B1 C1 D1 Os Oq Oa Obk
def OwnBS (t:Tys) (w:cI) (b:Bd) (O:Go.Sx.Own):Prop:=∃ A R,O.Perm (A++R)∧OItsS t.tg t.it w.s b.stack A∧∀ v' l' A',OIts t.tg t.it v' l' A'→OwnB t { w with s:=v' } { b with stack:=l' } (A'++R)
theorem OIts.r {te ti:TypeId} {v:Value} {l:List It} {O O':Go.Sx.Own} (h:OIts te ti v l O) (hO:∀ p ∈ O,p ∈ O') (H:Heap):ItsR H O' v l:=by
 obtain⟨rows,A,Ts,hp,h1,h2,h3,h4⟩:=h
 refine⟨rows,h1.rsl (fun p hp'=>hO p (hp.mem_iff.2 (by simp[hp']))) H,h2,fun i r x hr hx=>?_⟩
 have hlt:i < Ts.length:=by rw[h3];exact (List.getElem?_eq_some_iff.1 hx).1
 obtain⟨s,e,k⟩:=h4 i r x Ts[i] hr hx (List.getElem?_eq_getElem hlt)
 exact⟨s,e,k.rsl (fun p hp'=>hO p (hp.mem_iff.2 (List.mem_append_right _ (List.mem_flatten.2 ⟨Ts[i],List.getElem_mem hlt,hp'⟩)))) H⟩
theorem OwnB.r {t:Tys} {w:cI} {b:Bd} {O O':Go.Sx.Own} (h:OwnB t w b O) (hO:∀ p ∈ O,p ∈ O') (H:Heap):BdR H O' w b:=by
 obtain⟨Oo,A0,B0,C0,D0,A1,B1,C1,D1,Os,Oq,Oa,Obk,hp,h⟩:=h
 have m:∀ p,p ∈ Oo++(A0++(B0++(C0++(D0++(A1++(B1++(C1++(D1++(Os++(Oq++(Oa++Obk)))))))))))→p ∈ O':=fun p h=>hO p (hp.mem_iff.2 h)
 refine⟨h.objs.rsl (fun p k=>m p (by simp[k])) H,⟨h.l0.rsl (fun p k=>m p (by simp[k])) H,h.h0.rsl (fun p k=>m p (by simp[k])) H,h.f0.rsl (fun p k=>m p (by simp[k])) H,h.g0.rsl (fun p k=>m p (by simp[k])) H⟩,
  ⟨h.l1.rsl (fun p k=>m p (by simp[k])) H,h.h1.rsl (fun p k=>m p (by simp[k])) H,h.f1.rsl (fun p k=>m p (by simp[k])) H,h.g1.rsl (fun p k=>m p (by simp[k])) H⟩,
  h.stack.r (fun p k=>m p (by simp[k])) H,h.queue.r (fun p k=>m p (by simp[k])) H,h.att.rsl (fun p k=>m p (by simp[k])) H,h.blocks.rsl (fun p k=>m p (by simp[k])) H⟩
theorem OwnBS.weak {t:Tys} {w:cI} {b:Bd} {O:Go.Sx.Own} (h:OwnBS t w b O):OwnB t w b O:=by
 obtain⟨A,R,hp,hs,hk⟩:=h
 obtain⟨Oo,A0,B0,C0,D0,A1,B1,C1,D1,Os,Oq,Oa,Obk,hp',h⟩:=hk w.s b.stack A hs.weak
 exact⟨Oo,A0,B0,C0,D0,A1,B1,C1,D1,Os,Oq,Oa,Obk,hp.trans hp',h⟩
def VA (l:List It):Prop:=l.length≤1000000∧∀ x ∈ l,x.tgs.length≤1000000
def stB (s:St):Prop:=s.lib.length≤1000000∧s.hand.length≤1000000∧s.field.length≤1000000∧s.grave.length≤1000000
def bdB (b:Bd):Prop:=b.objs.length≤1000000∧stB b.s0∧stB b.s1∧VA b.stack∧VA b.queue∧b.att.length≤1000000∧b.blocks.length≤1000000
theorem Cons.ghost {H H':Heap} {O O':Go.Sx.Own} (h:Cons H O) (g:Ghost H O H' O'):Cons H' O':=by
 obtain⟨w,F,hm⟩:=h
 exact⟨w,F,(g w F hm).1⟩
theorem Cons.perm {H:Heap} {O O':Go.Sx.Own} (h:Cons H O) (hp:O.Perm O'):Cons H O':=h.ghost (Ghost.perm hp)
theorem Triple.ghost {P:Program} {f:FuncId} {args:List Value} {H:Heap} {O:Go.Sx.Own} {Q Q':Value→Heap→Go.Sx.Own→Prop} (h:Triple P f args H O Q)
  (hq:∀ v H' O',Heap.le H H'→Cons H' O'→Q v H' O'→∃ H'' O'',Ghost H' O' H'' O''∧Q' v H'' O''):Triple P f args H O Q' :=
 fun w F hm=>(h w F hm).mono fun _ w' ⟨v,H',O',he,q,hle,hm'⟩ =>
  let ⟨H'',O'',g,q'⟩:=hq v H' O' hle ⟨w',F,hm'⟩ q
  ⟨v,H'',O'',he,q',Heap.le_trans hle (g _ _ hm').2,(g _ _ hm').1⟩
theorem B8 {te:TypeId}:∀ (l:List It) (rows:List (List Value)) (Ts:List Go.Sx.Own) (H:Heap) (X:Go.Sx.Own),rows.length=l.length→Ts.length=l.length →
  (∀ (i:Nat) (r:List Value) (x:It) (T:Go.Sx.Own),rows[i]?=some r→l[i]?=some x→Ts[i]?=some T→∃ s,r=[iV x.player,iV x.id,iV x.card,iV x.trig,s]∧OSlE te 2 s (x.tgs.map Tg.row) T) →
  Cons H (List.flatten Ts++X)→∃ H',Ghost H (List.flatten Ts++X) H' X∧Heap.le H H' ∧
   ∀ (i:Nat) (r:List Value) (x:It),rows[i]?=some r→l[i]?=some x→∃ s,r=[iV x.player,iV x.id,iV x.card,iV x.trig,s]∧Sl H' 2 s (x.tgs.map Tg.row)
 | [],[],[],H,X,_,_,_,_=>⟨H,Ghost.refl _ _,Heap.le_refl _,fun i r x h=>by simp at h⟩
 | x::l,r::rows,T::Ts,H,X,h1,h2,hs,hc=>by
  obtain⟨s,e,hT⟩:=hs 0 r x T rfl rfl rfl
  rw[List.flatten_cons,List.append_assoc] at hc
  obtain⟨H1,g1,k1,l1⟩:=hT.freeze hc
  obtain⟨H2,g2,l2,k2⟩:=B8 l rows Ts H1 X (by simpa using h1) (by simpa using h2) (fun i r x T a b c=>hs (i + 1) r x T (by simpa using a) (by simpa using b) (by simpa using c)) (hc.ghost g1)
  refine⟨H2,?_,Heap.le_trans l1 l2,fun i r' x' a b=>?_⟩
  ·rw[List.flatten_cons,List.append_assoc];exact g1.trans g2
  ·cases i with
   | zero=>simp at a b;subst a;subst b;exact⟨s,e,k1.le l2⟩
   | succ i=>exact k2 i r' x' (by simpa using a) (by simpa using b)
 | [],_::_,_,_,_,h,_,_,_=>by simp at h
 | _::_,[],_,_,_,h,_,_,_=>by simp at h
 | [],[],_::_,_,_,_,h,_,_=>by simp at h
 | _::_,_::_,[],_,_,_,h,_,_=>by simp at h
theorem OIts.freeze {te ti:TypeId} {v:Value} {l:List It} {O1 X:Go.Sx.Own} {H:Heap} (h:OIts te ti v l O1) (hc:Cons H (O1++X)):∃ H',Ghost H (O1++X) H' X∧ItsS H' v l∧Heap.le H H':=by
 obtain⟨rows,A,Ts,hp,h1,h2,h3,h4⟩:=h
 have hp':(O1++X).Perm (A++(List.flatten Ts++X)):=(hp.append_right X).trans (List.Perm.of_eq (List.append_assoc _ _ _))
 obtain⟨H1,g1,k1,l1⟩:=h1.freeze (hc.perm hp')
 obtain⟨H2,g2,l2,k2⟩:=B8 l rows Ts H1 X h2 h3 h4 ((hc.perm hp').ghost g1)
 exact⟨H2,(Ghost.perm hp').trans (g1.trans g2),⟨rows,k1.le l2,h2,k2⟩,Heap.le_trans l1 l2⟩
theorem OwnB.freeze {t:Tys} {w:cI} {b:Bd} {O X:Go.Sx.Own} {H:Heap} (h:OwnB t w b O) (hc:Cons H (O++X)):∃ H',Ghost H (O++X) H' X∧BdS H' w b∧Heap.le H H':=by
 obtain⟨Oo,A0,B0,C0,D0,A1,B1,C1,D1,Os,Oq,Oa,Obk,hp,h⟩:=h
 have hp':(O++X).Perm (Oo++(A0++(B0++(C0++(D0++(A1++(B1++(C1++(D1++(Os++(Oq++(Oa++(Obk++X))))))))))))):=by
  refine (hp.append_right X).trans (List.Perm.of_eq ?_)
  simp only[List.append_assoc]
 replace hc:=hc.perm hp'
 obtain⟨H1,g1,k1,l1⟩:=h.objs.freeze hc
 replace hc:=hc.ghost g1
 obtain⟨H2,g2,k2,l2⟩:=h.l0.freeze hc
 replace hc:=hc.ghost g2
 obtain⟨H3,g3,k3,l3⟩:=h.h0.freeze hc
 replace hc:=hc.ghost g3
 obtain⟨H4,g4,k4,l4⟩:=h.f0.freeze hc
 replace hc:=hc.ghost g4
 obtain⟨H5,g5,k5,l5⟩:=h.g0.freeze hc
 replace hc:=hc.ghost g5
 obtain⟨H6,g6,k6,l6⟩:=h.l1.freeze hc
 replace hc:=hc.ghost g6
 obtain⟨H7,g7,k7,l7⟩:=h.h1.freeze hc
 replace hc:=hc.ghost g7
 obtain⟨H8,g8,k8,l8⟩:=h.f1.freeze hc
 replace hc:=hc.ghost g8
 obtain⟨H9,g9,k9,l9⟩:=h.g1.freeze hc
 replace hc:=hc.ghost g9
 obtain⟨H10,g10,k10,l10⟩:=h.stack.freeze hc
 replace hc:=hc.ghost g10
 obtain⟨H11,g11,k11,l11⟩:=h.queue.freeze hc
 replace hc:=hc.ghost g11
 obtain⟨H12,g12,k12,l12⟩:=h.att.freeze hc
 replace hc:=hc.ghost g12
 obtain⟨H13,g13,k13,l13⟩:=h.blocks.freeze hc
 have m12:=l13
 have m11:=Heap.le_trans l12 m12
 have m10:=Heap.le_trans l11 m11
 have m9:=Heap.le_trans l10 m10
 have m8:=Heap.le_trans l9 m9
 have m7:=Heap.le_trans l8 m8
 have m6:=Heap.le_trans l7 m7
 have m5:=Heap.le_trans l6 m6
 have m4:=Heap.le_trans l5 m5
 have m3:=Heap.le_trans l4 m4
 have m2:=Heap.le_trans l3 m3
 have m1:=Heap.le_trans l2 m2
 exact⟨H13,(Ghost.perm hp').trans (g1.trans (g2.trans (g3.trans (g4.trans (g5.trans (g6.trans (g7.trans (g8.trans (g9.trans (g10.trans (g11.trans (g12.trans g13)))))))))))),
  ⟨k1.le m1,⟨k2.le m2,k3.le m3,k4.le m4,k5.le m5⟩,⟨k6.le m6,k7.le m7,k8.le m8,k9.le m9⟩,k10.le m10,k11.le m11,k12.le m12,k13⟩,Heap.le_trans l1 m1⟩
theorem FB {P:Program} {v:Value} {H:Heap} {O O':Go.Sx.Own} {Q:Value→Heap→Go.Sx.Own→Prop} (hp:O.Perm O') (h:Q v H O'):(Tree.ret v []).den P Q H O:=fun _=>⟨H,O',Ghost.perm (by simpa using hp),h⟩
theorem RetO.frame {P:Program} {f:FuncId} {args:List Value} {H:Heap} {O:Go.Sx.Own} {r:Value} (h:RetO P f args H O r) (X:Go.Sx.Own):RetO P f args H (O++X) r :=
 (Triple.frame h X).mono fun _ _ _ _ ⟨O'',e,e1,e2⟩=>⟨e1,by rw[e,e2]⟩
theorem RetO.perm {P:Program} {f:FuncId} {args:List Value} {H:Heap} {O O':Go.Sx.Own} {r:Value} (h:RetO P f args H O r) (hp:O.Perm O'):RetO P f args H O' r :=
 fun w F hm=>(h w F (hm.perm (hp.symm.append_right F))).mono fun _ _ ⟨v,H',O1,he,⟨q1,q2⟩,hle,hm'⟩=>⟨v,H',O',he,⟨q1,rfl⟩,hle,hm'.perm (by rw[q2];exact hp.append_right F)⟩
theorem QQ {r:List Value} {n:Nat} (h:r.length=n):(List.range n).map (g r)=r:=by
 subst h
 refine List.ext_getElem (by simp) fun i h1 h2=>?_
 simp[g,h2]
theorem JM {r ys:List Value} (h:r.length=ys.length):bL r 0 ys=ys:=by simp[bL,h]
theorem Uz {size:Nat}:∀ (k:Nat) (zs:List Value),zs.length=k * size→Ones zs→∃ rows:List (List Value),rows.length=k∧(∀ r ∈ rows,r.length=size)∧(∀ r ∈ rows,Ones r)∧rows.flatten=zs
 | 0,zs,h,_=>⟨[],rfl,by simp,by simp,by
   have:zs=[]:=List.eq_nil_of_length_eq_zero (by simpa using h)
   rw[this];rfl⟩
 | k + 1,zs,h,ho=>by
  rw[Nat.add_mul,Nat.one_mul] at h
  obtain⟨rows,h1,h2,h3,h4⟩:=Uz (size:=size) k (zs.drop size) (by rw[List.length_drop];omega) (ho.drop size)
  refine⟨zs.take size::rows,by simp[h1],?_,?_,by rw[List.flatten_cons,h4,List.take_append_drop]⟩
  ·intro r hr
   rcases List.mem_cons.1 hr with rfl | hr
   ·rw[List.length_take];omega
   ·exact h2 r hr
  ·intro r hr
   rcases List.mem_cons.1 hr with rfl | hr
   ·exact ho.take size
   ·exact h3 r hr
theorem La {z:Array Value} {n:Nat} (h:∀ v ∈ z.toList,v.oneCell'=true):∀ v ∈ (Builtin.zeroCells z n).toList,v.oneCell'=true:=by
 intro v hv
 simp only[Builtin.zeroCells,Array.toList_map,List.mem_map,Array.toList_range,List.mem_range] at hv
 obtain⟨i,hi,rfl⟩:=hv
 have hpos:0 < z.size:=by
  rcases Nat.eq_zero_or_pos z.size with e | e
  ·rw[e] at hi;omega
  ·exact e
 have hlt:=Nat.mod_lt i hpos
 rw[getElem!_pos z (i % z.size) hlt]
 exact h _ (by simp)
theorem OSl.upto {e:TypeId} {size:Nat} {v:Value} {rows:List (List Value)} {O:Go.Sx.Own} (h:OSl e size v rows O) {i:Nat} (hi:i≤rows.length) :
  ∃ u,al (.slc size false true false) [v,.int .i64 i]=some u∧OSl e size u (rows.take i) O:=by
 rcases h with ⟨⟨a,rfl⟩,rfl,rfl⟩ | ⟨r,cs,cap,rfl,rfl,hcl,hlc,hcap,hl,ho,ht⟩
 ·have h0:i=0:=by simpa using hi
  subst h0
  refine⟨.slice a 0 0,?_,.inl ⟨⟨a,rfl⟩,rfl,rfl⟩⟩
  simp[al,fP,js,ce,cK,eS,pY,asI]
 ·have hb:ce rows.length cap none (some (.int .i64 (i:Int))) none=some (0,i,cap):=by
   have:i≤cap:=by omega
   simp[ce,cK,eS,pY,asI,this]
  refine⟨.slice (some ⟨r,0,none⟩) i cap,?_,.inr ⟨r,cs,cap,?_,rfl,hcl,?_,hcap,fun x hx=>hl x (List.mem_of_mem_take hx),fun x hx=>ho x (List.mem_of_mem_take hx),?_⟩⟩
  ·simp only[al,fP,js,hb,Option.map_some]
   simp[Addr.add]
  ·simp[Nat.min_eq_left hi]
  ·rw[List.length_take];omega
  ·have h1:(rows.take i).length=i:=by rw[List.length_take];omega
   have h2:=congrArg (fun l=>l.take (i * size)) ht
   simp only[List.take_take] at h2
   have h3:i * size≤rows.length * size:=Nat.mul_le_mul_right _ hi
   rw[Nat.min_eq_left h3] at h2
   rw[h1,h2]
   have h4:rows.flatten=(rows.take i).flatten++(rows.drop i).flatten:=by rw[← List.flatten_append,List.take_append_drop]
   have h5:=cV (rows:=rows.take i) (size:=size) fun x hx=>hl x (List.mem_of_mem_take hx)
   rw[h1] at h5
   rw[h4,← h5,List.take_left]
theorem KI {P:Program} {t ty e:TypeId} {size:Nat} {z:Value} (ht:P.underlying t=some (.slice e)) (hz:∀ w,(zeroValue e).run P w=.ok z w) (hzs:z.cells.size=size) (hz1:∀ v ∈ z.cells.toList,v.oneCell'=true)
  {v:Value} {rows:List (List Value)} {O O1 O2:Go.Sx.Own} (h:OSl e size v rows O1) (hO:O.Perm (O1++O2)) {i:Nat} (hi:i≤rows.length) :
  ∃ u,al (.slc size true false false) [v,.int .i64 i]=some u∧∀ (H:Heap) (K:List Value→List (List Value)→Heap→Go.Sx.Own→Prop),
   (∀ rows' O1',rows'.take i=rows.take i→rows'.length=rows.length→OSl e size v rows' O1'→K [] [] H (O1'++O2)) →
   dc (fun H1 O1 R=>ba P ((PrimOp.bi .clear #[t] ty).sem [u]) H1 O1 R) false [] [] (.tup []) K H O:=by
 rcases h with ⟨⟨a,rfl⟩,rfl,rfl⟩ | ⟨r,cs,cap,rfl,rfl,hcl,hlc,hcap,hl,ho,htk⟩
 ·have h0:i=0:=by simpa using hi
  subst h0
  refine⟨.slice a 0 0,?_,fun H K hk=>?_⟩
  ·simp[al,fP,js,ce,cK,eS,pY,asI]
  ·intro _
   refine⟨H,[],O2,fun v' H' O'=>v'=.tuple #[]∧H'=H∧O'=[],Ghost.perm (by simpa using hO),fun w F hm=>⟨.tuple #[],w,H,[],?_,⟨rfl,rfl,rfl⟩,Heap.le_refl H,by simpa using hm⟩,?_⟩
   ·have:(Builtin.clear_ #[t] ty #[.slice a 0 0]).run P w=.ok (.tuple #[]) w:=by cases a <;> simp[Builtin.clear_,run_underlying ht]
    simp only[PrimOp.sem,builtin,Sem.run_bind]
    rw[this];rfl
   ·rintro v' H' O' ⟨rfl,rfl,rfl⟩ _
    exact⟨[],[],[],rfl,trivial,trivial,rfl,hk [] [] rfl rfl (.inl ⟨⟨a,rfl⟩,rfl,rfl⟩)⟩
 ·have hb:ce rows.length cap (some (.int .i64 (i:Int))) none none=some (i,rows.length,cap):=by
   simp[ce,cK,eS,pY,asI,hi]
  have hmul:i * size≤rows.length * size:=Nat.mul_le_mul_right _ hi
  have hmul2:rows.length * size≤cap * size:=Nat.mul_le_mul_right _ hlc
  have hsub:(rows.length - i) * size=rows.length * size - i * size:=Nat.sub_mul _ _ _
  refine⟨.slice (some ⟨r,if cap=i then 0 else i * size,none⟩) (rows.length - i) (cap - i),?_,fun H K hk=>?_⟩
  ·simp only[al,fP,js,hb,Option.map_some]
   split
   ·rfl
   ·show some (Value.slice (some ((⟨r,0,none⟩:Addr).add (i * size))) (rows.length - i) (cap - i))=_
    rw[bK,Nat.zero_add]
  ·
   have hzl:(Builtin.zeroCells z.cells (rows.length - i)).toList.length=(rows.length - i) * size:=by
    have:=size_zeroCells z.cells (rows.length - i)
    rw[Array.length_toList,this,hzs]
   have hz1':=La (n:=rows.length - i) hz1
   obtain⟨junk,j1,j2,j3,j4⟩:=Uz (rows.length - i) _ hzl (iM hz1')
   generalize hoff:(if cap=i then 0 else i * size)=off
   have hfit:off + (rows.length - i) * z.cells.size≤cs.length:=by
    rw[hzs,hsub,hcl,← hoff]
    split
    ·rename_i e;subst e;omega
    ·omega
   generalize hcs:cs.take off++(Builtin.zeroCells z.cells (rows.length - i)).toList++cs.drop (off + (Builtin.zeroCells z.cells (rows.length - i)).toList.length)=cs'
   have hlen':cs'.length=cs.length:=by
    rw[← hcs]
    simp only[List.length_append,List.length_take,List.length_drop,hzl]
    rw[hzs] at hfit
    omega
   intro _
   refine⟨H,[(r,.cells cs.toArray e (0,0))],O2,fun v' H' O'=>v'=.tuple #[]∧H'=H∧O'=[(r,.cells cs'.toArray e (0,0))],Ghost.perm hO,fun w F hm=>?_,?_⟩
   ·have hrow:=(hm.own (r,.cells cs.toArray e (0,0)) (by simp)).1
    have hrun:=vV (ty:=ty) (cap:=cap - i) (n:=rows.length - i) (off:=off) ht hz hrow hfit hz1'
    rw[hcs] at hrun
    refine⟨.tuple #[],w.setRow r cs'.toArray,H,_,?_,⟨rfl,rfl,rfl⟩,Heap.le_refl H,?_⟩
    ·simp only[PrimOp.sem,builtin,Sem.run_bind]
     rw[hrun];rfl
    ·exact j6 (vs:=cs) (by simpa using hm)
   ·rintro v' H' O' ⟨rfl,rfl,rfl⟩ _
    refine⟨[],[],_,rfl,trivial,trivial,rfl,?_⟩
    have hrl:(rows.take i++junk).length=rows.length:=by rw[List.length_append,List.length_take,j1];omega
    refine hk (rows.take i++junk) _ ?_ hrl (.inr ⟨r,cs',cap,?_,rfl,by rw[hlen',hcl],by rw[hrl];exact hlc,hcap,?_,?_,?_⟩)
    ·rw[List.take_append_of_le_length (by rw[List.length_take];omega),List.take_take,Nat.min_self]
    ·rw[hrl]
    ·intro x hx
     rcases List.mem_append.1 hx with hx | hx
     ·exact hl x (List.mem_of_mem_take hx)
     ·exact j2 x hx
    ·intro x hx
     rcases List.mem_append.1 hx with hx | hx
     ·exact ho x (List.mem_of_mem_take hx)
     ·exact j3 x hx
    ·rw[hrl,List.flatten_append,j4]
     have ht5:(rows.take i).flatten=cs.take (i * size):=by
      have h5:=cV (rows:=rows.take i) (size:=size) fun x hx=>hl x (List.mem_of_mem_take hx)
      have h1:(rows.take i).length=i:=by rw[List.length_take];omega
      rw[h1] at h5
      have h4:rows.flatten=(rows.take i).flatten++(rows.drop i).flatten:=by rw[← List.flatten_append,List.take_append_drop]
      have h2:=congrArg (fun l=>l.take (i * size)) htk
      simp only[List.take_take] at h2
      rw[Nat.min_eq_left hmul,h4,← h5,List.take_left] at h2
      rw[← h5];exact h2.symm
     rw[ht5]
     rw[← hcs]
     by_cases hci:cap=i
     ·have hn:rows.length - i=0:=by omega
      have hz0:(Builtin.zeroCells z.cells (rows.length - i)).toList=[]:=List.eq_nil_of_length_eq_zero (by rw[hzl,hn];simp)
      have hoff0:off=0:=by rw[← hoff,if_pos hci]
      rw[hz0,hoff0]
      have:rows.length=i:=by omega
      simp[this]
     ·have hoff0:off=i * size:=by rw[← hoff,if_neg hci]
      rw[hoff0]
      have e1:(cs.take (i * size)++(Builtin.zeroCells z.cells (rows.length - i)).toList).length=rows.length * size:=by
       rw[List.length_append,List.length_take,hzl,hsub];omega
      rw[List.take_append_of_le_length (by omega),← e1,List.take_length]
theorem gv {P:Program} {f:FuncId} {args:List Value} {H:Heap} {O O1 O2:Go.Sx.Own} {own:List BV} {shp:Shp} {K:List Value→List (List Value)→Heap→Go.Sx.Own→Prop} {R:Value→Heap→Go.Sx.Own→Prop}
  (hO:O.Perm (O1++O2)) (h:Triple P f args H (own.map BV.obj++O1) fun v H' O'=>∃ O3,O'=own.map BV.obj++O3∧R v H' O3) (hf:Ro own (own.map (·.vs)))
  (hk:∀ v H' O3,R v H' O3→Heap.le H H'→∃ vs,shp.open v=some vs∧Ones vs∧K vs (own.map (·.vs)) H' (O3++O2)) :
  dc (fun H1 O1 R=>Triple P f args H1 O1 R) false [] own shp K H O:=by
 intro _
 refine⟨H,O1,O2,_,Ghost.perm hO,h,?_⟩
 rintro v H' O' ⟨O3,rfl,hr⟩ hle
 obtain⟨vs,h1,h2,h3⟩:=hk v H' O3 hr hle
 exact⟨vs,own.map (·.vs),O3,h1,h2,hf,by rw[nD],h3⟩
theorem ik {P:Program} {f:FuncId} {args:List Value} {H:Heap} {O O1 O2:Go.Sx.Own} {shp:Shp} {K:List Value→List (List Value)→Heap→Go.Sx.Own→Prop} {R:Value→Heap→Go.Sx.Own→Prop}
  (hO:O.Perm (O1++O2)) (h:Triple P f args H O1 R) (hk:∀ v H' O3,R v H' O3→Heap.le H H'→∃ vs,shp.open v=some vs∧Ones vs∧K vs [] H' (O3++O2)) :
  dc (fun H1 O1 R=>Triple P f args H1 O1 R) false [] [] shp K H O:=by
 intro _
 refine⟨H,O1,O2,R,Ghost.perm hO,by simpa using h,?_⟩
 intro v H' O' hr hle
 obtain⟨vs,h1,h2,h3⟩:=hk v H' O' hr hle
 exact⟨vs,[],O',h1,h2,trivial,rfl,h3⟩
theorem Qn {P:Program} {op:PrimOp} {args:List Value} {H:Heap} {O O2:Go.Sx.Own} {r:Nat} {cs cs':List Value} {e:TypeId} {v:Value} {shp:Shp} {K:List Value→List (List Value)→Heap→Go.Sx.Own→Prop} {vs:List Value}
  (hO:O.Perm ([(r,.cells cs.toArray e (0,0))]++O2)) (hrun:∀ w F,Models w H ([(r,.cells cs.toArray e (0,0))]++F)→(op.sem args).run P w=.ok (.value v) (w.setRow r cs'.toArray)) (ho:shp.open v=some vs) (h1:Ones vs)
  (hk:K vs [] H ([(r,.cells cs'.toArray e (0,0))]++O2)):dc (fun H1 O1 R=>ba P (op.sem args) H1 O1 R) false [] [] shp K H O:=by
 intro _
 refine⟨H,[(r,.cells cs.toArray e (0,0))],O2,fun v' H' O'=>v'=v∧H'=H∧O'=[(r,.cells cs'.toArray e (0,0))],Ghost.perm hO,fun w F hm=>⟨v,w.setRow r cs'.toArray,H,_,hrun w F (by simpa using hm),⟨rfl,rfl,rfl⟩,Heap.le_refl H,?_⟩,?_⟩
 ·exact j6 (vs:=cs) (by simpa using hm)
 ·rintro v' H' O' ⟨rfl,rfl,rfl⟩ _
  exact⟨vs,[],_,ho,h1,trivial,rfl,hk⟩
theorem K1 {P:Program} {t e:TypeId} {size bytes:Nat} (h:IJ P t e size bytes=true):P.underlying t=some (.slice e)∧∃ i,P.info? e=some i∧i.size=size:=by
 unfold IJ at h
 split at h
 ·rename_i e' i hu hi
  simp only[Bool.and_eq_true,beq_iff_eq] at h
  obtain⟨⟨⟨⟨rfl,hsz⟩,_⟩,_⟩,_⟩:=h
  exact⟨hu,i,hi,hsz⟩
 ·cases h
theorem Sl.upto {H:Heap} {size:Nat} {v:Value} {rows:List (List Value)} (h:Sl H size v rows) {i:Nat} (hi:i≤rows.length):∃ u,al (.slc size false true false) [v,.int .i64 i]=some u∧Sl H size u (rows.take i):=by
 obtain⟨a,cap,rfl,h1,h2,h3⟩:=h
 have hb:ce rows.length cap none (some (.int .i64 (i:Int))) none=some (0,i,cap):=by
  have:i≤cap:=by omega
  simp[ce,cK,eS,pY,asI,this]
 have hm:(rows.take i).length=i:=by rw[List.length_take];omega
 refine⟨.slice a i cap,?_,a,cap,by rw[hm],by rw[hm];omega,h2,fun hne=>?_⟩
 ·simp only[al,fP,js,hb,Option.map_some]
  cases a <;> simp[Addr.add]
 ·have hne2:rows ≠ []:=by rintro rfl;simp at hne
  obtain⟨ad,e,hA⟩:=h3 hne2
  refine⟨ad,e,fun j r hr=>hA j r ?_⟩
  rw[List.getElem?_take] at hr
  split at hr
  ·exact hr
  ·cases hr
theorem Sl.from {H:Heap} {size:Nat} {v:Value} {rows:List (List Value)} (h:Sl H size v rows) {i:Nat} (hi:i≤rows.length):∃ u,al (.slc size true false false) [v,.int .i64 i]=some u∧Sl H size u (rows.drop i):=by
 obtain⟨a,cap,rfl,h1,h2,h3⟩:=h
 have hb:ce rows.length cap (some (.int .i64 (i:Int))) none none=some (i,rows.length,cap):=by
  simp[ce,cK,eS,pY,asI,hi]
 have hm:(rows.drop i).length=rows.length - i:=List.length_drop
 refine⟨.slice (if cap=i then a else a.map (·.add (i * size))) (rows.length - i) (cap - i),?_,_,cap - i,by rw[hm],by rw[hm];omega,by omega,fun hne=>?_⟩
 ·simp only[al,fP,js,hb,Option.map_some]
 ·have hne2:rows ≠ []:=by rintro rfl;simp at hne
  have hlt:i < rows.length:=by
   rcases Nat.lt_or_ge i rows.length with h | h
   ·exact h
   ·rw[List.drop_of_length_le h] at hne;exact absurd rfl hne
  obtain⟨ad,rfl,hA⟩:=h3 hne2
  refine⟨ad.add (i * size),?_,fun j r hr=>?_⟩
  ·rw[if_neg (by omega)];rfl
  ·rw[List.getElem?_drop] at hr
   have:=hA (i + j) r hr
   rw[vP,← Nat.add_mul];exact this
def KindS (H:Heap) (v:Value) (ks:List Int):Prop:=∃ rows,Sl H 14 v rows∧rows.length=ks.length∧∀ (i:Nat) (r:List Value) (k:Int),rows[i]?=some r→ks[i]?=some k→g r 1=iV k
theorem KindS.le {H H':Heap} {v:Value} {ks:List Int} (h:KindS H v ks) (hl:Heap.le H H'):KindS H' v ks:=let ⟨rows,h1,h2,h3⟩:=h;⟨rows,h1.le hl,h2,h3⟩
theorem KindS.one {H:Heap} {v:Value} {ks:List Int} (h:KindS H v ks):v.oneCell'=true:=let ⟨_,h1,_⟩:=h;h1.one
def Gh (ks:List Int) (c:Int):Int:=if c < 0∨c ≥ (ks.length:Int) then 0 else ks.getD c.toNat 0
def Jq (ks:List Int) (o:Ob):Bool:=o.card == -1 || Gh ks o.card == 2
theorem gX {H:Heap} {O:Go.Sx.Own} {p:Value} {m:Nat} {vs:List Value} (h:H.read p m=some vs):Reads H O p m vs:=.inl h
theorem QP {P:Program} {t e:TypeId} (hu:P.underlying t=some (.slice e)) {size:Nat} (h0:0 < size) {H:Heap} {x:Value} {news:List (List Value)} (hs:Sl H size x news) {w:World} {O:Go.Sx.Own} (hm:Models w H O) :
  Src P size t x news.length news.flatten w∧news.flatten.length=news.length * size∧(∀ row ∈ news,row.length=size)∧∀ row ∈ news,Ones row:=by
 obtain⟨xa,cap,rfl,h1,h2,h3⟩:=hs
 by_cases hne:news=[]
 ·subst hne
  refine⟨?_,by simp,by simp,by simp⟩
  cases xa with
  | none=>exact Src.ofNil w hu cap
  | some ad=>exact Src.ofSlice w hu ad 0 cap [] (by simp) (fun j u h=>by simp at h) (by simp)
 ·obtain⟨a,rfl,hA⟩:=h3 hne
  obtain⟨hnl,hcells⟩:=yB (H:=H) h0 (fun _=>hA) hm
  have hfl:=cV fun r hr=>(hnl r hr).1
  refine⟨Src.ofSlice w hu a _ cap _ hfl hcells fun u hu'=>?_,hfl,fun r hr=>(hnl r hr).1,fun r hr=>(hnl r hr).2⟩
  obtain⟨r,hr,hur⟩:=List.mem_flatten.1 hu'
  exact iZ (hnl r hr).2 u hur
theorem Nr {P:Program} {t tx ty e:TypeId} {i:TypeInfo} {z:Value} {size:Nat} (ht:P.underlying t=some (.slice e)) (hi:P.info? e=some i) (hz:i.zero=some z) (hsz:i.size=size) (hzs:z.cells.size=size) (hby:gh P e=i.bytes) {w:World}
  {base:Option Addr} {len cap m:Nat} {olds news:List Value} {x:Value} (hold:(Builtin.firstCells i.size len (.slice base len cap)).run P w.drew=.ok olds.toArray w.drew) (hs:Src P size tx x m news w)
  (hg:cap < len + m) (hb:(len + m) * gh P e≤140737488355328) (h63:len + m < 2 ^ 63) :
  ∃ zs cc,zs.length=cc * size∧cc + (len + m) < 2 ^ 63∧(Builtin.append_ #[t,tx] ty #[.slice base len cap,x]).run P w=.ok (.slice (some ⟨w.heap.size,0,none⟩) (len + m) (cc + (len + m))) (w.drew.alloc (.cells (olds++news++zs).toArray e)):=by
 subst hsz
 have hge:=grownCap_ge w (len + m) cap e
 have hle:=grownCap_le_maxLen w (len + m) cap e (by unfold maxLen;omega)
 unfold maxLen at hle
 refine⟨(Builtin.zeroCells z.cells (grownCap w (len + m) cap e - (len + m))).toList,grownCap w (len + m) cap e - (len + m),?_,by omega,?_⟩
 ·rw[Array.length_toList,size_zeroCells,hzs]
 ·rw[run_append_grow_src (P:=P) w t tx ty e i z ht hi hz base len cap olds hold x m news hs hg (by omega) (growslice_fits hg (by rw[← hby];exact hb))]
  have e1:grownCap w (len + m) cap e - (len + m) + (len + m)=grownCap w (len + m) cap e:=by omega
  rw[e1]
  congr 3
  apply Array.ext'
  simp
theorem vN {P:Program} {t ty e:TypeId} {size:Nat} (ha:rn P t e size=true) {ad:Addr} {rows news:List (List Value)} {x:Value} {H:Heap} (hr:Sl H size (.slice (some ad) rows.length rows.length) rows) (hx:Sl H size x news)
  (hb:(rows.length + news.length) * gh P e≤140737488355328) (h63:rows.length + news.length < 2 ^ 63) :
  ba P ((PrimOp.bi .append #[t,t] ty).sem [.slice (some ad) rows.length rows.length,x]) H [] fun v' H' O'=>O'=[]∧Heap.le H H'∧Sl H' size v' (rows++news):=by
 obtain⟨hu,i,z,hi,hsz,hz,hzs,h0,hby⟩:=vO ha
 intro w F hm
 simp only[List.nil_append] at hm
 obtain⟨src,s1,s2,s3⟩:=QP hu h0 hx hm
 by_cases hne:news=[]
 ·subst hne
  have hs':Src P i.size t x 0 [] w:=by rw[hsz];exact src
  have hrun:=tD (ty:=ty) hu hi (base:=some ad) (cap:=rows.length) hs' (Nat.le_refl _)
  refine⟨_,w,H,[],?_,⟨rfl,Heap.le_refl H,by rw[List.append_nil];exact hr⟩,Heap.le_refl H,by simpa using hm⟩
  simp only[PrimOp.sem,builtin,Sem.run_bind]
  rw[hrun];rfl
 ·have hpos:0 < news.length:=List.length_pos_iff.2 hne
  obtain⟨osrc,o1,o2,o3⟩:=QP hu h0 hr hm
  obtain⟨zs,cc,z1,zc,hrun⟩:=Nr (ty:=ty) hu hi hz hsz hzs hby (w:=w) (base:=some ad) (len:=rows.length) (cap:=rows.length) (m:=news.length) (olds:=rows.flatten) (news:=news.flatten) (x:=x)
   (by rw[hsz];exact osrc.cellsD) src (by omega) hb h63
  have hm2:=kZ hm (rows.flatten++news.flatten++zs).toArray e
  have ho:OSl e size (.slice (some ⟨w.heap.size,0,none⟩) (rows.length + news.length) (cc + (rows.length + news.length))) (rows++news) [(w.heap.size,.cells (rows.flatten++news.flatten++zs).toArray e (0,0))]:=by
   refine .inr ⟨w.heap.size,rows.flatten++news.flatten++zs,cc + (rows.length + news.length),by rw[List.length_append],rfl,?_,?_,?_,?_,?_,?_⟩
   ·rw[List.length_append,List.length_append,o1,s1,z1,← Nat.add_mul,← Nat.add_mul];congr 1;omega
   ·rw[List.length_append];omega
   ·exact zc
   ·intro r hr'
    rcases List.mem_append.1 hr' with h | h
    ·exact o2 r h
    ·exact s2 r h
   ·intro r hr'
    rcases List.mem_append.1 hr' with h | h
    ·exact o3 r h
    ·exact s3 r h
   ·rw[List.flatten_append,List.length_append,Nat.add_mul,← o1,← s1,← List.length_append,List.take_left]
  obtain⟨H',g,k1,k2⟩:=ho.freeze (X:=[]) ⟨w.drew.alloc (.cells (rows.flatten++news.flatten++zs).toArray e),F,hm2⟩
  refine⟨_,w.drew.alloc (.cells (rows.flatten++news.flatten++zs).toArray e),H',[],?_,⟨rfl,k2,k1⟩,k2,(g _ F hm2).1⟩
  simp only[PrimOp.sem,builtin,Sem.run_bind]
  rw[hrun];rfl
theorem Ab {P:Program} {t ty e:TypeId} {size:Nat} (ha:rn P t e size=true) {ad:Addr} {rows news:List (List Value)} {x:Value} {H:Heap} {O:Go.Sx.Own} {frz:List BV} {K:List Value→List (List Value)→Heap→Go.Sx.Own→Prop}
  (hr:∀ Hf,Heap.le H Hf→(∀ b ∈ frz,Hf b.r=some b.obj.2)→Sl Hf size (.slice (some ad) rows.length rows.length) rows) (hx:Sl H size x news)
  (hb:(rows.length + news.length) * gh P e≤140737488355328) (h63:rows.length + news.length < 2 ^ 63) (hk:∀ v' H',Heap.le H H'→Sl H' size v' (rows++news)→K [v'] [] H' O) :
  dc (fun H1 O1 R=>ba P ((PrimOp.bi .append #[t,t] ty).sem [.slice (some ad) rows.length rows.length,x]) H1 O1 R) false frz [] .one K H O:=by
 intro hc
 have hf:=fg hc
 have hl:=Heap.le_insAll frz H
 refine⟨H.insAll frz,[],O,_,Ghost.refl _ _,by simpa using vN (ty:=ty) ha (hr _ hl hf) (hx.le hl) hb h63,?_⟩
 rintro v' H' O' ⟨rfl,hle,hs⟩ _
 exact⟨[v'],[],[],rfl,⟨hs.one,trivial⟩,trivial,rfl,hk v' H' (Heap.le_trans hl hle) hs⟩
def K7 (x:Int) (l:List Int):List Int:=l.takeWhile (fun y=>decide (y < x))++x::l.dropWhile (fun y=>decide (y < x))
def xC (l:List Int):List Int:=l.foldl (fun out x=>K7 x out) []
theorem zB (x:Int) (l:List Int):(K7 x l).Perm (x::l):=by
 rw[K7]
 refine List.perm_middle.trans (List.Perm.cons x ?_)
 rw[List.takeWhile_append_dropWhile]
theorem to:∀ (l out:List Int),(l.foldl (fun out x=>K7 x out) out).Perm (l++out)
 | [],out=>List.Perm.refl _
 | x::l,out=>by
  rw[List.foldl_cons]
  refine (to l _).trans ?_
  exact ((zB x out).append_left l).trans List.perm_middle
theorem BM (l:List Int):(xC l).Perm l:=by have:=to l [];rw[List.append_nil] at this;exact this
theorem Fe (l:List Int):(xC l).length=l.length:=(BM l).length_eq
theorem zA {x:Int}:∀ {l:List Int},l.Pairwise (· < ·)→x ∉ l→(K7 x l).Pairwise (· < ·)
 | [],_,_=>by simp[K7]
 | a::l,h,hx=>by
  rw[List.pairwise_cons] at h
  simp only[List.mem_cons,not_or] at hx
  have ih:=zA h.2 hx.2
  by_cases hax:a < x
  ·have e:K7 x (a::l)=a::K7 x l:=by simp[K7,List.takeWhile_cons,List.dropWhile_cons,hax]
   rw[e,List.pairwise_cons]
   refine⟨fun y hy=>?_,ih⟩
   rcases List.mem_cons.1 ((zB x l).mem_iff.1 hy) with rfl | hy
   ·exact hax
   ·exact h.1 y hy
  ·have e:K7 x (a::l)=x::a::l:=by simp[K7,List.takeWhile_cons,List.dropWhile_cons,hax]
   rw[e,List.pairwise_cons,List.pairwise_cons]
   refine⟨fun y hy=>?_,h.1,h.2⟩
   rcases List.mem_cons.1 hy with rfl | hy
   ·omega
   ·have:=h.1 y hy;omega
theorem oU:∀ {l out:List Int},out.Pairwise (· < ·)→(l++out).Nodup→(l.foldl (fun out x=>K7 x out) out).Pairwise (· < ·)
 | [],_,h,_=>h
 | x::l,out,h,hn=>by
  rw[List.foldl_cons]
  have hn2:(l++x::out).Nodup:=List.perm_middle.nodup_iff.2 (by simpa using hn)
  have hx:x ∉ out:=by
   rw[List.nodup_append] at hn2
   exact (List.nodup_cons.1 hn2.2.1).1
  exact oU (zA h hx) (((zB x out).symm.append_left l).nodup_iff.1 hn2)
theorem Fa {l:List Int} (h:l.Nodup):(xC l).Pairwise (· < ·):=oU (out:=[]) List.Pairwise.nil (by simpa using h)
theorem BL:∀ {l r:List Int},l.Pairwise (· < ·)→r.Pairwise (· < ·)→(∀ x,x ∈ l ↔ x ∈ r)→l=r
 | [],[],_,_,_=>rfl
 | [],b::r,_,_,h=>by have:=(h b).2 (by simp);cases this
 | a::l,[],_,_,h=>by have:=(h a).1 (by simp);cases this
 | a::l,b::r,hl,hr,h=>by
  rw[List.pairwise_cons] at hl hr
  have e:a=b:=by
   have h1:=(h a).1 (by simp)
   have h2:=(h b).2 (by simp)
   rcases List.mem_cons.1 h1 with e | h1
   ·exact e
   rcases List.mem_cons.1 h2 with e | h2
   ·exact e.symm
   have:=hl.1 b h2
   have:=hr.1 a h1
   omega
  subst e
  congr 1
  refine BL hl.2 hr.2 fun x=>⟨fun hx=>?_,fun hx=>?_⟩
  ·rcases List.mem_cons.1 ((h x).1 (by simp[hx])) with e | h'
   ·have:=hl.1 x hx;omega
   ·exact h'
  ·rcases List.mem_cons.1 ((h x).2 (by simp[hx])) with e | h'
   ·have:=hr.1 x hx;omega
   ·exact h'
end Go.Sx
namespace Go.Sx
open Go
set_option maxRecDepth 100000
set_option maxHeartbeats 1000000
abbrev uV (n:Nat):Value:=.int .u64 (n:Int)
theorem Vh {n:Nat} (h:n < 2 ^ 64):IntKind.u64.wrap (n:Int)=n:=by
 simp only[IntKind.wrap,IntKind.bits,IntKind.signed]
 simp
 omega
theorem I4 (z:Value):∀ n,List.replicate n z=(List.replicate n [z]).flatten
 | 0=>rfl
 | n + 1=>by rw[List.replicate_succ,List.replicate_succ,List.flatten_cons,← I4 z n];rfl
theorem LO (z:Value):∀ n,sF [z] n=List.replicate n z
 | 0=>rfl
 | n + 1=>by rw[sF,LO z n];rfl
theorem PH {P:Program} {t elem:TypeId} {z:Value} (hu:P.underlying t=some (.slice elem)) (hs:kO P elem=some 1) (hz:s5 P elem=some [.k z]) (hby:((P.info? elem).map fun i=>decide (i.bytes≤16)).getD false=true) (hzo:z.oneCell'=true)
  {n:Nat} (hn:n≤65536) {H:Heap} {O:Go.Sx.Own} {K:List Value→List (List Value)→Heap→Go.Sx.Own→Prop} (hk:∀ v A,OSl elem 1 v (List.replicate n [z]) A→K [v] [] H (A++O)) :
  dc (fun H1 O1 R=>ba P ((PrimOp.makeSlice t).sem [iV n,iV n]) H1 O1 R) false [] [] .one K H O:=by
 obtain⟨zv,hzr,hzc,_,_⟩:=j0 hz
 have hrun:∀ w,((PrimOp.makeSlice t).sem [iV n,iV n]).run P w=.ok (.value (.slice (some ⟨w.heap.size,0,none⟩) n n)) { w with heap:=w.heap.push (.cells (List.replicate n z).toArray elem (0,0)) }:=by
  intro w
  have hzc':zv.cells=#[z]:=by
   apply Array.ext'
   rw[hzc];rfl
  have hrep:((Array.range (n * 1)).map fun i=>(#[z]:Array Value)[i % (#[z]:Array Value).size]!)=(List.replicate n z).toArray:=by
   have:=ib [z] (by simp) n
   apply Array.ext'
   rw[← LO,← this]
   simp
  cases hi:P.info? elem with
  | none=>rw[hi] at hby;simp at hby
  | some i =>
   rw[hi] at hby
   simp only[Option.map_some,Option.getD_some,decide_eq_true_eq] at hby
   have w1:IntKind.i64.wrap (n:Int)=n:=dN (by omega) (by omega)
   have hby':¬ ((i.bytes:Int) * (n:Int) > 2 ^ 48):=by
    have h1:i.bytes * n≤16 * 65536:=Nat.mul_le_mul hby hn
    have e:((i.bytes * n:Nat):Int)=(i.bytes:Int) * (n:Int):=Int.natCast_mul _ _
    omega
   have hcnd:¬ (((decide ((n:Int) < 0) || decide ((i.bytes:Int) * (n:Int) > 2 ^ 48)) || decide ((n:Int) < 0) || decide ((n:Int) > (n:Int)))=true):=by
    simp only[Bool.or_eq_true,decide_eq_true_eq]
    omega
   have hti:(typeInfo elem).run P w=.ok i w:=by simp[typeInfo,hi]
   have hA:(asInt (.int .i64 (n:Int))).run P w=.ok (n:Int) w:=rfl
   show ((do pure (Next.value (← Instr.makeSlice t (iV n) (iV n)))):Sem Next).run P w=_
   rw[Sem.run_bind]
   unfold Instr.makeSlice
   rw[Sem.run_bind,ar hu]
   simp only[Result.andThen_ok]
   rw[Sem.run_bind,hA,Result.andThen_ok,Sem.run_bind,hA,Result.andThen_ok,Sem.run_bind,hti,Result.andThen_ok]
   simp only[w1]
   rw[if_neg hcnd]
   by_cases h0:n * 1=0
   ·have hm0:n=0:=by omega
    subst hm0
    simp only[Sem.run_bind,run_askRoom,aW hs,Result.andThen_ok,Int.toNat_natCast,Nat.zero_mul,if_true,Sem.run_pure,show Array.range 0=#[] from rfl,Array.map_empty,newRow,run_newObj,List.replicate]
   ·simp only[Sem.run_bind,run_askRoom,aW hs,Result.andThen_ok,Int.toNat_natCast,h0,if_false,hzr,Sem.run_pure,hzc',hrep,newRow,run_newObj]
 intro hc
 refine⟨H,[],O,fun v H' O'=>H'=H∧∃ A,O'=A∧OSl elem 1 v (List.replicate n [z]) A,Ghost.refl _ _,?_,?_⟩
 ·intro w F hm
  have hp:=hm.push (.cells (List.replicate n z).toArray elem (0,0))
  refine⟨_,_,H,[(w.heap.size,.cells (List.replicate n z).toArray elem (0,0))],hrun w,⟨rfl,_,rfl,.inr ⟨w.heap.size,List.replicate n z,n,?_,rfl,?_,?_,?_,?_,?_,?_⟩⟩,Heap.le_refl H,?_⟩
  ·rw[List.length_replicate]
  ·rw[List.length_replicate,Nat.mul_one]
  ·rw[List.length_replicate];exact Nat.le_refl _
  ·omega
  ·intro row hr;rw[List.eq_of_mem_replicate hr];rfl
  ·intro row hr;rw[List.eq_of_mem_replicate hr];exact⟨hzo,trivial⟩
  ·rw[List.length_replicate,Nat.mul_one,List.take_of_length_le (by simp)]
   exact I4 z n
  ·simpa using hp
 ·rintro v H' O' ⟨rfl,A,rfl,h⟩ _
  exact⟨[v],[],O',rfl,⟨h.one,trivial⟩,trivial,rfl,hk v O' h⟩
theorem NJ {P:Program} {t t2 ty e:TypeId} {i:TypeInfo} (ht:P.underlying t=some (.slice e)) (hi:P.info? e=some i) {H:Heap} {O O2:Go.Sx.Own} {r off dLen dCap m k:Nat} {cs src:List Value} {x:Value} {K:List Value→List (List Value)→Heap→Go.Sx.Own→Prop}
  (hO:O.Perm ([(r,.cells cs.toArray e (0,0))]++O2)) (hl:∀ w':World,(Builtin.lenOf x).run P w'=.ok m w') (hk:k=min m dLen)
  (hcells:∀ w F,Models w H ([(r,.cells cs.toArray e (0,0))]++F)→(Builtin.firstCells i.size k x).run P w=.ok src.toArray w) (hfit:off + src.length≤cs.length) (h1:∀ v ∈ src,v.oneCell'=true)
  (hK:K [iV (k:Int)] [] H ([(r,.cells (cs.take off++src++cs.drop (off + src.length)).toArray e (0,0))]++O2)) :
  dc (fun H1 O1 R=>ba P ((PrimOp.bi .copy #[t,t2] ty).sem [.slice (some ⟨r,off,none⟩) dLen dCap,x]) H1 O1 R) false [] [] .one K H O:=by
 refine Qn (r:=r) (cs:=cs) (e:=e) (O2:=O2) (cs':=cs.take off++src++cs.drop (off + src.length)) hO (v:=iV (k:Int)) (fun w F hm=>?_) rfl ⟨rfl,trivial⟩ hK
 have hrow:=(hm.own (r,.cells cs.toArray e (0,0)) (by simp)).1
 have:=yN (P:=P) (t:=t) (t2:=t2) (ty:=ty) ht hi (w:=w) (off:=off) (dLen:=dLen) (dCap:=dCap) hrow hl hk (hcells w F hm) hfit h1
 simp only[PrimOp.sem,builtin]
 rw[Sem.run_bind,this]
 rfl
end Go.Sx
namespace Go.Sx
open Go
structure Cd where
 kind:Int
 tg:List Int
 tr:List Nat
def EffsS (H:Heap) (v:Value) (tg:List Int):Prop:=∃ rows,Sl H 5 v rows∧rows.length=tg.length∧∀ (i:Nat) (r:List Value) (t:Int),rows[i]?=some r→tg[i]?=some t→g r 1=iV t
def TrigR (H:Heap) (r:List Value) (n:Nat):Prop:=∃ erows,Sl H 5 (g r 1) erows∧erows.length=n
def TrigsS (H:Heap) (v:Value) (tr:List Nat):Prop:=∃ rows,Sl H 2 v rows∧rows.length=tr.length∧∀ (i:Nat) (r:List Value) (n:Nat),rows[i]?=some r→tr[i]?=some n→TrigR H r n
structure CdR (H:Heap) (r:List Value) (c:Cd):Prop where
 kind:g r 1=iV c.kind
 eff:EffsS H (g r 11) c.tg
 trig:TrigsS H (g r 12) c.tr
def CardsS (H:Heap) (v:Value) (cs:List Cd):Prop:=∃ rows,Sl H 14 v rows∧rows.length=cs.length∧∀ (i:Nat) (r:List Value) (c:Cd),rows[i]?=some r→cs[i]?=some c→CdR H r c
theorem EffsS.le {H H':Heap} {v:Value} {l:List Int} (h:EffsS H v l) (hl:Heap.le H H'):EffsS H' v l:=let ⟨rows,h1,h2,h3⟩:=h;⟨rows,h1.le hl,h2,h3⟩
theorem TrigR.le {H H':Heap} {r:List Value} {n:Nat} (h:TrigR H r n) (hl:Heap.le H H'):TrigR H' r n:=let ⟨rows,h1,h2⟩:=h;⟨rows,h1.le hl,h2⟩
theorem TrigsS.le {H H':Heap} {v:Value} {l:List Nat} (h:TrigsS H v l) (hl:Heap.le H H'):TrigsS H' v l:=let ⟨rows,h1,h2,h3⟩:=h;⟨rows,h1.le hl,h2,fun i r n a b=>(h3 i r n a b).le hl⟩
theorem CdR.le {H H':Heap} {r:List Value} {c:Cd} (h:CdR H r c) (hl:Heap.le H H'):CdR H' r c:=⟨h.kind,h.eff.le hl,h.trig.le hl⟩
theorem CardsS.le {H H':Heap} {v:Value} {cs:List Cd} (h:CardsS H v cs) (hl:Heap.le H H'):CardsS H' v cs:=let ⟨rows,h1,h2,h3⟩:=h;⟨rows,h1.le hl,h2,fun i r c a b=>(h3 i r c a b).le hl⟩
def Eh (cs:List Cd):List Int:=cs.map (·.kind)
theorem CardsS.kinds {H:Heap} {v:Value} {cs:List Cd} (h:CardsS H v cs):KindS H v (Eh cs):=by
 obtain⟨rows,h1,h2,h3⟩:=h
 refine⟨rows,h1,by simp[Eh,h2],fun i r k a b=>?_⟩
 rw[Eh,List.getElem?_map] at b
 cases hc:cs[i]? with
 | none=>rw[hc] at b;cases b
 | some c =>
  rw[hc] at b
  obtain rfl:c.kind=k:=by simpa using b
  exact (h3 i r c a hc).kind
theorem CardsS.one {H:Heap} {v:Value} {cs:List Cd} (h:CardsS H v cs):v.oneCell'=true:=let ⟨_,h1,_⟩:=h;h1.one
theorem CardsS.len {H:Heap} {v:Value} {cs:List Cd} (h:CardsS H v cs):al .len [v]=some (iV cs.length):=by
 obtain⟨rows,h1,h2,_⟩:=h
 have:=h1.len;rwa [h2] at this
theorem EffsS.one {H:Heap} {v:Value} {l:List Int} (h:EffsS H v l):v.oneCell'=true:=let ⟨_,h1,_⟩:=h;h1.one
theorem EffsS.len {H:Heap} {v:Value} {l:List Int} (h:EffsS H v l):al .len [v]=some (iV l.length):=by
 obtain⟨rows,h1,h2,_⟩:=h
 have:=h1.len;rwa [h2] at this
theorem TrigsS.one {H:Heap} {v:Value} {l:List Nat} (h:TrigsS H v l):v.oneCell'=true:=let ⟨_,h1,_⟩:=h;h1.one
theorem TrigsS.len {H:Heap} {v:Value} {l:List Nat} (h:TrigsS H v l):al .len [v]=some (iV l.length):=by
 obtain⟨rows,h1,h2,_⟩:=h
 have:=h1.len;rwa [h2] at this
theorem EffsS.nil (H:Heap):EffsS H (.slice none 0 0) []:=⟨[],Sl.nil H 5,rfl,fun i r t h=>by simp at h⟩
theorem TrigsS.nil (H:Heap):TrigsS H (.slice none 0 0) []:=⟨[],Sl.nil H 2,rfl,fun i r t h=>by simp at h⟩
def zCd:Cd:=⟨0,[],[]⟩
def Il (cs:List Cd) (c:Int):Cd:=if c < 0∨c ≥ (cs.length:Int) then zCd else cs.getD c.toNat zCd
def vI (c:Cd):Bool:=!(decide ((c.tg.length:Int) > 5) || decide ((c.tr.length:Int) > 3)) && c.tr.all fun n=>!decide ((n:Int) > 5)
def zq (cs:List Cd):Bool:=cs.all vI
theorem MQ {cs:List Cd} (h:zq cs=true) (c:Int):vI (Il cs c)=true:=by
 rw[zq,List.all_eq_true] at h
 rw[Il]
 split
 ·rfl
 ·rename_i hn
  refine h _ ?_
  have hlt:c.toNat < cs.length:=by omega
  rw[List.getD_eq_getElem?_getD,List.getElem?_eq_getElem hlt]
  exact List.getElem_mem hlt
def fF (tg:List Int):List Int:=tg.filter fun t=>t != 0
theorem Models.grown {w:World} {H:Heap} {O:Go.Sx.Own} (h:Models w H O) (os:Array Obj):Models (Sort.grow w os) H O:=by
 have keep:∀ b (x:Obj),w.heap[b]?=some x→(w.heap++os)[b]?=some x:=fun b x hb=>by
  have hlt:b < w.heap.size:=by
   rcases Nat.lt_or_ge b w.heap.size with h | h
   ·exact h
   ·rw[Array.getElem?_eq_none h] at hb;cases hb
  rw[Array.getElem?_append_left hlt];exact hb
 exact⟨fun b x hb=>keep b x (h.pers b x hb),fun p hp=>⟨keep _ _ (h.own p hp).1,(h.own p hp).2⟩,h.nodup,h.env⟩
def oP (x:Int):List Value:=[iV x,iV 0]
theorem qO (d:List Int):(d.map oP).flatten.length=d.length * 2:=by
 have:=cV (rows:=d.map oP) (size:=2) (by simp[oP])
 rwa [List.length_map] at this
theorem Cj (d:List Int):(Sort.flatK oP 2 d.toArray).toList=(d.map oP).flatten:=by
 refine List.ext_getElem? fun t=>?_
 have hl:=qO d
 rcases Nat.lt_or_ge t (d.length * 2) with h | h
 ·have h1:=Sort.get_flatK oP 2 d.toArray t (by simpa using h)
  rw[getElem!_pos _ t (by simpa using h)] at h1
  have hd:t / 2 < d.length:=by omega
  rw[getElem!_pos _ (t / 2) (by simpa using hd)] at h1
  rw[List.getElem?_eq_getElem (by simpa using h),Array.getElem_toList,h1]
  have hg:(d.map oP)[t / 2]?=some (oP d[t / 2]):=by simp[hd]
  have p:=fG (rows:=d.map oP) (size:=2) (by simp[oP]) hg
  have e:(d.map oP).flatten[t]?=(oP d[t / 2])[t % 2]?:=by
   rw[← p,List.getElem?_take,if_pos (by omega),List.getElem?_drop]
   congr 1;omega
  rw[e]
  rcases Nat.mod_two_eq_zero_or_one t with h2 | h2 <;> rw[h2] <;> rfl
 ·rw[List.getElem?_eq_none (by simpa using h),List.getElem?_eq_none (by omega)]
theorem FM (F:List Value) (cs:List Value) (h:F.length≤cs.length):Sort.putCells id 0 F.toArray cs.toArray=(F++cs.drop F.length).toArray:=by
 refine Array.ext' (List.ext_getElem? fun k=>?_)
 simp only[Sort.putCells,Array.toList_mapIdx,List.getElem?_mapIdx,List.getElem?_append,List.size_toArray,id]
 by_cases hk:k < F.length
 ·rw[if_pos hk,List.getElem?_eq_getElem (by omega:k < cs.length),List.getElem?_eq_getElem hk]
  simp only[Option.map_some,Option.some.injEq]
  rw[if_pos ⟨Nat.zero_le _,by omega⟩,Nat.sub_zero,getElem!_pos _ k (by simpa using hk)]
  rfl
 ·rw[if_neg hk,List.getElem?_drop,show F.length + (k - F.length)=k by omega]
  rcases Nat.lt_or_ge k cs.length with hc | hc
  ·rw[List.getElem?_eq_getElem hc,Option.map_some,if_neg (by omega)]
  ·rw[List.getElem?_eq_none hc];rfl
theorem sort_models {w:World} {H:Heap} {r:Nat} {cs:List Value} {T:TypeId} {O:Go.Sx.Own} (hm:Models w H ((r,.cells cs.toArray T (0,0))::O)) {d:List Int} (hl:d.length * 2≤cs.length) (n:Nat) (os:Array Obj) :
  Models (Go.Proofs.sortWorldK oP 2 w r 0 n d.toArray os) H ((r,.cells ((d.map oP).flatten++cs.drop (d.length * 2)).toArray T (0,0))::O):=by
 have hrow:=(hm.own (r,.cells cs.toArray T (0,0)) (by simp)).1
 unfold Go.Proofs.sortWorldK
 refine Models.grown (Models.update (w:=w) (w':=Sort.putRowK oP 2 (Sort.ahead w n) r 0 d.toArray) (o':=.cells ((d.map oP).flatten++cs.drop (d.length * 2)).toArray T (0,0)) hm (fun b hb=>?_) ?_ rfl) os
 ·simp[Sort.putRowK,Sort.putRow,Sort.mapBlock,Sort.ahead,Array.getElem?_modify,Ne.symm hb]
 ·have hF:=Cj d
  have e:Sort.flatK oP 2 d.toArray=((d.map oP).flatten).toArray:=by rw[← hF]
  simp only[Sort.putRowK,Sort.putRow,Sort.mapBlock,Sort.ahead,Array.getElem?_modify,if_true,hrow,Option.map_some,Sort.onCells,e]
  rw[FM _ _ (by rw[qO];exact hl),qO]
theorem sort_holds {w:World} {H:Heap} {r:Nat} {cs:List Value} {T:TypeId} {O:Go.Sx.Own} (hm:Models w H ((r,.cells cs.toArray T (0,0))::O)) {d:List Int} (hd:(d.map oP).flatten=cs.take (d.length * 2)) (hl:d.length * 2≤cs.length) :
  Sort.HoldsK oP 2 w r 0 d.toArray∧r < w.heap.size:=by
 have hrow:=(hm.own (r,.cells cs.toArray T (0,0)) (by simp)).1
 have hlt:r < w.heap.size:=by
  rcases Nat.lt_or_ge r w.heap.size with h | h
  ·exact h
  ·rw[Array.getElem?_eq_none h] at hrow;cases hrow
 have e:Sort.flatK oP 2 d.toArray=((d.map oP).flatten).toArray:=by rw[← Cj d]
 refine⟨fun j hj=>?_,hlt⟩
 rw[e] at hj ⊢
 have hj':j < d.length * 2:=by rw[← qO d];simpa using hj
 have hv:((d.map oP).flatten.toArray[j]!)=cs[j]'(by omega):=by
  rw[getElem!_pos _ j hj]
  have:(d.map oP).flatten[j]?=cs[j]?:=by rw[hd,List.getElem?_take,if_pos hj']
  rw[List.getElem?_eq_getElem (by simpa using hj),List.getElem?_eq_getElem (by omega:j < cs.length)] at this
  simpa using this
 constructor
 ·rw[hv]
  simp only[World.cell?,hrow,Nat.zero_add,id]
  simp[List.getElem?_eq_getElem (by omega:j < cs.length)]
 ·rw[Nat.zero_add];exact frozen_of_row w r j _ T hrow
def tgs (l:List Int):List Tg:=l.map fun n=>⟨n,0⟩
def gj (l:List Tg):List (List Value):=l.map Tg.row
theorem ke (l:List Int):gj (tgs l)=l.map oP:=by simp[gj,tgs,oP,Tg.row]
theorem Lq (a b:List Tg):gj (a++b)=gj a++gj b:=by simp[gj]
theorem eu (a:List Tg):(gj a).length=a.length:=by simp[gj]
theorem lV (l:List Int):(tgs l).length=l.length:=by simp[tgs]
def plT (p:Int):List Tg:=[⟨0,1 - p⟩,⟨0,p⟩]
theorem RN {α:Type} {l:List α} {i:Nat} (h:i < l.length):l.reverse[i]'(by simpa using h)=l[l.length - 1 - i]'(by omega):=by rw[List.getElem_reverse]
theorem T9 {x y:Int} (h1:-9223372036854775808≤x - y) (h2:x - y < 9223372036854775808):al (.bin .sub .int) [iV x,iV y]=some (iV (x - y)):=by
 simp only[al,bA,bq,if_true]
 rw[dN (by omega) (by omega)]
def ID (n:Nat) (R:Nat→Value→Heap→Go.Sx.Own→Prop) (vs:List Value) (H:Heap) (O:Go.Sx.Own):Prop:=∃ (i:Nat) (x:Value),vs=[x,iV ((n:Int) - 1 - i)]∧i≤n∧R i x H O
def MD (vs:List Value) (_:Heap) (_:Go.Sx.Own):Nat:=match g vs 1 with | .int _ k=>(k + 1).toNat | _=>0
theorem Qe {P:Program} {lab key:Nat} {x0:Value} {body:(List Value→Heap→Go.Sx.Own→Prop)→List Value→Tree} {H:Heap} {O:Go.Sx.Own} {Q:Value→Heap→Go.Sx.Own→Prop} (n:Nat) (R:Nat→Value→Heap→Go.Sx.Own→Prop)
  (h0:R 0 x0 H O) (step:∀ i x H' O',i≤n→Heap.le H H'→R i x H' O'→(body (K5 (ID n R) MD (n - i)) [x,iV ((n:Int) - 1 - i)]).den P Q H' O') :
  (Tree.loop lab key [x0,iV ((n:Int) - 1)] body).den P Q H O:=by
 refine dG (ID n R) MD ⟨0,x0,by simp,Nat.zero_le _,h0⟩ ?_
 rintro vs H' O' _ _ hle ⟨i,x,rfl,hi,hr⟩
 have e:MD [x,iV ((n:Int) - 1 - i)] H' O'=n - i:=by show ((n:Int) - 1 - i + 1).toNat=n - i;omega
 rw[e]
 exact step i x H' O' hi hle hr
theorem Gv {P:Program} {lab n i:Nat} {R:Nat→Value→Heap→Go.Sx.Own→Prop} {x:Value} {eqs:List (List Value × List Value)} {H:Heap} {O:Go.Sx.Own} {Q:Value→Heap→Go.Sx.Own→Prop} (he:Eqs eqs) (hi:i < n) (hr:R (i + 1) x H O) :
  (Tree.cont lab (K5 (ID n R) MD (n - i)) [x,iV ((n:Int) - 1 - i - 1)] eqs).den P Q H O:=by
 refine cU he ⟨i + 1,x,by congr 3;omega,hi,hr⟩ ?_
 show ((n:Int) - 1 - i - 1 + 1).toNat < n - i
 omega
theorem NH {P:Program} {f:FuncId} {args:List Value} {H:Heap} {O:Go.Sx.Own} {r:Value} {shp:Shp} {vs:List Value} {K:List Value→List (List Value)→Heap→Go.Sx.Own→Prop}
  (h:RetO P f args H [] r) (ho:shp.open r=some vs) (h1:Ones vs) (hk:∀ H',Heap.le H H'→K vs [] H' O) :
  dc (fun H1 O1 R=>Triple P f args H1 O1 R) false [] [] shp K H O:=by
 refine az h ?_
 rintro v H' O1 ⟨rfl,rfl⟩ l
 exact⟨vs,ho,h1,hk H' l⟩
structure Eff where
 (code target n m colour:Int)
deriving DecidableEq
def Eff.row (e:Eff):List Value:=[iV e.code,iV e.target,iV e.n,iV e.m,iV e.colour]
def fX (l:List Eff):List (List Value):=l.map Eff.row
theorem j8 (l:List Eff):(fX l).length=l.length:=by simp[fX]
theorem vE {l:List Eff} {i:Nat} (h:i < l.length):(fX l)[i]?=some l[i].row:=by simp[fX,h]
theorem sQ (e:Eff):Ones e.row:=⟨rfl,rfl,rfl,rfl,rfl,trivial⟩
structure CdX where
 kind:Int
 effs:List Eff
 trs:List (List Eff)
def CdX.base (c:CdX):Cd:=⟨c.kind,c.effs.map (·.target),c.trs.map List.length⟩
def TrsX (H:Heap) (v:Value) (trs:List (List Eff)):Prop:=∃ rows,Sl H 2 v rows∧rows.length=trs.length∧∀ (i:Nat) (r:List Value) (l:List Eff),rows[i]?=some r→trs[i]?=some l→Sl H 5 (g r 1) (fX l)
structure CdRX (H:Heap) (r:List Value) (c:CdX):Prop where
 kind:g r 1=iV c.kind
 eff:Sl H 5 (g r 11) (fX c.effs)
 trig:TrsX H (g r 12) c.trs
def CardsX (H:Heap) (v:Value) (cs:List CdX):Prop:=∃ rows,Sl H 14 v rows∧rows.length=cs.length∧∀ (i:Nat) (r:List Value) (c:CdX),rows[i]?=some r→cs[i]?=some c→CdRX H r c
theorem TrsX.le {H H':Heap} {v:Value} {l:List (List Eff)} (h:TrsX H v l) (hl:Heap.le H H'):TrsX H' v l:=let ⟨rows,h1,h2,h3⟩:=h;⟨rows,h1.le hl,h2,fun i r n a b=>(h3 i r n a b).le hl⟩
theorem CdRX.le {H H':Heap} {r:List Value} {c:CdX} (h:CdRX H r c) (hl:Heap.le H H'):CdRX H' r c:=⟨h.kind,h.eff.le hl,h.trig.le hl⟩
theorem CardsX.le {H H':Heap} {v:Value} {cs:List CdX} (h:CardsX H v cs) (hl:Heap.le H H'):CardsX H' v cs:=let ⟨rows,h1,h2,h3⟩:=h;⟨rows,h1.le hl,h2,fun i r c a b=>(h3 i r c a b).le hl⟩
theorem zM {H:Heap} {v:Value} {l:List Eff} (h:Sl H 5 v (fX l)):EffsS H v (l.map (·.target)):=by
 refine⟨_,h,by simp[fX],fun i r t a b=>?_⟩
 have hi:i < l.length:=by
  have:=(List.getElem?_eq_some_iff.1 a).1
  simpa [fX] using this
 rw[vE hi] at a
 rw[List.getElem?_map,List.getElem?_eq_getElem hi] at b
 obtain rfl:=Option.some.inj a
 obtain rfl:=Option.some.inj b
 rfl
theorem CdRX.base {H:Heap} {r:List Value} {c:CdX} (h:CdRX H r c):CdR H r c.base:=by
 refine⟨h.kind,zM h.eff,?_⟩
 obtain⟨rows,h1,h2,h3⟩:=h.trig
 refine⟨rows,h1,by simp[CdX.base,h2],fun i r n a b=>?_⟩
 have hi:i < c.trs.length:=by
  have:=(List.getElem?_eq_some_iff.1 a).1
  omega
 simp only[CdX.base] at b
 rw[List.getElem?_map,List.getElem?_eq_getElem hi] at b
 obtain rfl:=Option.some.inj b
 exact⟨_,h3 i r _ a (List.getElem?_eq_getElem hi),j8 _⟩
theorem CardsX.base {H:Heap} {v:Value} {cs:List CdX} (h:CardsX H v cs):CardsS H v (cs.map CdX.base):=by
 obtain⟨rows,h1,h2,h3⟩:=h
 refine⟨rows,h1,by simp[h2],fun i r c a b=>?_⟩
 have hi:i < cs.length:=by
  have:=(List.getElem?_eq_some_iff.1 a).1
  omega
 rw[List.getElem?_map,List.getElem?_eq_getElem hi] at b
 obtain rfl:=Option.some.inj b
 exact (h3 i r _ a (List.getElem?_eq_getElem hi)).base
theorem CardsX.one {H:Heap} {v:Value} {cs:List CdX} (h:CardsX H v cs):v.oneCell'=true:=let ⟨_,h1,_⟩:=h;h1.one
theorem CardsX.len {H:Heap} {v:Value} {cs:List CdX} (h:CardsX H v cs):al .len [v]=some (iV cs.length):=by
 obtain⟨rows,h1,h2,_⟩:=h
 have:=h1.len;rwa [h2] at this
end Go.Sx
namespace Go.Sx
open Go
set_option maxRecDepth 100000
set_option maxHeartbeats 1000000
end Go.Sx
namespace Go.Proofs.YteakpllehopodaaGreatDoor
open Go Go.Sx
set_option maxRecDepth 100000
set_option maxHeartbeats 1000000
theorem Sl.block19 {H:Heap} {r size:Nat} {row:List Value} {T:TypeId} (h:H r=some (.cells row.toArray T (0,0))) (hl:row.length=size) (ho:Ones row):Sl H size (.slice (some ⟨r,0,none⟩) 1 1) [row]:=by
 refine⟨_,_,rfl,Nat.le_refl _,by simp,fun _=>⟨_,rfl,?_⟩⟩
 intro i x hx
 cases i with
 | succ i=>simp at hx
 | zero =>
  simp at hx
  subst hx
  refine⟨?_,hl,ho⟩
  rw[bK,Nat.zero_mul,Nat.add_zero,j5 h (by omega)]
  simp[← hl]
theorem Pl {b:Bool} (h:(!b)=true):b=false:=by simpa using h
theorem Pm {b:Bool} (h:(!b)=false):b=true:=by simpa using h
abbrev IY9 (n:Nat) (R:Nat→Value→Heap→Go.Sx.Own→Prop):List Value→Heap→Go.Sx.Own→Prop:=fun vs H O=>∃ (i:Nat) (x:Value),vs=[x,iV i]∧i≤n∧R i x H O
abbrev MY9 (n:Nat):List Value→Heap→Go.Sx.Own→Nat:=fun vs _ _=>match g vs 1 with | .int _ k=>n - k.toNat | _=>0
theorem zT {P:Program} {lab key:Nat} {x0:Value} {body:(List Value→Heap→Go.Sx.Own→Prop)→List Value→Tree} {H:Heap} {O:Go.Sx.Own} {Q:Value→Heap→Go.Sx.Own→Prop} (n:Nat) (R:Nat→Value→Heap→Go.Sx.Own→Prop)
  (h0:R 0 x0 H O) (step:∀ i x H' O',i≤n→Heap.le H H'→R i x H' O'→(body (K5 (IY9 n R) (MY9 n) (n - i)) [x,iV i]).den P Q H' O') :
  (Tree.loop lab key [x0,.int .i64 0] body).den P Q H O:=by
 refine dG (IY9 n R) (MY9 n) ⟨0,x0,rfl,Nat.zero_le _,h0⟩ ?_
 rintro vs H' O' _ _ hle ⟨i,x,rfl,hi,hr⟩
 exact step i x H' O' hi hle hr
theorem pT {P:Program} {lab n i:Nat} {R:Nat→Value→Heap→Go.Sx.Own→Prop} {x:Value} {eqs:List (List Value × List Value)} {H:Heap} {O:Go.Sx.Own} {Q:Value→Heap→Go.Sx.Own→Prop} (he:Eqs eqs) (hi:i < n) (hr:R (i + 1) x H O) :
  (Tree.cont lab (K5 (IY9 n R) (MY9 n) (n - i)) [x,iV ((i + 1:Nat):Int)] eqs).den P Q H O:=by
 refine cU he ⟨i + 1,x,rfl,hi,hr⟩ ?_
 show n - ((i + 1:Nat):Int).toNat < n - i
 simp;omega
theorem tY {H:Heap} {v:Value} {l:List Eff} (h:Sl H 5 v (fX l)):al .len [v]=some (iV l.length)∧l.length < 2 ^ 63:=by
 have:=h.len;rw[j8] at this
 have hB:=h.lenB;rw[j8] at hB
 exact⟨this,hB⟩
theorem Va {r:List Value} {n:Nat} (h:r.length=n):(List.range n).map (g r)=r:=by
 subst h
 refine List.ext_getElem (by simp) fun i h1 h2=>?_
 simp[g,h2]
end Go.Proofs.YteakpllehopodaaGreatDoor
namespace Go.Sx
open Go
set_option maxRecDepth 100000
set_option maxHeartbeats 1000000
abbrev K3:=List (List UInt8 × Value)
def oO (m:K3) (k:List UInt8):Option Value:=(m.find? fun p=>k == p.1).map (·.2)
def V1 (es:Array MapEntry) (m:K3):Prop:=es.toList.map (fun e=>(e.key,e.val))=m.map fun p=>(Str p.1,p.2)
def OMapS (v:Value) (m:K3) (O:Go.Sx.Own):Prop:=∃ r es clock,v=.map (some r)∧O=[(r,.map es clock)]∧V1 es m
def FMapS (H:Heap) (v:Value) (m:K3):Prop:=∃ r es clock,v=.map (some r)∧H r=some (.map es clock)∧V1 es m
theorem OMapS.one {v:Value} {m:K3} {O:Go.Sx.Own} (h:OMapS v m O):v.oneCell'=true:=by obtain⟨r,es,c,rfl,_⟩:=h;rfl
theorem FMapS.one {H:Heap} {v:Value} {m:K3} (h:FMapS H v m):v.oneCell'=true:=by obtain⟨r,es,c,rfl,_⟩:=h;rfl
theorem FMapS.le {H H':Heap} {v:Value} {m:K3} (h:FMapS H v m) (hl:Heap.le H H'):FMapS H' v m:=let ⟨r,es,c,h1,h2,h3⟩:=h;⟨r,es,c,h1,hl.1 _ _ h2,h3⟩
theorem OMapS.freeze {v:Value} {m:K3} {O X:Go.Sx.Own} {H:Heap} (h:OMapS v m O) (hc:Cons H (O++X)):∃ H',Ghost H (O++X) H' X∧FMapS H' v m∧Heap.le H H':=by
 obtain⟨r,es,c,rfl,rfl,he⟩:=h
 have hn:H r=none:=hc.none (p:=(r,.map es c)) (by simp)
 exact⟨H.ins r (.map es c),Ghost.freeze H r _ X,⟨r,es,c,rfl,by simp only[Heap.ins,hn,if_true],he⟩,Heap.le_ins H r _⟩
theorem RE (a b:List UInt8):((⟨a.toArray⟩:ByteArray) == ⟨b.toArray⟩)=(a == b):=by
 show (a.toArray == b.toArray)=_
 rw[Bool.eq_iff_iff,beq_iff_eq,beq_iff_eq]
 exact⟨fun h=>by simpa using congrArg Array.toList h,fun h=>by rw[h]⟩
theorem sM {x:List UInt8}:∀ {es:List MapEntry} {m:K3} {i:Nat},es.map (fun e=>(e.key,e.val))=m.map (fun p=>(Str p.1,p.2)) →
  (Instr.findNow .string (Str x) es i=some none∧oO m x=none)∨∃ j v,Instr.findNow .string (Str x) es i=some (some (i + j,v))∧oO m x=some v
 | [],[],i,_=>.inl ⟨rfl,rfl⟩
 | [],_::_,_,h=>by simp at h
 | _::_,[],_,h=>by simp at h
 | e::es,p::m,i,h=>by
  simp only[List.map_cons,List.cons.injEq,Prod.mk.injEq] at h
  obtain⟨⟨h1,h2⟩,h3⟩:=h
  have hs:Instr.sameNow .string (Str x) e.key=some (x == p.1):=by
   rw[h1]
   show some ((⟨x.toArray⟩:ByteArray) == ⟨p.1.toArray⟩)=_
   rw[RE]
  simp only[Instr.findNow,hs]
  by_cases hx:x=p.1
  ·right
   refine⟨0,p.2,?_,?_⟩
   ·simp[hx,h2]
   ·simp[oO,hx]
  ·have hb:(x == p.1)=false:=by simpa using hx
   rw[hb]
   rcases sM (i:=i + 1) h3 with ⟨a,b⟩ | ⟨j,v,a,b⟩
   ·left
    refine⟨by simpa using a,?_⟩
    simp only[oO,List.find?_cons,hb];exact b
   ·right
    refine⟨j + 1,v,?_,?_⟩
    ·simp only;rw[a];congr 3;omega
    ·simp only[oO,List.find?_cons,hb];exact b
theorem wo {P:Program} {kt:TypeId} (hk:P.underlying kt=some .string) (em:Bool) (v:Value) (w:World):(Instr.checkKey em 10000 kt v).run P w=.ok () w:=by
 show (Instr.checkKey em (9999 + 1) kt v).run P w=_
 unfold Instr.checkKey
 rw[Sem.run_bind,ar hk]
 rfl
theorem Hy {P:Program} {t kt et:TypeId} (ht:P.underlying t=some (.map kt et)) (hk:P.underlying kt=some .string) {z:Value} (hz:∀ w,(zeroValue et).run P w=.ok z w)
  {r:Nat} {es:Array MapEntry} {clock:Nat} {m:K3} (he:V1 es m) {w:World} (hrow:w.heap[r]?=some (.map es clock)) (x:List UInt8) :
  ((PrimOp.lookup t true).sem [.map (some r),Str x]).run P w=.ok (.value (.tuple #[(oO m x).getD z,.bool (oO m x).isSome])) w:=by
 have hg:(getObj r).run P w=.ok (.map es clock) w:=by simp[getObj,Sem.run,hrow]
 simp only[PrimOp.sem,Instr.lookup,Sem.run_bind,ar ht,Result.andThen_ok,hg,Sem.run_pure,wo hk,Instr.findKey,ar hk]
 rcases sM (x:=x) (i:=0) he with ⟨a,b⟩ | ⟨j,u,a,b⟩
 ·rw[a,b]
  simp only[Sem.run_pure,Result.andThen_ok,hz,Option.getD_none,Option.isSome_none,Sem.run_bind]
  rfl
 ·rw[a,b]
  simp only[Sem.run_pure,Result.andThen_ok,Option.getD_some,Option.isSome_some,Sem.run_bind]
  rfl
theorem GL {P:Program} {t kt et:TypeId} (ht:P.underlying t=some (.map kt et)) (hk:P.underlying kt=some .string) {z:Value} (hz:∀ w,(zeroValue et).run P w=.ok z w)
  {v:Value} {m:K3} {O1 O:Go.Sx.Own} (h:OMapS v m O1) (hO:∀ p ∈ O1,p ∈ O) {H:Heap} (x:List UInt8) {K:List Value→List (List Value)→Heap→Go.Sx.Own→Prop}
  (h1:((oO m x).getD z).oneCell'=true) (hK:K [(oO m x).getD z,.bool (oO m x).isSome] [] H O) :
  dc (fun H1 O1 R=>ba P ((PrimOp.lookup t true).sem [v,Str x]) H1 O1 R) false [] [] (.tup [none,none]) K H O:=by
 obtain⟨r,es,c,rfl,rfl,he⟩:=h
 exact DN (fun w F hm=>Hy ht hk hz he (hm.own (r,.map es c) (List.mem_append_left _ (hO _ (by simp)))).1 x) rfl ⟨h1,rfl,trivial⟩ hK
theorem GI {P:Program} {t kt et:TypeId} (ht:P.underlying t=some (.map kt et)) (hk:P.underlying kt=some .string) {v:Value} {m:K3} {O O1 O2:Go.Sx.Own} (h:OMapS v m O1) (hO:O.Perm (O1++O2)) {H:Heap} (x:List UInt8) (u:Value) (hx:oO m x=none)
  {K:List Value→List (List Value)→Heap→Go.Sx.Own→Prop} (hK:∀ r O1',OMapS v (m++[(x,u)]) O1'→r.oneCell'=true→K [r] [] H (O1'++O2)) :
  dc (fun H1 O1 R=>ba P ((PrimOp.mapUpdate t).sem [v,Str x,u]) H1 O1 R) false [] [] .one K H O:=by
 intro _
 refine⟨H,O1,O2,fun r H' O'=>r=.bool false∧H'=H∧OMapS v (m++[(x,u)]) O',Ghost.perm hO,fun w F hm=>?_,?_⟩
 ·obtain⟨r,es,clock,rfl,rfl,he⟩:=h
  have hrow:=(hm.own (r,.map es clock) (by simp)).1
  have hlt:r < w.heap.size:=(Array.getElem?_eq_some_iff.1 hrow).1
  have hg:(getObj r).run P w=.ok (.map es clock) w:=by simp[getObj,Sem.run,hrow]
  have hset:∀ o,(setObj r o).run P w=.ok () { w with heap:=w.heap.setIfInBounds r o }:=fun o=>by
   simp only[setObj,Sem.run,hrow]
  rcases sM (x:=x) (i:=0) he with ⟨a,_⟩ | ⟨j,u',_,b⟩
  case inr=>rw[hx] at b;cases b
  have hm0:Models w H ((r,.map es clock)::F):=by simpa using hm
  refine⟨.bool false,{ w with heap:=w.heap.setIfInBounds r (.map (es.push { key:=Str x,val:=u,born:=clock }) (clock + 1)) },H,[(r,.map (es.push { key:=Str x,val:=u,born:=clock }) (clock + 1))],?_,⟨rfl,rfl,r,_,_,rfl,rfl,?_⟩,Heap.le_refl H,?_⟩
  ·simp only[PrimOp.sem,Instr.mapUpdate,Sem.run_bind,ar ht,Result.andThen_ok,hg,wo hk,Instr.findKey,ar hk]
   rw[a]
   simp only[Sem.run_pure,Result.andThen_ok,hset,Sem.run_bind]
  ·have he:es.toList.map (fun e=>(e.key,e.val))=m.map fun p=>(Str p.1,p.2):=he
   show (es.push _).toList.map _=_
   simp[he]
  ·exact hm0.update (fun b hb=>by simp[Ne.symm hb]) (by simp[hlt]) rfl
 ·rintro r H' O' ⟨rfl,rfl,ho⟩ _
  exact⟨[.bool false],[],O',rfl,⟨rfl,trivial⟩,trivial,rfl,hK _ O' ho rfl⟩
theorem KH {P:Program} {t:TypeId} {H:Heap} {O:Go.Sx.Own} {K:List Value→List (List Value)→Heap→Go.Sx.Own→Prop} (hK:∀ v O1,OMapS v [] O1→K [v] [] H (O1++O)) :
  dc (fun H1 O1 R=>ba P ((PrimOp.makeMap t false).sem []) H1 O1 R) false [] [] .one K H O:=by
 intro _
 refine⟨H,[],O,fun v H' O'=>H'=H∧OMapS v [] O',Ghost.refl _ _,fun w F hm=>?_,?_⟩
 ·refine⟨.map (some w.heap.size),{ w with heap:=w.heap.push (.map #[] 0) },H,[(w.heap.size,.map #[] 0)],?_,⟨rfl,_,_,_,rfl,rfl,rfl⟩,Heap.le_refl H,?_⟩
  ·simp only[PrimOp.sem,Instr.makeMap,Sem.run_bind,Sem.run_pure,Result.andThen_ok,run_newObj]
  ·simpa using Models.push (by simpa using hm) (.map #[] 0)
 ·rintro v H' O' ⟨rfl,ho⟩ _
  exact⟨[v],[],O',rfl,⟨ho.one,trivial⟩,trivial,rfl,hK v O' ho⟩
end Go.Sx
namespace Go.Proofs.YteakpllehopodaaGreatDoor
open Go Go.Sx
set_option maxRecDepth 100000
set_option maxHeartbeats 1000000
structure CdF where
 nm:List UInt8
 (kind c0 c1 c2 c3 any makes pw tn ks:Int)
 effs:List Eff
 trs:List (Int × List Eff)
 rar:Int
def TrR (H:Heap) (r:List Value) (t:Int × List Eff):Prop:=∃ s,r=[iV t.1,s]∧Sl H 5 s (fX t.2)
def TrsF (H:Heap) (v:Value) (trs:List (Int × List Eff)):Prop:=∃ rows,Sl H 2 v rows∧rows.length=trs.length∧∀ (i:Nat) (r:List Value) (t:Int × List Eff),rows[i]?=some r→trs[i]?=some t→TrR H r t
def zV (c:CdF) (es ts:Value):List Value:=[Str c.nm,iV c.kind,iV c.c0,iV c.c1,iV c.c2,iV c.c3,iV c.any,iV c.makes,iV c.pw,iV c.tn,iV c.ks,es,ts,iV c.rar]
def CdRF (H:Heap) (r:List Value) (c:CdF):Prop:=∃ es ts,r=zV c es ts∧Sl H 5 es (fX c.effs)∧TrsF H ts c.trs
def RowsF (H:Heap) (rows:List (List Value)) (cs:List CdF):Prop:=rows.length=cs.length∧∀ (i:Nat) (r:List Value) (c:CdF),rows[i]?=some r→cs[i]?=some c→CdRF H r c
def CardsF (H:Heap) (v:Value) (cs:List CdF):Prop:=∃ rows,Sl H 14 v rows∧RowsF H rows cs
theorem TrsF.le {H H':Heap} {v:Value} {l:List (Int × List Eff)} (h:TrsF H v l) (hl:Heap.le H H'):TrsF H' v l:=let ⟨rows,h1,h2,h3⟩:=h;⟨rows,h1.le hl,h2,fun i r t a b=>let ⟨s,e,k⟩:=h3 i r t a b;⟨s,e,k.le hl⟩⟩
theorem CdRF.le {H H':Heap} {r:List Value} {c:CdF} (h:CdRF H r c) (hl:Heap.le H H'):CdRF H' r c:=let ⟨es,ts,e,h1,h2⟩:=h;⟨es,ts,e,h1.le hl,h2.le hl⟩
theorem RowsF.le {H H':Heap} {rows:List (List Value)} {cs:List CdF} (h:RowsF H rows cs) (hl:Heap.le H H'):RowsF H' rows cs:=⟨h.1,fun i r c a b=>(h.2 i r c a b).le hl⟩
theorem CardsF.le {H H':Heap} {v:Value} {cs:List CdF} (h:CardsF H v cs) (hl:Heap.le H H'):CardsF H' v cs:=let ⟨rows,h1,h2⟩:=h;⟨rows,h1.le hl,h2.le hl⟩
theorem CardsF.one {H:Heap} {v:Value} {cs:List CdF} (h:CardsF H v cs):v.oneCell'=true:=let ⟨_,h1,_⟩:=h;h1.one
theorem CardsF.len {H:Heap} {v:Value} {cs:List CdF} (h:CardsF H v cs):al .len [v]=some (iV cs.length):=by
 obtain⟨rows,h1,h2,_⟩:=h
 have:=h1.len;rwa [h2] at this
theorem CardsF.lenB {H:Heap} {v:Value} {cs:List CdF} (h:CardsF H v cs):cs.length < 2 ^ 63:=by
 obtain⟨rows,h1,h2,_⟩:=h
 have:=h1.lenB;rwa [h2] at this
theorem TrsF.len {H:Heap} {v:Value} {l:List (Int × List Eff)} (h:TrsF H v l):al .len [v]=some (iV l.length)∧v.oneCell'=true∧l.length < 2 ^ 63:=by
 obtain⟨rows,h1,h2,_⟩:=h
 have:=h1.len;rw[h2] at this
 have hB:=h1.lenB;rw[h2] at hB
 exact⟨this,h1.one,hB⟩
theorem ED {c:CdF} {es ts:Value} (h1:es.oneCell'=true) (h2:ts.oneCell'=true):Ones (zV c es ts):=⟨rfl,rfl,rfl,rfl,rfl,rfl,rfl,rfl,rfl,rfl,rfl,h1,h2,rfl,trivial⟩
theorem CdRF.ones {H:Heap} {r:List Value} {c:CdF} (h:CdRF H r c):Ones r:=by
 obtain⟨es,ts,rfl,h1,h2⟩:=h
 exact ED h1.one h2.len.2.1
theorem zX {H:Heap} (O:Go.Sx.Own) {v:Value} {cs:List CdF} (h:CardsF H v cs) {i:Nat} (hi:i < cs.length) :
  ∃ a r,al (.idx 14) [v,iV i]=some (.pointer (some a))∧Reads H O (.pointer (some a)) 14 r∧(∀ off m,off + m≤14→Reads H O (an (.pointer (some a)) off) m ((r.drop off).take m))∧r.length=14∧Ones r∧CdRF H r cs[i]:=by
 obtain⟨rows,h1,h2,h3⟩:=h
 have hlt:i < rows.length:=by omega
 obtain⟨a,k1,k2,k3,k4,k5⟩:=(h1.rsl O).idx .i64 i rows[i] (by simp[hlt])
 exact⟨a,rows[i],k1,k2,k3,k4,k5,h3 i _ _ (List.getElem?_eq_getElem hlt) (List.getElem?_eq_getElem hi)⟩
theorem GY {H:Heap} {v:Value} {l:List (List Value)} (h:Sl H 5 v l) (hb:l.length≤2 ^ 30):Triple PP bD [v] H [] fun v' H' O'=>OSl cH 5 v' l O':=by
 refine cR (vs:=[v]) (by kernel_rfl) ⟨h.one,trivial⟩ ?_
 simp only[bB]
 obtain⟨a,cap,rfl,h1,h2,h3⟩:=h
 have hev:al (.bin .eql .slice) [.slice a l.length cap,.slice none 0 0]=some (.bool a.isNone):=by cases a <;> rfl
 refine ab _ hev (aj (fun hn=>af ?_) (fun hn=>fun r0=>?_))
 ·have hl:l=[]:=by
   by_cases hl:l=[]
   ·exact hl
   ·obtain⟨ad,rfl,_⟩:=h3 hl;cases hn
  subst hl
  exact OSl.nil cH 5
 ·refine aH (rows:=[]) (news:=l) (O1:=[]) (O2:=[]) (e:=cH) (size:=5) (bytes:=40) (by kernel_rfl) (List.Perm.refl _) (.inl ⟨⟨_,rfl⟩,rfl,rfl⟩) (fun Hf hl _=>Sl.le hl ⟨a,cap,rfl,h1,h2,h3⟩) (by simp;omega) (by simp;omega) ?_
  intro v' O1' H' _ ho
  refine af ?_
  rw[List.append_nil]
  exact ho
theorem N8 {H:Heap} {v:Value} {l:List (List Value)} (h:Sl H 2 v l) (hb:l.length≤2 ^ 30):Triple PP bn [v] H [] fun v' H' O'=>OSl cG 2 v' l O':=by
 refine ct (vs:=[v]) (by kernel_rfl) ⟨h.one,trivial⟩ ?_
 simp only[bm]
 obtain⟨a,cap,rfl,h1,h2,h3⟩:=h
 have hev:al (.bin .eql .slice) [.slice a l.length cap,.slice none 0 0]=some (.bool a.isNone):=by cases a <;> rfl
 refine ab _ hev (aj (fun hn=>af ?_) (fun hn=>fun r0=>?_))
 ·have hl:l=[]:=by
   by_cases hl:l=[]
   ·exact hl
   ·obtain⟨ad,rfl,_⟩:=h3 hl;cases hn
  subst hl
  exact OSl.nil cG 2
 ·refine aH (rows:=[]) (news:=l) (O1:=[]) (O2:=[]) (e:=cG) (size:=2) (bytes:=32) (by kernel_rfl) (List.Perm.refl _) (.inl ⟨⟨_,rfl⟩,rfl,rfl⟩) (fun Hf hl _=>Sl.le hl ⟨a,cap,rfl,h1,h2,h3⟩) (by simp;omega) (by simp;omega) ?_
  intro v' O1' H' _ ho
  refine af ?_
  rw[List.append_nil]
  exact ho
def OTrsF (v:Value) (trs:List (Int × List Eff)) (O:Go.Sx.Own):Prop:=∃ rows A Ts,O.Perm (A++List.flatten Ts)∧OSl cG 2 v rows A∧rows.length=trs.length∧Ts.length=trs.length ∧
 ∀ (i:Nat) (r:List Value) (t:Int × List Eff) (T:Go.Sx.Own),rows[i]?=some r→trs[i]?=some t→Ts[i]?=some T→∃ s,r=[iV t.1,s]∧OSl cH 5 s (fX t.2) T
theorem BJ:∀ (l:List (Int × List Eff)) (rows:List (List Value)) (Ts:List Go.Sx.Own) (H:Heap) (X:Go.Sx.Own),rows.length=l.length→Ts.length=l.length →
  (∀ (i:Nat) (r:List Value) (t:Int × List Eff) (T:Go.Sx.Own),rows[i]?=some r→l[i]?=some t→Ts[i]?=some T→∃ s,r=[iV t.1,s]∧OSl cH 5 s (fX t.2) T) →
  Cons H (List.flatten Ts++X)→∃ H',Ghost H (List.flatten Ts++X) H' X∧Heap.le H H'∧∀ (i:Nat) (r:List Value) (t:Int × List Eff),rows[i]?=some r→l[i]?=some t→TrR H' r t
 | [],[],[],H,X,_,_,_,_=>⟨H,Ghost.refl _ _,Heap.le_refl _,fun i r x h=>by simp at h⟩
 | x::l,r::rows,T::Ts,H,X,h1,h2,hs,hc=>by
  obtain⟨s,e,hT⟩:=hs 0 r x T rfl rfl rfl
  rw[List.flatten_cons,List.append_assoc] at hc
  obtain⟨H1,g1,k1,l1⟩:=hT.freeze hc
  obtain⟨H2,g2,l2,k2⟩:=BJ l rows Ts H1 X (by simpa using h1) (by simpa using h2) (fun i r x T a b c=>hs (i + 1) r x T (by simpa using a) (by simpa using b) (by simpa using c)) (hc.ghost g1)
  refine⟨H2,?_,Heap.le_trans l1 l2,fun i r' x' a b=>?_⟩
  ·rw[List.flatten_cons,List.append_assoc];exact g1.trans g2
  ·cases i with
   | zero=>simp at a b;subst a;subst b;exact⟨s,e,k1.le l2⟩
   | succ i=>exact k2 i r' x' (by simpa using a) (by simpa using b)
 | [],_::_,_,_,_,h,_,_,_=>by simp at h
 | _::_,[],_,_,_,h,_,_,_=>by simp at h
 | [],[],_::_,_,_,_,h,_,_=>by simp at h
 | _::_,_::_,[],_,_,_,h,_,_=>by simp at h
theorem OTrsF.freeze {v:Value} {l:List (Int × List Eff)} {O1 X:Go.Sx.Own} {H:Heap} (h:OTrsF v l O1) (hc:Cons H (O1++X)):∃ H',Ghost H (O1++X) H' X∧TrsF H' v l∧Heap.le H H':=by
 obtain⟨rows,A,Ts,hp,h1,h2,h3,h4⟩:=h
 have hp':(O1++X).Perm (A++(List.flatten Ts++X)):=(hp.append_right X).trans (List.Perm.of_eq (List.append_assoc _ _ _))
 obtain⟨H1,g1,k1,l1⟩:=h1.freeze (hc.perm hp')
 obtain⟨H2,g2,l2,k2⟩:=BJ l rows Ts H1 X h2 h3 h4 ((hc.perm hp').ghost g1)
 exact⟨H2,(Ghost.perm hp').trans (g1.trans g2),⟨rows,k1.le l2,h2,k2⟩,Heap.le_trans l1 l2⟩
def TU (c:CdF):Prop:=c.effs.length≤1000∧c.trs.length≤1000∧∀ t ∈ c.trs,t.2.length≤1000
theorem TD {H:Heap} {cells:List Value} {c:CdF} (h:CdRF H cells c) (hli:TU c) :
  Triple PP nZ [.agg cells.toArray] H [] fun r _ O'=>∃ x y A B,r=.agg (zV c x y).toArray∧OSl cH 5 x (fX c.effs) A∧OTrsF y c.trs B∧O'.Perm (A++B):=by
 obtain⟨b1,b2,b3⟩:=hli
 obtain⟨es,ts,rfl,he,⟨trows,t1,t2,t3⟩⟩:=h
 refine tB (vs:=zV c es ts) (by kernel_rfl) (ED he.one t1.one) ?_
 simp only[sZ]
 refine ah fun r0=>ah fun r1=>?_
 refine ae (ae ?_)
 refine az (GY he (by rw[j8];omega)) fun x H1 O1 hx l1=>⟨[x],rfl,⟨hx.one,trivial⟩,?_⟩
 refine az (N8 (t1.le l1) (by omega)) fun y H2 O2 hy l2=>⟨[y],rfl,⟨hy.one,trivial⟩,?_⟩
 have ylen:=hy.len
 rw[t2] at ylen
 refine ae (ae (ae ?_))
 refine ab _ ylen ?_
 refine aY c.trs.length (fun i H' O'=>Heap.le H2 H'∧∃ rows' A Ts,O'.Perm (A++(List.flatten Ts++O1))∧OSl cG 2 y rows' A∧rows'.length=c.trs.length∧Ts.length=i ∧
  (∀ (j:Nat) (r:List Value) (t:Int × List Eff) (T:Go.Sx.Own),rows'[j]?=some r→c.trs[j]?=some t→Ts[j]?=some T→∃ s,r=[iV t.1,s]∧OSl cH 5 s (fX t.2) T)∧∀ j,i≤j→rows'[j]?=trows[j]?)
  ⟨Heap.le_refl _,trows,O2,[],by simp,hy,t2,rfl,fun j r l T _ _ h=>by simp at h,fun _ _=>rfl⟩ ?_
 rintro i H' O' hi - ⟨hle,rows',A,Ts,hp,hA,hrl,htl,hspec,hrest⟩
 refine ab _ (aG _ _) (aj (fun hb=>?_) (fun hb=>?_))
 ·have hlt:i < c.trs.length:=by simpa using hb
  have hri:rows'[i]?=some trows[i]:=by rw[hrest i (Nat.le_refl _)];exact List.getElem?_eq_getElem (by omega)
  obtain⟨s1,er,k1⟩:=t3 i trows[i] c.trs[i] (List.getElem?_eq_getElem (by omega)) (List.getElem?_eq_getElem hlt)
  have hb3:=b3 _ (List.getElem_mem hlt)
  obtain⟨a,i1,i2,i3,i4⟩:=hA.idx (fun p h=>hp.mem_iff.2 (List.mem_append_left _ h)) H' (k:=.i64) hri
  obtain⟨w1,w2⟩:=hA.rows_ok hri
  rw[er] at i3 w1 w2
  refine ab _ i1 (aA i3 w1 w2 (ah fun r2=>?_))
  refine ae (ae (ae ?_))
  refine az (GY (k1.le (Heap.le_trans l1 (Heap.le_trans l2 hle))) (by rw[j8];omega)) fun z H3 T hz l3=>⟨[z],rfl,⟨hz.one,trivial⟩,?_⟩
  have hp2:(T++O').Perm (A++(T++(List.flatten Ts++O1))):=(hp.append_left T).trans (List.perm_append_comm_assoc _ _ _)
  obtain⟨a2,j1,j2⟩:=hA.store hp2 (k:=.i64) hri
  obtain⟨A',hst,hA'⟩:=j2 1 [z] (by simp) ⟨hz.one,trivial⟩
  have hsp:bL trows[i] 1 [z]=[iV c.trs[i].1,z]:=by rw[er];rfl
  rw[hsp] at hA'
  refine ab _ j1 ?_
  refine ak rfl (ak rfl ?_)
  refine⟨_,hst,?_⟩
  refine ab _ (aD (by omega)) (aN (by simp[Eqs]) hlt ⟨Heap.le_trans hle l3,_,A',Ts++[T],?_,hA',by simp[hrl],by simp[htl],?_,?_⟩)
  ·refine List.Perm.append_left A' ?_
   rw[List.flatten_append,← List.append_assoc]
   refine List.Perm.append_right O1 ?_
   simpa using List.perm_append_comm
  ·intro j r x T' h1 h2 h3
   by_cases hj:j=i
   ·subst hj
    rw[List.getElem?_set_self (by omega)] at h1
    rw[List.getElem?_eq_getElem hlt] at h2
    rw[List.getElem?_append_right (by omega),htl,Nat.sub_self] at h3
    simp only[Option.some.injEq,List.getElem?_cons_zero] at h1 h2 h3
    subst h1;subst h2;subst h3
    exact⟨z,rfl,hz⟩
   ·rw[List.getElem?_set_ne (by omega)] at h1
    have hjlt:j < Ts.length:=by
     have:=(List.getElem?_eq_some_iff.1 h3).1
     simp at this;omega
    rw[List.getElem?_append_left hjlt] at h3
    exact hspec j r x T' h1 h2 h3
  ·intro j hj
   rw[List.getElem?_set_ne (by omega)]
   exact hrest j (by omega)
 ·have hie:i=c.trs.length:=by
   have:¬ ((i:Int) < (c.trs.length:Int)):=by simpa using hb
   omega
  subst hie
  refine ae (ae (ae ?_))
  refine af ⟨x,y,O1,A++List.flatten Ts,rfl,hx,⟨rows',A,Ts,List.Perm.refl _,hA,hrl,htl,hspec⟩,?_⟩
  refine hp.trans ?_
  rw[← List.append_assoc]
  exact List.perm_append_comm
def CpQ (c:CdF) (r:Value) (H':Heap) (O':Go.Sx.Own):Prop:=(∃ cells,r=.agg cells.toArray∧cells.length=14∧CdRF H' cells c)∧O'=[]
theorem EJ {H:Heap} {cells:List Value} {c:CdF} (h:CdRF H cells c) (hli:TU c):Triple PP nZ [.agg cells.toArray] H [] (CpQ c):=by
 refine Triple.ghost (TD h hli) ?_
 rintro r H' O' _ hc ⟨x,y,A,B,rfl,hx,hy,hp⟩
 have hc:=hc.perm hp
 obtain⟨H1,g1,k1,l1⟩:=hx.freeze hc
 have hc:=hc.ghost g1
 obtain⟨H2,g2,k2,l2⟩:=hy.freeze (X:=[]) (by simpa using hc)
 exact⟨H2,[],(Ghost.perm hp).trans (g1.trans (by simpa using g2)),⟨zV c x y,rfl,rfl,x,y,rfl,k1.le l2,k2⟩,rfl⟩
def ol (cs:List CdF):K3:=cs.zipIdx.map fun p=>(p.1.nm,iV (p.2:Nat))
def PoolF (H:Heap) (p:Value) (cs:List CdF):Prop:=∃ r cv mv T,p=.pointer (some ⟨r,0,none⟩)∧H r=some (.cells #[cv,mv] T (0,0))∧CardsF H cv cs∧FMapS H mv (ol cs)∧(cs.map (·.nm)).Nodup∧∀ c ∈ cs,TU c
theorem PoolF.le {H H':Heap} {p:Value} {cs:List CdF} (h:PoolF H p cs) (hl:Heap.le H H'):PoolF H' p cs:=by
 obtain⟨r,cv,mv,T,e,h1,h2,h3,h4,h5⟩:=h
 exact⟨r,cv,mv,T,e,hl.1 _ _ h1,h2.le hl,h3.le hl,h4,h5⟩
theorem PoolF.one {H:Heap} {p:Value} {cs:List CdF} (h:PoolF H p cs):p.oneCell'=true:=by obtain⟨r,cv,mv,T,rfl,_⟩:=h;rfl
theorem vn {H:Heap} (O:Go.Sx.Own) {r:Nat} {cv mv:Value} {T:TypeId} (h:H r=some (.cells #[cv,mv] T (0,0))):Reads H O (.pointer (some ⟨r,0,none⟩)) 1 [cv]∧Reads H O (an (.pointer (some ⟨r,0,none⟩)) 1) 1 [mv]:=by
 refine⟨gX ?_,gX ?_⟩
 ·have:=j5 (r:=r) (off:=0) (m:=1) (T:=T) (cs:=[cv,mv]) h (by simp)
  simpa using this
 ·have:=j5 (r:=r) (off:=1) (m:=1) (T:=T) (cs:=[cv,mv]) h (by simp)
  simpa [an,Addr.add] using this
theorem SQ {H:Heap} {O:Go.Sx.Own} {p:Value} {cs:List CdF} (h:PoolF H p cs):RetO PP oC [p] H O (.bool false):=by
 obtain⟨r,cv,mv,T,rfl,h1,h2,h3,_⟩:=h
 refine tz (vs:=[.pointer (some ⟨r,0,none⟩)]) (by kernel_rfl) ⟨rfl,trivial⟩ ?_
 simp only[ov]
 obtain⟨_,q2⟩:=vn O h1
 refine ab (.bool false) rfl ?_
 refine ak rfl (ai (ak rfl (ai (ai ?_))))
 refine⟨[mv],rfl,⟨h3.one,trivial⟩,fun _=>q2,?_⟩
 refine ai ?_
 obtain⟨r',es,c,rfl,_⟩:=h3
 refine ab (.bool false) rfl ?_
 refine ai ?_
 exact ab _ (aO _ _) (af ⟨rfl,rfl⟩)
def Rt:CdF:=⟨[],0,0,0,0,0,0,0,0,0,0,[],[],0⟩
def inP (cs:List CdF) (i:Int):Prop:=0≤i∧i < (cs.length:Int)
instance (cs:List CdF) (i:Int):Decidable (inP cs i):=by unfold inP;infer_instance
theorem CdRF.nm {H:Heap} {r:List Value} {c:CdF} (h:CdRF H r c):g r 0=Str c.nm∧g r 1=iV c.kind:=by
 obtain⟨es,ts,rfl,_⟩:=h
 exact⟨rfl,rfl⟩
structure Cp9z where
 (card n:Int)
deriving DecidableEq
def Cp9z.row (c:Cp9z):List Value:=[iV c.card,iV c.n]
end Go.Proofs.YteakpllehopodaaGreatDoor
