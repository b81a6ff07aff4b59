/- My framework, part 1: a function's code is reckoned to a tree; what the tree says, the function does. Generic: no program in sight. -/
import Derived.Calls
import Derived.Orders
import Derived.Tactics
import Derived.Laws.Sem
import Derived.Laws.Cells
import Derived.Laws.World
import Derived.Laws.Rows
import Derived.Laws.Slices
import Derived.Laws.Tables
import Derived.Laws.Small
namespace Go.Sx
open Go
abbrev Env:=Os × (Nat→Question→Nat) × Array (Nat × ByteArray)
def gR (w:World):Env:=(w.os,w.tape,w.output)
structure Heap where
 get:Nat→Option Obj
 env:Env
instance :CoeFun Heap (fun _=>Nat→Option Obj):=⟨Heap.get⟩
abbrev Own:=List (Nat × Obj)
def Heap.le (H H':Heap):Prop:=(∀ b o,H b=some o→H' b=some o)∧H'.env=H.env
theorem Heap.le_refl (H:Heap):Heap.le H H:=⟨fun _ _ h=>h,rfl⟩
theorem Heap.le_trans {H H' H'':Heap} (h:Heap.le H H') (h':Heap.le H' H''):Heap.le H H'':=⟨fun b o e=>h'.1 b o (h.1 b o e),h'.2.trans h.2⟩
structure Models (w:World) (H:Heap) (O:Own):Prop where
 pers:∀ b o,H b=some o→w.heap[b]?=some o
 own:∀ p,p ∈ O→w.heap[p.1]?=some p.2∧H p.1=none
 nodup:(O.map (·.1)).Nodup
 env:gR w=H.env
theorem Models.perm {w:World} {H:Heap} {O O':Own} (h:Models w H O) (hp:O.Perm O'):Models w H O' :=
 ⟨h.pers,fun p hp'=>h.own p (hp.mem_iff.2 hp'),(hp.map _).nodup_iff.1 h.nodup,h.env⟩
theorem Models.sub {w:World} {H:Heap} {O O':Own} (h:Models w H O) (hs:O'.Sublist O):Models w H O' :=
 ⟨h.pers,fun p hp=>h.own p (hs.subset hp),(hs.map _).nodup h.nodup,h.env⟩
theorem Models.update {w w':World} {H:Heap} {r:Nat} {o o':Obj} {O:Own} (h:Models w H ((r,o)::O))
  (hs:∀ b,b ≠ r→w'.heap[b]?=w.heap[b]?) (hr:w'.heap[r]?=some o') (he:gR w'=gR w):Models w' H ((r,o')::O):=by
 have hn:=h.nodup
 simp only[List.map_cons,List.nodup_cons] at hn
 refine⟨fun b x hb=>?_,fun p hp=>?_,?_,he.trans h.env⟩
 ·have hne:b ≠ r:=by
   intro e;subst e
   have:=(h.own (b,o) (by simp)).2
   simp[this] at hb
  rw[hs b hne];exact h.pers b x hb
 ·rcases List.mem_cons.1 hp with rfl | hp
  ·exact⟨hr,(h.own (r,o) (by simp)).2⟩
  ·have hne:p.1 ≠ r:=fun e=>hn.1 (e ▸ List.mem_map_of_mem hp)
   rw[hs _ hne];exact h.own p (List.mem_cons_of_mem _ hp)
 ·simpa [List.nodup_cons] using hn
theorem Models.push {w:World} {H:Heap} {O:Own} (h:Models w H O) (o:Obj) :
  Models { w with heap:=w.heap.push o } H ((w.heap.size,o)::O):=by
 have lt:∀ b (x:Obj),w.heap[b]?=some x→b < w.heap.size:=fun b x hb=>by
  rcases Nat.lt_or_ge b w.heap.size with h | h
  ·exact h
  ·simp[Array.getElem?_eq_none h] at hb
 have keep:∀ b (x:Obj),w.heap[b]?=some x→(w.heap.push o)[b]?=some x:=fun b x hb=>by
  have:=lt b x hb
  rw[Array.getElem?_push,if_neg (by omega)];exact hb
 refine⟨fun b x hb=>keep b x (h.pers b x hb),fun p hp=>?_,?_,h.env⟩
 ·rcases List.mem_cons.1 hp with rfl | hp
  ·refine⟨by simp,?_⟩
   cases hH:H w.heap.size with
   | none=>rfl
   | some x=>have:=lt _ _ (h.pers _ _ hH);omega
  ·exact⟨keep _ _ (h.own p hp).1,(h.own p hp).2⟩
 ·simp only[List.map_cons,List.nodup_cons]
  refine⟨fun hm=>?_,h.nodup⟩
  obtain⟨p,hp,he⟩:=List.mem_map.1 hm
  have:=lt _ _ (h.own p hp).1
  omega
theorem Models.same {w w':World} {H:Heap} {O:Own} (h:Models w H O) (e:w'.heap=w.heap) (he:gR w'=gR w):Models w' H O :=
 ⟨fun b o hb=>by rw[e];exact h.pers b o hb,fun p hp=>by rw[e];exact h.own p hp,h.nodup,he.trans h.env⟩
def Heap.ins (H:Heap) (r:Nat) (o:Obj):Heap:=⟨fun b=>match H b with
 | some x=>some x
 | none=>if b=r then some o else none,H.env⟩
theorem Heap.le_ins (H:Heap) (r:Nat) (o:Obj):Heap.le H (H.ins r o):=⟨fun b x h=>by simp only[Heap.ins];rw[h],rfl⟩
theorem Models.freeze {w:World} {H:Heap} {r:Nat} {o:Obj} {O:Own} (h:Models w H ((r,o)::O)):Models w (H.ins r o) O:=by
 have hn:=h.nodup
 simp only[List.map_cons,List.nodup_cons] at hn
 refine⟨fun b x hb=>?_,fun p hp=>?_,hn.2,h.env⟩
 ·simp only[Heap.ins] at hb
  split at hb
  ·rename_i y hy;cases hb;exact h.pers b _ hy
  ·split at hb
   ·rename_i e;subst e;cases hb;exact (h.own (b,o) (by simp)).1
   ·cases hb
 ·have hne:p.1 ≠ r:=fun e=>hn.1 (e ▸ List.mem_map_of_mem hp)
  have hp':=h.own p (List.mem_cons_of_mem _ hp)
  refine⟨hp'.1,?_⟩
  simp only[Heap.ins,hp'.2,if_neg hne]
def Ghost (H:Heap) (O:Own) (H':Heap) (O':Own):Prop:=∀ w F,Models w H (O++F)→Models w H' (O'++F)∧Heap.le H H'
def Cons (H:Heap) (O:Own):Prop:=∃ w F,Models w H (O++F)
theorem Cons.none {H:Heap} {O:Own} (h:Cons H O) {p:Nat × Obj} (hp:p ∈ O):H p.1=none :=
 let ⟨_,_,hm⟩:=h;(hm.own p (List.mem_append_left _ hp)).2
theorem Cons.nodup {H:Heap} {O:Own} (h:Cons H O):(O.map (·.1)).Nodup:=by
 obtain⟨_,_,hm⟩:=h
 have:=hm.nodup
 rw[List.map_append] at this
 exact (List.nodup_append.1 this).1
theorem Ghost.refl (H:Heap) (O:Own):Ghost H O H O:=fun _ _ h=>⟨h,Heap.le_refl H⟩
theorem Ghost.trans {H H' H'':Heap} {O O' O'':Own} (h:Ghost H O H' O') (h':Ghost H' O' H'' O''):Ghost H O H'' O'' :=
 fun w F hm=>⟨(h' w F (h w F hm).1).1,Heap.le_trans (h w F hm).2 (h' w F (h w F hm).1).2⟩
theorem Ghost.perm {H:Heap} {O O':Own} (hp:O.Perm O'):Ghost H O H O':=fun _ F h=>⟨h.perm (hp.append_right F),Heap.le_refl H⟩
theorem Ghost.sub {H:Heap} {O O':Own} (hs:O'.Sublist O):Ghost H O H O':=fun _ F h=>⟨h.sub (hs.append_right F),Heap.le_refl H⟩
theorem Ghost.drop (H:Heap) (O:Own):Ghost H O H []:=Ghost.sub (List.nil_sublist O)
theorem Ghost.freeze (H:Heap) (r:Nat) (o:Obj) (O:Own):Ghost H ((r,o)::O) (H.ins r o) O:=fun _ _ h =>
 ⟨Models.freeze (by simpa using h),Heap.le_ins H r o⟩
theorem Ghost.frame {H H':Heap} {O O':Own} (h:Ghost H O H' O') (X:Own):Ghost H (O++X) H' (O'++X):=fun w F hm=>by
 have:=h w (X++F) (by simpa using hm)
 exact⟨by simpa using this.1,this.2⟩
def Triple (P:Program) (f:FuncId) (args:List Value) (H:Heap) (O:Own) (Q:Value→Heap→Own→Prop):Prop :=
 ∀ w F,Models w H (O++F)→Calls P f args.toArray w fun e w'=>∃ v H' O',e=.returned v∧Q v H' O'∧Heap.le H H'∧Models w' H' (O'++F)
theorem Triple.mono {P:Program} {f:FuncId} {args:List Value} {H:Heap} {O:Own} {Q Q':Value→Heap→Own→Prop} (h:Triple P f args H O Q)
  (hq:∀ v H' O',Heap.le H H'→Q v H' O'→Q' v H' O'):Triple P f args H O Q' :=
 fun w F hm=>(h w F hm).mono fun _ _ ⟨v,H',O',he,q,hle,hm'⟩=>⟨v,H',O',he,hq _ _ _ hle q,hle,hm'⟩
theorem Triple.frame {P:Program} {f:FuncId} {args:List Value} {H:Heap} {O:Own} {Q:Value→Heap→Own→Prop} (h:Triple P f args H O Q) (X:Own) :
  Triple P f args H (O++X) fun v H' O'=>∃ O'',O'=O''++X∧Q v H' O'' :=
 fun w F hm=>(h w (X++F) (by simpa using hm)).mono fun _ _ ⟨v,H',O',he,q,hle,hm'⟩=>⟨v,H',O'++X,he,⟨O',rfl,q⟩,hle,by simpa using hm'⟩
def ba (P:Program) (s:Sem Next) (H:Heap) (O:Own) (Q:Value→Heap→Own→Prop):Prop :=
 ∀ w F,Models w H (O++F)→∃ v w' H' O',s.run P w=.ok (.value v) w'∧Q v H' O'∧Heap.le H H'∧Models w' H' (O'++F)
def Heap.cell? (H:Heap) (a:Addr):Option Value :=
 match H a.block with
 | some (.cells c _ _)=>if a.spot.isSome then none else c[a.off]?
 | _=>none
theorem Models.cell? {w:World} {H:Heap} {O:Own} (h:Models w H O) {a:Addr} {v:Value} (hc:H.cell? a=some v):w.cell? a=some v:=by
 unfold Heap.cell? at hc
 cases hb:H a.block with
 | none=>simp[hb] at hc
 | some o =>
  simp only[hb] at hc
  simp only[World.cell?,h.pers _ _ hb]
  exact hc
theorem Heap.le.cell? {H H':Heap} (h:Heap.le H H') {a:Addr} {v:Value} (hc:H.cell? a=some v):H'.cell? a=some v:=by
 unfold Heap.cell? at *
 cases hb:H a.block with
 | none=>simp[hb] at hc
 | some o =>
  simp only[hb] at hc
  simp only[h.1 _ _ hb]
  exact hc
def Heap.read (H:Heap) (p:Value) (m:Nat):Option (List Value) :=
 match p with
 | .pointer (some a)=>(List.range m).mapM fun i=>H.cell? (a.add i)
 | _=>none
theorem Bw {α β:Type} {f g:α→Option β} (h:∀ a b,f a=some b→g a=some b):∀ (l:List α) (r:List β),l.mapM f=some r→l.mapM g=some r:=by
 intro l
 induction l with
 | nil=>intro r h;simpa using h
 | cons a l ih =>
  intro r hr
  simp only[List.mapM_cons,Option.pure_def,Option.bind_eq_bind] at hr ⊢
  cases ha:f a with
  | none=>simp[ha] at hr
  | some b =>
   simp only[ha,Option.bind_some] at hr
   cases hl:l.mapM f with
   | none=>simp[hl] at hr
   | some bs =>
    simp only[hl,Option.bind_some] at hr
    simp only[h a b ha,ih bs hl,Option.bind_some]
    exact hr
theorem Heap.le.read {H H':Heap} (h:Heap.le H H') {p:Value} {m:Nat} {vs:List Value} (hr:H.read p m=some vs):H'.read p m=some vs:=by
 cases p with
 | pointer a =>
  cases a with
  | none=>simp[Heap.read] at hr
  | some a=>exact Bw (fun i v hv=>h.cell? hv) _ _ hr
 | _=>simp[Heap.read] at hr
def g (vs:List Value) (i:Nat):Value:=vs.getD i undef
def an (x:Value) (n:Nat):Value :=
 match x with
 | .pointer (some a)=>.pointer (some (a.add n))
 | _=>undef
def Gk:Value→Bool
 | .pointer (some _)=>true
 | _=>false
inductive Cp where
 | b (n r off:Nat)
 | v (x:Value)
def Cp.den:Cp→Value
 | .b _ r off=>.pointer (some ⟨r,off,none⟩)
 | .v x=>x
inductive At where
 | any
 | k (v:Value)
 | v (x:Value)
 | px (x:Value) (off:Nat)
 | p (n r off:Nat)
 | sl (n r off len cap:Nat)
 | clo (f:Nat) (caps:List Cp)
 | mp (n r:Nat)
def At.den:At→Value
 | .any=>undef
 | .k x=>x
 | .v x=>x
 | .px x off=>an x off
 | .p _ r off=>.pointer (some ⟨r,off,none⟩)
 | .sl _ r off len cap=>.slice (some ⟨r,off,none⟩) len cap
 | .clo f caps=>.func (.func f) #[] (caps.map Cp.den).toArray
 | .mp _ r=>.map (some r)
def At.known:At→Bool
 | .any=>false
 | _=>true
def At.fit:At→Bool
 | .any | .px ..=>false
 | .k x=>x.oneCell'
 | _=>true
def At.ok:At→Prop
 | .v x=>x.oneCell'=true
 | _=>True
inductive S1 where
 | at (a:At)
 | agg (l:List At)
def S1.den:S1→Value
 | .at a=>a.den
 | .agg l=>.agg (l.map At.den).toArray
def S1.cells:S1→List At
 | .at a=>[a]
 | .agg l=>l
def S1.isAgg:S1→Bool
 | .agg _=>true
 | _=>false
inductive SV where
 | s (x:S1)
 | tup (l:List S1)
 | opt (gl:List (At × Bool)) (x:S1)
abbrev Gd:=List (Value × Bool)
def On:Gd→Prop
 | []=>True
 | p::r=>p.1=.bool p.2∧On r
def li (gl:List (At × Bool)):Gd:=gl.map fun p=>(p.1.den,p.2)
def SV.rel:SV→Value→Prop
 | .s (.at .any),_=>True
 | .s x,v=>v=x.den
 | .tup l,v=>v=.tuple (l.map S1.den).toArray
 | .opt gl x,v=>(On (li gl)→v=x.den)∧(¬ On (li gl)→v=undef)
structure Bx where
 r:Nat
 T:TypeId
 cs:List At
structure SS where
 sz:Nat
 tmps:Nat→SV
 mem:Nat→Option Bx
 next:Nat
def SS.set (s:SS) (d:Option Nat) (v:SV):SS :=
 match d with
 | none=>s
 | some d=>{ s with tmps:=fun t=>if t=d then v else s.tmps t }
def SS.setBox (s:SS) (n:Nat) (b:Option Bx):SS:={ s with mem:=fun m=>if m=n then b else s.mem m }
inductive BK where
 | int | bool | str | slice | ptr | iface | map | func
def bq (op:BinOp) (k:IntKind) (a b:Int):Option Value :=
 match op with
 | .add=>some (.int k (k.wrap (a + b)))
 | .sub=>some (.int k (k.wrap (a - b)))
 | .mul=>some (.int k (k.wrap (a * b)))
 | .quo=>if b=0 then none else some (.int k (k.wrap (a.tdiv b)))
 | .rem=>if b=0 then none else some (.int k (a.tmod b))
 | .and=>some (.int k (k.wrap (BitVec.ofInt k.bits a &&& BitVec.ofInt k.bits b).toNat))
 | .or=>some (.int k (k.wrap (BitVec.ofInt k.bits a ||| BitVec.ofInt k.bits b).toNat))
 | .xor=>some (.int k (k.wrap (BitVec.ofInt k.bits a ^^^ BitVec.ofInt k.bits b).toNat))
 | .andNot=>some (.int k (k.wrap (BitVec.ofInt k.bits a &&& ~~~ BitVec.ofInt k.bits b).toNat))
 | .eql=>some (.bool (a == b))
 | .neq=>some (.bool (a != b))
 | .lss=>some (.bool (decide (a < b)))
 | .leq=>some (.bool (decide (a≤b)))
 | .gtr=>some (.bool (decide (a > b)))
 | .geq=>some (.bool (decide (a ≥ b)))
 | _=>none
def mK (op:BinOp) (k:IntKind) (a b:Int):Option Value :=
 if b < 0 then none else
 match op with
 | .shl=>some (.int k (k.wrap (a * 2 ^ (min b.toNat k.bits))))
 | .shr=>some (.int k (a.fdiv (2 ^ (min b.toNat k.bits))))
 | _=>none
def vB (op:BinOp) (a b:ByteArray):Option Value :=
 match op with
 | .add=>if ((a.size + b.size:Nat):Int) > IntKind.i64.max then none else some (.string (a++b))
 | .eql=>some (.bool (a.toList == b.toList))
 | .neq=>some (.bool (!(a.toList == b.toList)))
 | _=>none
def Oy (bk:BK) (x y:Value):Option Bool :=
 match bk,x,y with
 | .bool,.bool a,.bool b=>some (a == b)
 | .slice,.slice none _ _,.slice b _ _=>some b.isNone
 | .slice,.slice _ _ _,.slice none _ _=>some false
 | .ptr,.pointer none,.pointer b=>some b.isNone
 | .ptr,.pointer _,.pointer none=>some false
 | .map,.map none,.map b=>some b.isNone
 | .map,.map _,.map none=>some false
 | .func,.nilFunc,.nilFunc=>some true
 | .func,.nilFunc,.func _ _ _=>some false
 | .func,.func _ _ _,.nilFunc=>some false
 | _,_,_=>none
def Eu (op:BinOp) (bk:BK) (x y:Value):Option Value :=
 match op with
 | .eql=>(Oy bk x y).map .bool
 | .neq=>(Oy bk x y).map fun b=>.bool (!b)
 | _=>none
def bA (op:BinOp) (bk:BK) (x y:Value):Option Value :=
 match bk,x,y with
 | .int,.int k a,.int k' b =>
  match op with
  | .shl | .shr=>mK op k a b
  | _=>if k=k' then bq op k a b else none
 | .str,.string a,.string b=>vB op a b
 | _,_,_=>Eu op bk x y
inductive POp where
 | bin (op:BinOp) (bk:BK)
 | not | neg | compl
 | pick
 | len | slen | cap
 | idx (size:Nat)
 | pidx (len size:Nat)
 | sidx
 | aidx
 | conv (k:IntKind)
 | slc (size:Nat) (lo hi mx:Bool)
 | sslc (lo hi:Bool)
 | min2 | max2
def nN (size:Nat) (s i:Value):Option Value :=
 match s,i with
 | .slice (some a) len _,.int _ i=>if 0≤i∧i < len then some (.pointer (some (a.add (i.toNat * size)))) else none
 | _,_=>none
def fA (len size:Nat) (p i:Value):Option Value :=
 match p,i with
 | .pointer (some a),.int _ i=>if 0≤i∧i < len then some (.pointer (some (a.add (i.toNat * size)))) else none
 | _,_=>none
def yr (s i:Value):Option Value :=
 match s,i with
 | .string s,.int _ i=>(if 0≤i then s[i.toNat]? else none).map fun b=>.int .u8 b.toNat
 | _,_=>none
def nO (i:Value) (cs:List Value):Option Value :=
 match i with
 | .int _ i=>if 0≤i∧i < cs.length then cs[i.toNat]? else none
 | _=>none
def asI:Value→Option Int
 | .int _ i=>some i
 | _=>none
def QL (i:Int) (y:Nat):Decidable (0≤i∧i≤(y:Int)) :=
 match i with
 | .ofNat n=>match h:Nat.ble n y with
  | true=>.isTrue ⟨Int.natCast_nonneg n,Int.ofNat_le.2 (Nat.le_of_ble_eq_true h)⟩
  | false=>.isFalse fun c=>by
   have h2:=Nat.ble_eq_true_of_le (Int.ofNat_le.1 c.2)
   rw[h2] at h;cases h
 | .negSucc n=>.isFalse fun c=>by have:=c.1;omega
def pY (v:Value) (y:Nat):Option Nat:=(asI v).bind fun i=>@ite (Option Nat) (0≤i∧i≤(y:Int)) (QL i y) (some i.toNat) none
def cK (x:Option Value) (y d:Nat):Option Nat :=
 match x with
 | some v=>pY v y
 | none=>some d
def eS (x:Option Value) (full:Bool) (y d:Nat):Option Nat :=
 match x with
 | some v=>pY v y
 | none=>if full then none else some d
def ce (len cap:Nat) (lo hi mx:Option Value):Option (Nat × Nat × Nat) :=
 (cK mx cap cap).bind fun m=>(eS hi mx.isSome m len).bind fun h=>(cK lo h 0).bind fun l=>some (l,h,m)
def fP:List Bool→List Value→List (Option Value)
 | [],_=>[]
 | true::bs,v::vs=>some v::fP bs vs
 | true::bs,[]=>none::fP bs []
 | false::bs,vs=>none::fP bs vs
def js (size:Nat) (x:Value) (lo hi mx:Option Value):Option Value :=
 match x with
 | .slice a len cap=>(ce len cap lo hi mx).map fun (l,h,m)=>.slice (if m=l then a else a.map (·.add (l * size))) (h - l) (m - l)
 | _=>none
def yq (x:Value) (lo hi:Option Value):Option Value :=
 match x with
 | .string s=>(ce s.size s.size lo hi none).map fun (l,h,_)=>.string (s.extract l h)
 | _=>none
def al (op:POp) (args:List Value):Option Value :=
 match op,args with
 | .bin op bk,[x,y]=>bA op bk x y
 | .not,[.bool b]=>some (.bool (!b))
 | .neg,[.int k n]=>some (.int k (k.wrap (0 - n)))
 | .compl,[.int k n]=>bq .xor k (if k.signed then -1 else k.max) n
 | .pick,[.bool b,x,y]=>some (if b then x else y)
 | .len,[.slice _ n _]=>some (goInt n)
 | .slen,[.string s]=>some (goInt s.size)
 | .cap,[.slice _ _ n]=>some (goInt n)
 | .idx size,[s,i]=>nN size s i
 | .pidx len size,[p,i]=>fA len size p i
 | .sidx,[s,i]=>yr s i
 | .aidx,i::cs=>nO i cs
 | .conv k,[.int _ n]=>some (.int k (k.wrap n))
 | .slc size lo hi mx,x::rest=>match fP [lo,hi,mx] rest with | [l,h,m]=>js size x l h m | _=>none
 | .sslc lo hi,x::rest=>match fP [lo,hi] rest with | [l,h]=>yq x l h | _=>none
 | .min2,[.int k x,.int _ y]=>some (.int k (if y < x then y else x))
 | .max2,[.int k x,.int _ y]=>some (.int k (if y > x then y else x))
 | _,_=>none
inductive PrimOp where
 | bi (b:Builtin) (argTypes:Array TypeId) (type:TypeId)
 | makeSlice (t:TypeId)
 | makeMap (t:TypeId) (has:Bool)
 | lookup (t:TypeId) (ok:Bool)
 | mapUpdate (t:TypeId)
 | range (t:TypeId)
 | next (str:Bool) (type:TypeId)
 | convert (src dst:TypeId)
 | eqv (op:BinOp) (t:TypeId) (const:Bool)
 | typeAssert (x a:TypeId) (ok:Bool)
 | intr (f:FuncId)
 | entry
 | mkIface (t:TypeId) (agg:Bool)
def PrimOp.sem (o:PrimOp) (args:List Value):Sem Next :=
 let v (s:Sem Value):Sem Next:=do pure (.value (← s))
 match o,args with
 | .bi b at_ ty,args=>builtin b at_ ty #[] args.toArray
 | .makeSlice t,[l,c]=>v (Instr.makeSlice t l c)
 | .makeMap t false,[]=>v (Instr.makeMap t none)
 | .makeMap t true,[r]=>v (Instr.makeMap t (some r))
 | .lookup t ok,[m,k]=>v (Instr.lookup t m k ok)
 | .mapUpdate t,[m,k,x]=>do Instr.mapUpdate t m k x;pure (.value (.bool false))
 | .range t,[x]=>v (Instr.range t x)
 | .next str ty,[x]=>v (Instr.next x str ty)
 | .convert a b,[x]=>v (Go.convert a b x)
 | .eqv op t c,[x,y]=>v (do eqGuard op t (if c then .const undef else .global 0) (.global 0) x y;binOp op t x y)
 | .typeAssert t a ok,[x]=>v (Instr.typeAssert x t a ok)
 | .intr f,args=>callFunc f args.toArray
 | .entry,[x]=>v (Instr.entry x)
 | .mkIface t false,[x]=>v (Instr.makeInterface t x)
 | .mkIface t true,cs=>v (Instr.makeInterface t (.agg cs.toArray))
 | _,_=>stuck "prim"
inductive Shp where
 | one
 | agg (m:Nat)
 | tup (l:List (Option Nat))
def Shp.openList:List (Option Nat)→List Value→Option (List Value)
 | [],[]=>some []
 | none::r,v::vs=>(Shp.openList r vs).map (v::·)
 | some m::r,.agg cs::vs=>if cs.size=m then (Shp.openList r vs).map (cs.toList++·) else none
 | _,_=>none
def Shp.open:Shp→Value→Option (List Value)
 | .one,v=>some [v]
 | .agg m,.agg cs=>if cs.size=m then some cs.toList else none
 | .tup l,.tuple vs=>Shp.openList l vs.toList
 | _,_=>none
def atsFrom (vs:List Value) (i m:Nat):List At:=(List.range m).map fun j=>.v (g vs (i + j))
def Shp.svList (vs:List Value):Nat→List (Option Nat)→List S1
 | _,[]=>[]
 | i,none::r=>.at (.v (g vs i))::Shp.svList vs (i + 1) r
 | i,some m::r=>.agg (atsFrom vs i m)::Shp.svList vs (i + m) r
def Shp.sv (vs:List Value):Shp→SV
 | .one=>.s (.at (.v (g vs 0)))
 | .agg m=>.s (.agg (atsFrom vs 0 m))
 | .tup l=>.tup (Shp.svList vs 0 l)
def Shp.count:Shp→Nat
 | .one=>1
 | .agg m=>m
 | .tup l=>l.foldr (fun o n=>o.getD 1 + n) 0
def Shp.isAgg:Shp→Nat→Bool
 | .agg m,n=>m == n
 | _,_=>false
structure BV where
 r:Nat
 T:TypeId
 vs:List Value
def BV.obj (b:BV):Nat × Obj:=(b.r,.cells b.vs.toArray b.T (0,0))
inductive Ck where
 | eqN (a b:Nat)
 | eqV (a b:Value)
 | ptr (g:Gd) (v:Value)
def Ck.holds:Ck→Prop
 | .eqN a b=>a=b
 | .eqV a b=>a=b
 | .ptr g v=>On g→Gk v=true
inductive Tree where
 | stuck (why:Nat)
 | ret (v:Value) (own:List BV)
 | pure (g:Gd) (op:POp) (args:List Value) (k:Value→Tree)
 | raw (g:Gd) (op:PrimOp) (args:List Value) (k:Value→Tree)
 | load (g:Gd) (p:Value) (m:Nat) (k:List Value→Tree)
 | chk (c:Ck) (t:Tree)
 | newbox (k:Nat→Tree)
 | br (v:Value) (t e:Tree)
 | sw (v:Value) (i:Nat) (t e:Tree)
 | call (d:Bool) (f:FuncId) (args:List Value) (frz own:List BV) (shp:Shp) (k:List Value→List (List Value)→Tree)
 | callv (d:Bool) (fv:Value) (args:List Value) (frz own:List BV) (shp:Shp) (k:List Value→List (List Value)→Tree)
 | callm (d:Bool) (m:String) (x:Value) (args:List Value) (frz own:List BV) (shp:Shp) (k:List Value→List (List Value)→Tree)
 | prim (op:PrimOp) (args:List Value) (frz own:List BV) (shp:Shp) (k:List Value→List (List Value)→Tree)
 | store (p:Value) (vs:List Value) (t:Tree)
 | loop (lab key:Nat) (init:List Value) (body:(List Value→Heap→Own→Prop)→List Value→Tree)
 | cut (lab key:Nat) (body:(List Value→Heap→Own→Prop)→Tree) (rest:List Value→Tree)
 | cont (lab:Nat) (C:List Value→Heap→Own→Prop) (vals:List Value) (eqs:List (List Value × List Value))
def Heap.insAll (H:Heap):List BV→Heap
 | []=>H
 | b::r=>Heap.insAll (H.ins b.r b.obj.2) r
theorem Heap.le_insAll:∀ (l:List BV) (H:Heap),Heap.le H (H.insAll l)
 | [],H=>Heap.le_refl H
 | b::r,H=>Heap.le_trans (Heap.le_ins H b.r b.obj.2) (Heap.le_insAll r _)
def TP (O:Own) (p:Value) (m:Nat) (vs:List Value):Prop :=
 ∃ a cs T,p=.pointer (some a)∧a.spot=none∧(a.block,Obj.cells cs T (0,0)) ∈ O∧(cs.toList.drop a.off).take m=vs∧vs.length=m
def Reads (H:Heap) (O:Own) (p:Value) (m:Nat) (vs:List Value):Prop:=H.read p m=some vs∨TP O p m vs
def bL (cs:List Value) (off:Nat) (vs:List Value):List Value:=cs.take off++vs++cs.drop (off + vs.length)
def uE (O:Own) (p:Value) (vs:List Value) (O':Own):Prop :=
 ∃ a cs T L,p=.pointer (some a)∧a.spot=none∧O.Perm ((a.block,Obj.cells cs T (0,0))::L)∧a.off + vs.length≤cs.size ∧
  O'=(a.block,Obj.cells (bL cs.toList a.off vs).toArray T (0,0))::L
def kX:List BV→List (List Value)→List BV
 | b::bs,c::cs=>{ b with vs:=c }::kX bs cs
 | _,_=>[]
def Ones:List Value→Prop
 | []=>True
 | v::r=>v.oneCell'=true∧Ones r
def Ro:List BV→List (List Value)→Prop
 | [],[]=>True
 | b::bs,c::cs=>c.length=b.vs.length∧Ones c∧Ro bs cs
 | _,_=>False
def Eqs:List (List Value × List Value)→Prop
 | []=>True
 | p::r=>p.1=p.2∧Eqs r
def mc (P:Program) (f:FuncId):Prop:=∃ fn,P.funcs[f]?=some fn∧(fn.name == "runtime.NumGoroutine")=false∧fn.body.isNone=false
def dc (T:Heap→Own→(Value→Heap→Own→Prop)→Prop) (d:Bool) (frz own:List BV) (shp:Shp) (K:List Value→List (List Value)→Heap→Own→Prop)
  (H:Heap) (O:Own):Prop :=
 Cons H (frz.map BV.obj++(own.map BV.obj++O))→∃ H1 O1 O2 Q,(if d then H1=H.insAll frz∧((O1=[]∧O2=O)∨(own=[]∧O1=O∧O2=[]∧∀ v H' O',Q v H' O'→O'=O)) else Ghost (H.insAll frz) O H1 (O1++O2))∧T H1 (own.map BV.obj++O1) Q ∧
  ∀ v H' O',Q v H' O'→Heap.le H1 H'→∃ vs cs O3,shp.open v=some vs∧Ones vs∧Ro own cs∧O'=(kX own cs).map BV.obj++O3∧K vs cs H' (O3++O2)
def w9 (P:Program) (m:String) (x:Value) (f:FuncId) (r:Value):Prop :=
 ∃ t v,x=.iface t v∧∀ w,(method (P.types.size + Made.depth) t v m).run P w=.ok (f,r) w
def Tree.den (P:Program) (Q:Value→Heap→Own→Prop):Tree→Heap→Own→Prop
 | .stuck _,_,_=>False
 | .ret v own,H,O=>Cons H (own.map BV.obj++O)→∃ H' O',Ghost H (own.map BV.obj++O) H' O'∧Q v H' O'
 | .pure gd op args k,H,O=>∃ v,(On gd→al op args=some v)∧(gd=[]∨v.oneCell'=true)∧(k v).den P Q H O
 | .raw gd op args k,H,O=>∃ v,(On gd→∀ w,(op.sem args).run P w=.ok (.value v) w)∧v.oneCell'=true∧(k v).den P Q H O
 | .load gd p m k,H,O=>∃ vs,vs.length=m∧Ones vs∧(On gd→Reads H O p m vs)∧(k vs).den P Q H O
 | .chk c t,H,O=>c.holds∧t.den P Q H O
 | .newbox k,H,O=>∀ r,(k r).den P Q H O
 | .br v t e,H,O=>∃ b,v=.bool b∧(b=true→t.den P Q H O)∧(b=false→e.den P Q H O)
 | .sw v i t e,H,O=>∃ kd n,v=.int kd n∧(n=i→t.den P Q H O)∧(n ≠ i→e.den P Q H O)
 | .call d f args frz own shp k,H,O=>dc (fun H1 O1 R=>Triple P f args H1 O1 R) d frz own shp (fun vs cs=>(k vs cs).den P Q) H O
 | .callv d fv args frz own shp k,H,O=>∃ f caps,fv=.func (.func f) #[] caps∧mc P f ∧
   dc (fun H1 O1 R=>Triple P f (args++caps.toList) H1 O1 R) d frz own shp (fun vs cs=>(k vs cs).den P Q) H O
 | .callm d m x args frz own shp k,H,O=>∃ f r,w9 P m x f r∧mc P f ∧
   dc (fun H1 O1 R=>Triple P f (r::args) H1 O1 R) d frz own shp (fun vs cs=>(k vs cs).den P Q) H O
 | .prim op args frz own shp k,H,O=>dc (fun H1 O1 R=>ba P (op.sem args) H1 O1 R) false frz own shp (fun vs cs=>(k vs cs).den P Q) H O
 | .store p vs t,H,O=>∃ O',uE O p vs O'∧t.den P Q H O'
 | .loop _ _ init body,H,O=>∃ (I:List Value→Heap→Own→Prop) (μ:List Value→Heap→Own→Nat),
   (Cons H O→∃ H1 O1,Ghost H O H1 O1∧I init H1 O1) ∧
   ∀ vs H' O',vs.length=init.length→Ones vs→Heap.le H H'→I vs H' O' →
    (body (fun vs' H'' O''=>Cons H'' O''→∃ H3 O3,Ghost H'' O'' H3 O3∧I vs' H3 O3∧μ vs' H3 O3 < μ vs H' O') vs).den P Q H' O'
 | .cut _ _ body rest,H,O=>∃ R:List Value→Heap→Own→Prop,
   (body (fun vs' H'' O''=>Cons H'' O''→∃ H3 O3,Ghost H'' O'' H3 O3∧R vs' H3 O3)).den P Q H O ∧
   ∀ vs H' O',Ones vs→Heap.le H H'→R vs H' O'→(rest vs).den P Q H' O'
 | .cont _ C vals eqs,H,O=>Eqs eqs∧C vals H O
inductive FK where
 | sil
 | pure (g:Gd) (op:POp) (args:List Value)
 | raw (g:Gd) (op:PrimOp) (args:List Value)
 | load (g:Gd) (p:Value) (m:Nat)
 | split (c:Value)
 | isplit (c:Value) (n:Nat)
inductive HK where
 | call (f:FuncId) (args:List Value)
 | callv (fv:Value) (args:List Value)
 | callm (m:String) (x:Value) (args:List Value)
 | prim (op:PrimOp) (args:List Value)
inductive NF where
 | fl (cs:List Ck) (k:FK) (X:List Value→SV)
 | box (cs:List Ck) (name:Nat) (T:TypeId) (cells:List At) (val:Nat→At)
 | stb (cs:List Ck) (n:Nat) (b:Bx)
 | hv (cs:List Ck) (k:HK) (frz own:List (Nat × Bx)) (shp:Shp) (post:List Value→List Ck) (sv:List Value→SV)
 | st (cs:List Ck) (p:Value) (vs:List Value)
structure FP where
 reads:List Nat:=[]
def FK.ch:FK→Bool
 | .pure gd _ _ | .raw gd _ _=>!gd.isEmpty
 | .load ..=>true
 | _=>false
def NF.ch:NF→Bool
 | .fl _ k _=>k.ch
 | _=>false
def NF.bx:NF→Bool
 | .box ..=>true
 | _=>false
def NF.writes:NF→List Nat
 | .box _ n _ _ _=>[n]
 | .stb _ n _=>[n]
 | .hv _ _ frz own _ _ _=>(frz++own).map (·.1)
 | _=>[]
def kO (P:Program) (t:TypeId):Option Nat :=
 match P.info? t,P.underlying t with
 | some i,some _=>some i.size
 | _,_=>none
def dS (P:Program) (t:TypeId):Bool :=
 match P.underlying t with
 | some (.struct _) | some (.array _ _)=>true
 | _=>false
def s5 (P:Program) (t:TypeId):Option (List At):=((P.info? t).bind (·.zero)).map fun z=>z.cells.toList.map .k
def zI (P:Program) (t:TypeId) (f:Nat):Option Field :=
 match P.underlying t with
 | some (.struct fs)=>fs[f]?
 | _=>none
def K6 (P:Program) (t:TypeId) (cs:List At):Option S1 :=
 if dS P t then some (.agg cs) else match cs with | [a]=>some (.at a) | _=>none
def S1.known (x:S1):Bool:=x.cells.all At.known
def vH:Value→S1
 | .agg cs=>.agg (cs.toList.map .k)
 | v=>.at (.k v)
def vS (gl gl':List (At × Bool)):Option (List Ck) :=
 let rear:=gl.drop (gl.length - gl'.length)
 if rear.length=gl'.length && (rear.zip gl').all (fun p=>p.1.2 == p.2.2) then some ((rear.zip gl').map fun p=>.eqV p.1.1.den p.2.1.den) else none
def qL (s:SS) (gl:List (At × Bool)) (x:Operand):Option (S1 × List Ck) :=
 match x with
 | .tmp t =>
  match s.tmps t with
  | .s x=>if x.known then some (x,[]) else none
  | .opt gl' x=>if x.known then (vS gl gl').map fun c=>(x,c) else none
  | .tup _=>none
 | .const v=>some (vH v,[])
 | .global n=>some (.at (.k (.pointer (some ⟨n,0,none⟩))),[])
 | .func f=>some (.at (.clo f []),[])
def jq (s:SS) (gl:List (At × Bool)) (x:Operand):Option (At × List Ck) :=
 match qL s gl x with
 | some (.at a,c)=>some (a,c)
 | _=>none
def eO (s:SS) (gl:List (At × Bool)):List Operand→Option (List At × List Ck)
 | []=>some ([],[])
 | x::r =>
  match jq s gl x,eO s gl r with
  | some (a,c),some (as,cs)=>some (a::as,c++cs)
  | _,_=>none
def oM (s:SS) (gl:List (At × Bool)):List Operand→Option (List S1 × List Ck)
 | []=>some ([],[])
 | x::r =>
  match qL s gl x,oM s gl r with
  | some (a,c),some (as,cs)=>some (a::as,c++cs)
  | _,_=>none
inductive GR where
 | go (gl:List (At × Bool))
 | skip
 | bad
def aI (tgt:Nat→Option Tmp) (s:SS) (o:Oper):GR :=
 match o.guard with
 | none=>.go []
 | some (j,want) =>
  match tgt j with
  | none=>.bad
  | some t =>
   match s.tmps t with
   | .s (.at (.k (.bool b)))=>if b == want then .go [] else .skip
   | .s (.at (.k (.tuple _)))=>.skip
   | .s (.at c)=>if c.known then .go [(c,want)] else .bad
   | .opt gl (.at c)=>if c.known then .go ((c,want)::gl) else .bad
   | _=>.bad
def Bt (gl:List (At × Bool)) (x:S1):SV:=if gl.isEmpty then .s x else .opt gl x
def y6:At→Option Value
 | .k (.int k n)=>some (.int k n)
 | .k (.bool b)=>some (.bool b)
 | _=>none
def PZ (op:POp) (args:List At):Option Value :=
 (args.mapM y6).bind (al op)
def fE (gl:List (At × Bool)) (total:Bool) (dst:Option Tmp) (op:POp) (args:List At) (cs:List Ck):NF :=
 match PZ op args with
 | some v=>.fl cs .sil (fun _=>(Bt gl (.at (.k v))))
 | none=>.fl cs (.pure (if total then [] else li gl) op (args.map At.den)) (fun vs=>(Bt gl (.at (.v (g vs 0)))))
def U4 (P:Program) (t:TypeId):Option BK :=
 match P.underlying t with
 | some (.int _)=>some .int
 | some .bool=>some .bool
 | some .string=>some .str
 | some (.slice _)=>some .slice
 | some (.pointer _)=>some .ptr
 | some (.map _ _)=>some .map
 | some (.func _ _ _)=>some .func
 | _=>none
def hD (cells:List At) (off:Nat) (v:List At):List At:=cells.take off++v++cells.drop (off + v.length)
def eD (s:SS) (gl:List (At × Bool)) (place:Nat→Option (Nat × Nat)):List (Nat × Operand)→List At→Option (List At × List Ck)
 | [],cells=>some (cells,[])
 | (i,x)::r,cells =>
  match place i,qL s gl x with
  | some (off,size),some (v,c) =>
   if v.cells.length=size && off + size≤cells.length && v.cells.all At.fit then
    (eD s gl place r (hD cells off v.cells)).map fun (cs,c')=>(cs,c++c')
   else none
  | _,_=>none
def cE (z:List At):Nat→List At
 | 0=>[]
 | n + 1=>z++cE z n
def Ol (l:List Nat) (n:Nat):List Nat:=if l.contains n then l else l++[n]
def gP:List At→List Nat→List Nat
 | [],acc=>acc
 | .sl n ..::r,acc=>gP r (Ol acc n)
 | _::r,acc=>gP r acc
def HJ:List Cp→List Nat→List Nat
 | [],acc=>acc
 | .b n ..::r,acc=>HJ r (Ol acc n)
 | _::r,acc=>HJ r acc
def ie:List At→List Nat→List Nat
 | [],acc=>acc
 | .p n ..::r,acc=>ie r (Ol acc n)
 | .clo _ cs::r,acc=>ie r (HJ cs acc)
 | _::r,acc=>ie r acc
def ig (s:SS) (l:List Nat):List (Nat × Bx):=l.filterMap fun n=>(s.mem n).map fun b=>(n,b)
def Bx.bv (b:Bx):BV:=⟨b.r,b.T,b.cs.map At.den⟩
def bS:List Nat→SS→SS
 | [],s=>s
 | n::r,s=>bS r (s.setBox n none)
def EX:Nat→List (Nat × Bx)→List (List Value)→SS→SS
 | _,[],_,s=>s
 | i,(n,b)::r,css,s=>EX (i + 1) r css (s.setBox n (some { b with cs:=atsFrom (css.getD i []) 0 b.cs.length }))
def dP:List (Nat × Bx)→List (List Value)→SS→SS
 | (n,b)::r,vs::vss,s=>dP r vss (s.setBox n (some { b with cs:=atsFrom vs 0 b.cs.length }))
 | _,_,s=>s
def fk (s:SS):Nat→List Nat→List Nat→List Nat
 | 0,r,acc=>r++acc
 | _,[],acc=>acc
 | fuel + 1,n::r,acc =>
  if acc.contains n then fk s fuel r acc else
  match s.mem n with
  | none=>fk s fuel r (acc++[n])
  | some b=>fk s fuel (gP b.cs (ie b.cs r)) (acc++[n])
def gn (s:SS):Nat→List Nat→List Nat→List Nat
 | 0,r,acc=>r++acc
 | _,[],acc=>acc
 | fuel + 1,n::r,acc =>
  if acc.contains n then gn s fuel r acc else
  match s.mem n with
  | none=>gn s fuel r (acc++[n])
  | some b=>gn s fuel (ie b.cs r) (acc++[n])
def je (s:SS):List Nat→List Nat→List Nat
 | [],acc=>acc
 | n::r,acc=>je s r (match s.mem n with | some b=>gP b.cs acc | none=>acc)
def Ub (P:Program) (t:TypeId):Option Shp :=
 match P.underlying t with
 | some (.tuple ts)=>some (.tup (ts.toList.map fun t=>if dS P t then kO P t else none))
 | some (.struct _) | some (.array _ _)=>(kO P t).map .agg
 | some _=>some .one
 | none=>none
def MG:List Nat→Bool
 | []=>true
 | n::r=>!r.contains n && MG r
def dF (s:SS) (dst:Option Tmp) (shp:Shp) (hk:HK) (atoms:List At) (cs:List Ck):Option (NF × FP) :=
 let ps:=gn s 50 (ie atoms []) []
 let frzN:=fk s 50 (je s ps (gP atoms [])) []
 let ownN:=ps.filter (!frzN.contains ·)
 let frz:=ig s frzN
 let own:=ig s ownN
 let rds:=ps++frzN
 if (frz++own).all (fun p=>p.2.cs.all At.known) && MG ((frz++own).map (·.1)) then
  some (.hv cs hk frz own shp (fun _=>[]) shp.sv,{ reads:=rds })
 else none
def LP:At→List Nat
 | .p n ..=>[n]
 | .sl n ..=>[n]
 | _=>[]
def Jg (gl:List (At × Bool)) (x:At) (o:Nat):Option (At × List Ck) :=
 match x with
 | .p n r off=>some (.p n r (off + o),[])
 | .v x=>some (if o=0 then .v x else if gl.isEmpty then .v (an x o) else .px x o,[.ptr (li gl) x])
 | .px x off=>some (.px x (off + o),[.ptr (li gl) x])
 | .k x=>some (if o=0 then .k x else if gl.isEmpty then .v (an x o) else .px x o,[.ptr (li gl) x])
 | _=>none
def wa (P:Program) (s:SS) (gl:List (At × Bool)) (dst:Option Tmp) (t:TypeId) (x:At) (cs:List Ck):Option (NF × FP) :=
 (kO P t).bind fun m =>
 let far (y:Value):Option (NF × FP):=some (.fl cs (.load (li gl) y m)
   (fun vs=>(Bt gl (if dS P t then .agg (atsFrom vs 0 m) else .at (.v (g vs 0))))),{ reads:=LP x })
 match x with
 | .p n r off =>
  match s.mem n with
  | some b =>
   let cells:=(b.cs.drop off).take m
   if cells.length=m && cells.all At.known then
    (K6 P t cells).map fun v=>(.fl (.eqN r b.r::cs) .sil (fun _=>(Bt gl v)),{ reads:=[n] })
   else none
  | none=>if !dS P t && m != 1 then none else far x.den
 | .v _ | .px _ _ | .k _=>if !dS P t && m != 1 then none else far x.den
 | _=>none
def oS (P:Program) (s:SS) (t:TypeId) (x:At) (y:S1) (cs:List Ck):Option (NF × FP) :=
 (kO P t).bind fun m =>
 if y.cells.length ≠ m || !y.cells.all At.fit then none else
 match x with
 | .p n r off =>
  match s.mem n with
  | some b =>
   if off + m≤b.cs.length then
    some (.stb (.eqN r b.r::cs) n { b with cs:=hD b.cs off y.cells },{ reads:=[n] })
   else none
  | none=>none
 | .v _ | .px _ _=>if m=0 then none else some (.st (.ptr [] x.den::cs) x.den (y.cells.map At.den),{})
 | _=>none
def vX (P:Program) (t:TypeId) (cs:List At) (off:Nat):Option S1 :=
 (kO P t).bind fun m =>
 let l:=(cs.drop off).take m
 if l.length=m then K6 P t l else none
def jd:At→Option Nat
 | .k (.int _ n)=>if 0≤n then some n.toNat else none
 | _=>none
def sK (P:Program) (gl:List (At × Bool)) (dst:Option Tmp) (t:TypeId) (x i:At) (cs:List Ck):Option (NF × FP) :=
 match P.underlying t with
 | some (.array len elem) =>
  (kO P elem).bind fun size =>
  match jd i with
  | some n=>if n < len then (Jg gl x (n * size)).map fun (a,c)=>(.fl (c++cs) .sil (fun _=>(Bt gl (.at a))),{}) else none
  | none =>
   match x with
   | .p n r off=>if gl.isEmpty && len≤16 then some (.fl cs (.isplit i.den len) (fun vs=>(.s (.at (.p n r (off + (match g vs 0 with | .int _ n=>n.toNat | _=>0) * size))))),{}) else none
   | .v _ | .px _ _ | .k _=>if len≤1 then none else some (fE gl false dst (.pidx len size) [x,i] cs,{})
   | _=>none
 | some (.slice elem) =>
  (kO P elem).bind fun size =>
  match x,jd i with
  | .sl n r off len _,some k=>if k < len then some (.fl cs .sil (fun _=>(Bt gl (.at (.p n r (off + k * size))))),{}) else none
  | _,_=>some (fE gl false dst (.idx size) [x,i] cs,{})
 | _=>none
def Hu (P:Program) (gl:List (At × Bool)) (dst:Option Tmp) (t:TypeId) (x:At) (lo hi mx:Option At) (cs:List Ck):Option (NF × FP) :=
 let rest:=lo.toList++hi.toList++mx.toList
 match P.underlying t with
 | some .string=>if mx.isSome then none else some (fE gl false dst (.sslc lo.isSome hi.isSome) (x::rest) cs,{})
 | some (.slice elem) =>
  (kO P elem).bind fun size =>
  match x,lo.map jd,hi.map jd,mx with
  | .sl n r off len cap,l,h,none =>
   match l.getD (some 0),h.getD (some len) with
   | some l,some h=>if l≤h && h≤cap then some (.fl cs .sil (fun _=>(Bt gl (.at (.sl n r (if cap=l then off else off + l * size) (h - l) (cap - l))))),{}) else none
   | _,_=>some (fE gl false dst (.slc size lo.isSome hi.isSome mx.isSome) (x::rest) cs,{})
  | _,_,_,_=>some (fE gl false dst (.slc size lo.isSome hi.isSome mx.isSome) (x::rest) cs,{})
 | some (.array len elem) =>
  (kO P elem).bind fun size =>
  match x,lo.map jd,hi.map jd,mx with
  | .p n r off,l,h,none =>
   match l.getD (some 0),h.getD (some len) with
   | some l,some h=>if l≤h && h≤len then some (.fl cs .sil (fun _=>(Bt gl (.at (.sl n r (if len=l then off else off + l * size) (h - l) (len - l))))),{}) else none
   | _,_=>none
  | .k (.pointer (some ⟨r,off,none⟩)),l,h,none =>
   match l.getD (some 0),h.getD (some len) with
   | some l,some h=>if l≤h && h≤len then some (.fl cs .sil (fun _=>(Bt gl (.at (.k (.slice (some ⟨r,if len=l then off else off + l * size,none⟩) (h - l) (len - l)))))),{}) else none
   | _,_=>none
  | _,_,_,_=>none
 | _=>none
def wt:List At→Option (List Cp)
 | []=>some []
 | .p n r off::l=>(wt l).map (.b n r off::·)
 | .v x::l=>(wt l).map (.v x::·)
 | .k x::l=>(wt l).map (.v x::·)
 | _=>none
def yX (x:At):List Nat→Option (List At)
 | []=>some []
 | o::r=>match x,yX x r with
  | .p n r' off,some l=>some (.p n r' (off + o)::l)
  | _,_=>none
def DO (vs:List Value):List At→Nat→List Ck
 | [],_=>[]
 | a::r,i=>.eqV (g vs i) a.den::DO vs r (i + 1)
def cJ (gl:List (At × Bool)) (dst:Option Tmp) (v:S1) (cs:List Ck):Option (NF × FP):=some (.fl cs .sil (fun _=>(Bt gl v)),{})
def ma (s:SS) (gl:List (At × Bool)) (dst:Option Tmp) (name:Nat) (T:TypeId) (cells:List At) (val:Nat→At) (cs:List Ck):Option (NF × FP) :=
 if gl.isEmpty && (s.mem name).isNone then some (.box cs name T cells val,{ reads:=[name] }) else none
def tQ (s:SS) (gl:List (At × Bool)) (dst:Option Tmp) (sp:Bool) (x:Operand):Option (NF × FP) :=
 if sp then
  if gl.isEmpty then
   (jq s gl x).bind fun (a,cs) =>
    match a with
    | .k v=>cJ gl dst (.at (.k v)) cs
    | a=>some (.fl cs (.split a.den) (fun vs=>(.s (.at (.k (g vs 0))))),{})
  else none
 else
  match x with
  | .tmp t=>match s.tmps t with
   | .tup l=>if gl.isEmpty then some (.fl [] .sil (fun _=>(.tup l)),{}) else none
   | _=>(qL s gl x).bind fun (v,cs)=>cJ gl dst v cs
  | x=>(qL s gl x).bind fun (v,cs)=>cJ gl dst v cs
def BR (s:SS) (gl:List (At × Bool)) (dst:Option Tmp) (c a b:Operand):Option (NF × FP) :=
 (jq s gl c).bind fun (c,cs) =>
  match c with
  | .k (.bool true)=>(qL s gl a).bind fun (v,cs')=>cJ gl dst v (cs++cs')
  | .k (.bool false)=>(qL s gl b).bind fun (v,cs')=>cJ gl dst v (cs++cs')
  | c =>
   match jq s ((c,true)::gl) a,jq s ((c,false)::gl) b with
   | some (a,ca),some (b,cb)=>if a.fit && b.fit then some (fE gl true dst .pick [c,a,b] (cs++ca++cb),{}) else none
   | _,_=>none
def vL (P:Program) (s:SS) (gl:List (At × Bool)) (dst:Option Tmp) (T:TypeId) (parts:List (Nat × Operand)):Option (NF × FP) :=
 (s5 P T).bind fun zero =>
  match P.underlying T with
  | some (.struct fs) =>
   (fs.toList.mapM fun f=>(P.info? f.type).map fun i=>(f.offset,i.size)).bind fun places =>
    (eD s gl (fun i=>places.toArray[i]?) parts zero).bind fun (cells,cs)=>cJ gl dst (.agg cells) cs
  | some (.array _ elem) =>
   (kO P elem).bind fun size=>(eD s gl (fun i=>some (i * size,size)) parts zero).bind fun (cells,cs)=>cJ gl dst (.agg cells) cs
  | _=>none
def hU (P:Program) (s:SS) (gl:List (At × Bool)) (dst:Option Tmp) (name:Nat) (T:TypeId) (len:Nat) (parts:List (Nat × Operand)):Option (NF × FP) :=
 match P.underlying T with
 | some (.slice elem) =>
  (kO P elem).bind fun size=>(s5 P elem).bind fun zero =>
   if zero.length=size && size ≠ 0 && len * size≤65536 then
    (eD s gl (fun i=>some (i * size,size)) parts (cE zero len)).bind fun (cells,cs)=>ma s gl dst name elem cells (fun r=>.sl name r 0 len len) cs
   else none
 | _=>none
def Sj (gl:List (At × Bool)) (dst:Option Tmp) (x:At) (cs:List Ck):Option (NF × FP) :=
 match x with
 | .p .. | .clo ..=>cJ gl dst (.at x) cs
 | .v y | .k y=>cJ gl dst (.at x) (.ptr (li gl) y::cs)
 | .px y _=>cJ gl dst (.at x) (.ptr (li gl) y::cs)
 | _=>none
def vu:Operand→Bool
 | .const _=>true
 | _=>false
def OK:BinOp→Bool
 | .quo | .rem | .shl | .shr=>false
 | _=>true
def IH (P:Program) (s:SS) (gl:List (At × Bool)) (dst:Option Tmp) (op:BinOp) (t:TypeId) (x y:Operand):Option (NF × FP) :=
 match U4 P t with
 | some bk=>(eO s gl [x,y]).bind fun (as,cs)=>some (fE gl (OK op) dst (.bin op bk) as cs,{})
 | none =>
  match op with
  | .eql | .neq=>(oM s gl [x,y]).bind fun (as,cs)=>some (.fl cs (.raw (li gl) (.eqv op t (vu x || vu y)) (as.map S1.den)) (fun vs=>(Bt gl (.at (.v (g vs 0))))),{})
  | _=>none
def Vk (P:Program) (gl:List (At × Bool)) (dst:Option Tmp) (op:UnOp) (t:TypeId) (x:At) (cs:List Ck):Option (NF × FP) :=
 match op,P.underlying t with
 | .not,some .bool=>some (fE gl true dst .not [x] cs,{})
 | .neg,some (.int _)=>some (fE gl true dst .neg [x] cs,{})
 | .xor,some (.int _)=>some (fE gl true dst .compl [x] cs,{})
 | _,_=>none
def CG (P:Program) (s:SS) (gl:List (At × Bool)) (dst:Option Tmp) (a b:TypeId) (x:At) (cs:List Ck):Option (NF × FP) :=
 match P.underlying a,P.underlying b with
 | some (.int _),some (.int k)=>some (fE gl true dst (.conv k) [x] cs,{})
 | _,_=>if gl.isEmpty then dF s dst .one (.prim (.convert a b) [x.den]) [x] cs else none
def vv (P:Program) (s:SS) (gl:List (At × Bool)) (dst:Option Tmp) (t:TypeId) (x:Operand):Option (NF × FP) :=
 match P.underlying t with
 | some (.interface _) | none=>none
 | some _=>(qL s gl x).bind fun (v,cs)=>if (ie v.cells (gP v.cells [])).isEmpty then cJ gl dst (.at (.v (.iface t v.den))) cs else
  if gl.isEmpty then dF s dst .one (.prim (.mkIface t v.isAgg) (v.cells.map At.den)) v.cells cs else none
def HY (P:Program) (gl:List (At × Bool)) (dst:Option Tmp) (t:TypeId) (x:S1) (i:At) (cs:List Ck):Option (NF × FP) :=
 match P.underlying t,x with
 | some (.array len elem),.agg cells =>
  (kO P elem).bind fun size =>
   match jd i with
   | some n=>if n < len then (vX P elem cells (n * size)).bind fun v=>cJ gl dst v cs else none
   | none=>if size=1 && !dS P elem && cells.length=len && cells.all At.fit && (ie cells (gP cells [])).isEmpty then some (fE gl false dst .aidx (i::cells) cs,{})
    else if gl.isEmpty && size=1 && !dS P elem && cells.length=len && cells.all At.known && len≤16 then some (.fl cs (.isplit i.den len) (fun vs=>.s (.at (cells.getD (match g vs 0 with | .int _ n=>n.toNat | _=>0) .any))),{}) else none
 | some .string,.at x=>some (fE gl false dst .sidx [x,i] cs,{})
 | _,_=>none
def ii (s:SS) (gl:List (At × Bool)) (dst:Option Tmp) (x:Operand) (i:Nat):Option (NF × FP) :=
 match x with
 | .tmp t=>match s.tmps t with
  | .tup l=>(l[i]?).bind fun v=>if v.known then cJ gl dst v [] else none
  | _=>none
 | _=>none
def MR (P:Program) (s:SS) (gl:List (At × Bool)) (dst:Option Tmp) (ty t:TypeId) (x:At) (cs:List Ck):Option (NF × FP) :=
 match P.underlying t with
 | some (.slice _) =>
  match x with
  | .sl _ _ _ n _=>cJ gl dst (.at (.k (goInt n))) cs
  | x=>some (fE gl true dst .len [x] cs,{})
 | some .string=>some (fE gl true dst .slen [x] cs,{})
 | some (.array n _)=>cJ gl dst (.at (.k (goInt n))) cs
 | some (.map _ _)=>if gl.isEmpty then dF s dst .one (.prim (.bi .len #[t] ty) [x.den]) [x] cs else none
 | _=>none
def UA (P:Program) (gl:List (At × Bool)) (dst:Option Tmp) (t:TypeId) (x:At) (cs:List Ck):Option (NF × FP) :=
 match P.underlying t with
 | some (.slice _) =>
  match x with
  | .sl _ _ _ _ n=>cJ gl dst (.at (.k (goInt n))) cs
  | x=>some (fE gl true dst .cap [x] cs,{})
 | _=>none
def R7 {α:Type}:List α→Option α
 | [x]=>some x
 | _=>none
def TZ {α:Type}:List α→Option (α × α)
 | [x,y]=>some (x,y)
 | _=>none
def mN (P:Program) (s:SS) (gl:List (At × Bool)) (dst:Option Tmp) (ty:TypeId) (b:Builtin) (argTypes:Array TypeId) (args:List Operand):Option (NF × FP) :=
 match b with
 | .len=>(R7 argTypes.toList).bind fun t=>(R7 args).bind fun x=>(jq s gl x).bind fun (x,cs)=>MR P s gl dst ty t x cs
 | .cap=>(R7 argTypes.toList).bind fun t=>(R7 args).bind fun x=>(jq s gl x).bind fun (x,cs)=>UA P gl dst t x cs
 | .min=>(TZ args).bind fun (x,y)=>(eO s gl [x,y]).bind fun (as,cs)=>some (fE gl true dst .min2 as cs,{})
 | .max=>(TZ args).bind fun (x,y)=>(eO s gl [x,y]).bind fun (as,cs)=>some (fE gl true dst .max2 as cs,{})
 | .append | .copy =>
  if gl.isEmpty then (eO s gl args).bind fun (as,cs)=>dF s dst .one (.prim (.bi b argTypes ty) (as.map At.den)) as cs else none
 | .delete | .clear =>
  if gl.isEmpty then (eO s gl args).bind fun (as,cs)=>dF s dst (.tup []) (.prim (.bi b argTypes ty) (as.map At.den)) as cs else none
 | _=>none
def CJ (P:Program) (okf:FuncId→Bool) (rules:FuncId→Option (List Nat)) (s:SS) (dst:Option Tmp) (ty:TypeId) (f:At) (as:List S1) (cs:List Ck):Option (NF × FP) :=
 (Ub P ty).bind fun shp =>
  match f with
  | .clo n caps =>
   if !okf n then (if caps.isEmpty then dF s dst shp (.prim (.intr n) (as.map S1.den)) (as.flatMap S1.cells) cs else none) else
   match caps.isEmpty,rules n,R7 as with
   | true,some offs,some (.at x) =>
    (yX x offs).bind fun l=>if shp.isAgg l.length then
     some (.hv cs (.call n [x.den]) [] [] shp (fun vs=>DO vs l 0) (fun _=>.s (.agg l)),{}) else none
   | _,_,_=>dF s dst shp (.call n (as.map S1.den++caps.map Cp.den)) (f::as.flatMap S1.cells) cs
  | .v x=>dF s dst shp (.callv x (as.map S1.den)) (as.flatMap S1.cells) cs
  | .k x=>dF s dst shp (.callv x (as.map S1.den)) (as.flatMap S1.cells) cs
  | _=>none
def B2 (P:Program) (s:SS) (dst:Option Tmp) (ty:TypeId) (m:String) (x:At) (as:List S1) (cs:List Ck):Option (NF × FP) :=
 (Ub P ty).bind fun shp =>
  match x with
  | .v y=>dF s dst shp (.callm m y (as.map S1.den)) (.v y::as.flatMap S1.cells) cs
  | .k y=>dF s dst shp (.callm m y (as.map S1.den)) (.k y::as.flatMap S1.cells) cs
  | _=>none
def kl (s:SS) (gl:List (At × Bool)) (dst:Option Tmp) (shp:Shp) (op:PrimOp) (xs:List Operand):Option (NF × FP) :=
 if gl.isEmpty then (eO s gl xs).bind fun (as,cs)=>dF s dst shp (.prim op (as.map At.den)) as cs else none
def rl:Operand→Option Nat
 | .const (.int .i64 n)=>if 0≤n∧n≤65536 then some n.toNat else none
 | _=>none
def gQ (P:Program) (s:SS) (gl:List (At × Bool)) (dst:Option Tmp) (name:Nat) (t:TypeId) (l c:Operand):Option (NF × FP) :=
 match rl l,rl c,P.underlying t with
 | some n,some m,some (.slice elem) =>
  (kO P elem).bind fun size=>(s5 P elem).bind fun zero =>
   if zero.length=size && size ≠ 0 && n≤m && m * size≤65536 && ((P.info? elem).map fun i=>decide (i.bytes * m≤2 ^ 48)).getD false then
    ma s gl dst name elem (cE zero m) (fun r=>.sl name r 0 n m) []
   else none
 | _,_,_=>kl s gl dst .one (.makeSlice t) [l,c]
def Oz (P:Program) (okf:FuncId→Bool) (rules:FuncId→Option (List Nat)) (sp:Bool) (name:Nat) (o:Oper) (gl:List (At × Bool)) (s:SS):Option (NF × FP) :=
 match o.op with
 | .move x=>tQ s gl o.dst sp x
 | .assign x=>tQ s gl o.dst sp x
 | .pick c a b=>BR s gl o.dst c a b
 | .alloc T=>(s5 P T).bind fun cells=>ma s gl o.dst name T cells (fun r=>.p name r 0) []
 | .box T x=>(qL s gl x).bind fun (v,cs)=>if v.cells.all At.fit then ma s gl o.dst name T v.cells (fun r=>.p name r 0) cs else none
 | .build T parts=>vL P s gl o.dst T parts.toList
 | .buildSlice T len parts=>hU P s gl o.dst name T len parts.toList
 | .load t x=>(jq s gl x).bind fun (x,cs)=>wa P s gl o.dst t x cs
 | .store t x y=>if gl.isEmpty && o.dst.isNone then (jq s gl x).bind fun (x,cs)=>(qL s gl y).bind fun (y,cs')=>oS P s t x y (cs++cs') else none
 | .nilCheck x=>(jq s gl x).bind fun (x,cs)=>Sj gl o.dst x cs
 | .binOp op t x y _=>IH P s gl o.dst op t x y
 | .unOp op t x=>(jq s gl x).bind fun (x,cs)=>Vk P gl o.dst op t x cs
 | .convert a b x=>(jq s gl x).bind fun (x,cs)=>CG P s gl o.dst a b x cs
 | .makeInterface t x=>vv P s gl o.dst t x
 | .makeFunc (.func f) first caps =>
  if first.isEmpty then (eO s gl caps.toList).bind fun (as,cs)=>(wt as).bind fun l=>cJ gl o.dst (.at (.clo f l)) cs else none
 | .fieldAddr t x f =>
  (zI P t f).bind fun fd=>(kO P fd.type).bind fun m =>
   if m=0 then none else (jq s gl x).bind fun (x,cs)=>(Jg gl x fd.offset).bind fun (a,c)=>cJ gl o.dst (.at a) (c++cs)
 | .field t x f =>
  (zI P t f).bind fun fd=>(qL s gl x).bind fun (x,cs)=>(vX P fd.type x.cells fd.offset).bind fun v=>if x.isAgg then cJ gl o.dst v cs else none
 | .indexAddr t x i=>(eO s gl [x,i]).bind fun (as,cs)=>(TZ as).bind fun (x,i)=>sK P gl o.dst t x i cs
 | .index t x i=>(qL s gl x).bind fun (x,cs)=>(jq s gl i).bind fun (i,cs')=>HY P gl o.dst t x i (cs++cs')
 | .slice t x lo hi mx =>
  (jq s gl x).bind fun (x,c0)=>(eO s gl lo.toList).bind fun (l,c1)=>(eO s gl hi.toList).bind fun (h,c2)=>(eO s gl mx.toList).bind fun (m,c3) =>
   Hu P gl o.dst t x l.head? h.head? m.head? (c0++c1++c2++c3)
 | .extract x i=>ii s gl o.dst x i
 | .call c =>
  match c.callee with
  | .builtin b=>mN P s gl o.dst o.type b c.argTypes c.args.toList
  | .value f =>
   if gl.isEmpty then (jq s gl f).bind fun (f,cs)=>(oM s gl c.args.toList).bind fun (as,cs')=>CJ P okf rules s o.dst o.type f as (cs++cs') else none
  | .invoke r m =>
   if gl.isEmpty then (jq s gl r).bind fun (x,cs)=>(oM s gl c.args.toList).bind fun (as,cs')=>B2 P s o.dst o.type m x as (cs++cs') else none
 | .makeSlice t l c=>gQ P s gl o.dst name t l c
 | .makeMap t r=>kl s gl o.dst .one (.makeMap t r.isSome) r.toList
 | .lookup t x i ok=>kl s gl o.dst (if ok then .tup [none,none] else .one) (.lookup t ok) [x,i]
 | .mapUpdate t m k x=>if o.dst.isNone then kl s gl o.dst .one (.mapUpdate t) [m,k,x] else none
 | .insert t m k x=>if o.dst.isNone then kl s gl o.dst .one (.mapUpdate t) [m,k,x] else none
 | .range t x=>kl s gl o.dst .one (.range t) [x]
 | .entry x=>kl s gl o.dst (.tup [none,none]) .entry [x]
 | .next x str=>kl s gl o.dst (if str then .tup [none,none,none] else .tup [none,none,none]) (.next str o.type) [x]
 | _=>none
def xZ (s:SS):Option Tmp→Bool
 | some d=>decide (d < s.sz)
 | none=>true
def nf (P:Program) (okf:FuncId→Bool) (rules:FuncId→Option (List Nat)) (tgt:Nat→Option Tmp) (sp:Bool) (name:Nat) (o:Oper) (s:SS):Option (NF × FP) :=
 if !xZ s o.dst then none else
 match aI tgt s o with
 | .bad=>none
 | .skip=>some (.fl [] .sil (fun _=>(.s (.at (.k undef)))),{})
 | .go gl=>Oz P okf rules sp name o gl s
def HU (c:Value) (kk:Nat→Tree):Nat→Nat→Tree
 | _,0=>.stuck 901
 | i,n + 1=>.sw c i (kk i) (HU c kk (i + 1) n)
def K8:List Ck→Tree→Tree
 | [],t=>t
 | p::r,t=>.chk p (K8 r t)
def nI (dst:Option Tmp) (frz own:List (Nat × Bx)) (sv:List Value→SV) (s:SS) (vs:List Value) (css:List (List Value)):SS :=
 (EX 0 own css (bS ((frz++own).map (·.1)) s)).set dst (sv vs)
def bvs (l:List (Nat × Bx)):List BV:=l.map (·.2.bv)
def QY (d:Bool) (dst:Option Tmp) (x:NF) (s:SS) (kk:SS→Tree):Tree :=
 match x with
 | .fl cs k X=>K8 cs<|
  match k with
  | .sil=>kk (s.set dst (X []))
  | .pure gd op args=>.pure gd op args fun v=>kk (s.set dst (X [v]))
  | .raw gd op args=>.raw gd op args fun v=>kk (s.set dst (X [v]))
  | .load gd p m=>.load gd p m fun vs=>kk (s.set dst (X vs))
  | .split c=>.br c (kk (s.set dst (X [.bool true]))) (kk (s.set dst (X [.bool false])))
  | .isplit c n=>HU c (fun i=>kk (s.set dst (X [.int .i64 i]))) 0 n
 | .box cs n T cells val=>K8 cs (.newbox fun r=>kk ((s.setBox n (some ⟨r,T,cells⟩)).set dst (.s (.at (val r)))))
 | .stb cs n b=>K8 cs (kk (s.setBox n (some b)))
 | .hv cs k frz own shp post sv=>K8 cs<|
  match k with
  | .call f args=>.call d f args (bvs frz) (bvs own) shp fun vs css=>K8 (post vs) (kk (nI dst frz own sv s vs css))
  | .callv fv args=>.callv d fv args (bvs frz) (bvs own) shp fun vs css=>K8 (post vs) (kk (nI dst frz own sv s vs css))
  | .callm m x args=>.callm d m x args (bvs frz) (bvs own) shp fun vs css=>K8 (post vs) (kk (nI dst frz own sv s vs css))
  | .prim op args=>.prim op args (bvs frz) (bvs own) shp fun vs css=>K8 (post vs) (kk (nI dst frz own sv s vs css))
 | .st cs p vs=>K8 cs (.store p vs (kk s))
def Gw (a b:List Nat):Bool:=a.all (!b.contains ·)
def FK.isLoad:FK→Bool
 | .load ..=>true
 | _=>false
def HK.isCall':HK→Bool
 | .prim ..=>false
 | _=>true
def rj:NF→NF→Bool
 | .hv ..,.box cs ..=>cs.isEmpty
 | .hv ..,_=>false
 | .st ..,.box ..=>true
 | .st ..,_=>false
 | .box ..,.hv ..=>false
 | .box ..,.st ..=>false
 | .box ..,b=>!b.ch
 | .fl _ k _,.hv _ hk ..=>!k.isLoad || hk.isCall'
 | .fl _ k _,.st ..=>!k.isLoad
 | _,_=>true
def sR (a:NF) (fa:FP) (b:NF) (fb:FP):Bool :=
 Gw a.writes fb.reads && Gw a.writes b.writes && Gw fa.reads b.writes && rj a b
def Sv:Op→Bool
 | .alloc _ | .box _ _ | .buildSlice _ _ _ | .makeSlice _ _ _ | .makeMap _ _ | .lookup _ _ _ _ | .mapUpdate _ _ _ _ | .range _ _ | .convert _ _ _=>true
 | .call c=>match c.callee with
  | .builtin .len | .builtin .cap | .builtin .min | .builtin .max=>false
  | _=>true
 | _=>false
def fD:List (Nat × Oper)→List Nat
 | []=>[]
 | (i,o)::r =>
  let S:=fD r
  match o.guard with
  | some (j,_)=>if Sv o.op || S.contains i then (if S.contains j then S else j::S) else S
  | none=>S
def bo (ops:Array Oper) (j:Nat):Option Tmp:=(ops[j]?).bind (·.dst)
def VF:Op→Nat
 | .alloc _ | .box _ _ | .buildSlice _ _ _=>2
 | .makeSlice _ l c=>if (rl l).isSome && (rl c).isSome then 2 else 1
 | .store _ _ _ | .makeMap _ _ | .lookup _ _ _ _ | .mapUpdate _ _ _ _ | .insert _ _ _ _ | .range _ _ | .next _ _ | .entry _=>1
 | .call c=>match c.callee with
  | .builtin .len | .builtin .cap | .builtin .min | .builtin .max=>0
  | _=>1
 | _=>0
def ic (o:Oper):List Nat:=o.after.toList.filterMap fun e=>if Region.binds .any e then some e.on else none
def Ei (done:Nat) (o:Oper):Bool:=(ic o).all fun p=>done.testBit p
def nM (done c:Nat):List (Nat × Oper)→Option (Nat × Oper)
 | []=>none
 | (i,o)::r=>if VF o.op == c && Ei done o then some (i,o) else nM done c r
def zP (i:Nat):List (Nat × Oper)→List (Nat × Oper)
 | []=>[]
 | (j,o)::r=>if j=i then r else (j,o)::zP i r
def eK:Nat→Nat→List (Nat × Oper)→List (Nat × Oper)
 | 0,_,l=>l
 | fuel + 1,done,l =>
  match (nM done 0 l).orElse fun _=>(nM done 1 l).orElse fun _=>nM done 2 l with
  | none=>l
  | some (i,o)=>(i,o)::eK fuel (done ||| 1 <<< i) (zP i l)
def iN (tab:List (Nat × Nat)) (p:Nat):Nat :=
 match tab with
 | []=>0
 | (q,m)::r=>if q=p then m else iN r p
def B5 (tab:List (Nat × Nat)):List Nat→Nat
 | []=>0
 | p::r=>(1 <<< p) ||| iN tab p ||| B5 tab r
def fm:List (Nat × Oper)→List (Nat × Nat)→List (Nat × Nat)
 | [],tab=>tab
 | (i,o)::r,tab=>fm r ((i,B5 tab (ic o))::tab)
def Bo (tab:List (Nat × Nat)) (a i:Nat):Bool:=(iN tab i).testBit a
structure Ent where
 i:Nat
 o:Oper
 x:NF
 fp:FP
def xX (ops:Array Oper) (tab:List (Nat × Nat)) (i:Nat) (o:Oper) (x:NF) (fp:FP) (log:List Ent):Bool :=
 log.all fun e=>Bo tab e.i i || (sR e.x e.fp x fp && Oper.apart ops e.o o)
def Q4 (nfi:Nat→Oper→Option (NF × FP)) (ops:Array Oper) (tab:List (Nat × Nat)) (a:Nat) (oa:Oper) (x:NF) (fp:FP) (log:List Ent) (r:List (Nat × Oper)):Bool :=
 match x with
 | .hv .. =>
  let U:=r.filter fun k=>!Bo tab a k.1
  U.all fun k =>
   match nfi k.1 k.2 with
   | some (y,fpy)=>sR x fp y fpy && Oper.apart ops oa k.2 && xX ops tab k.1 k.2 y fpy log &&
    U.all fun m=>m.1 == k.1 || (Oper.apart ops m.2 k.2 && match nfi m.1 m.2 with | some (z,_)=>Gw z.writes fpy.reads | none=>false)
   | none=>false
 | _=>true
def NF.isLd:NF→Bool
 | .fl _ k _=>k.isLoad
 | _=>false
def dAt (tab:List (Nat × Nat)) (i:Nat) (log:List Ent):Bool:=log.any fun e=>!Bo tab e.i i && e.x.isLd
def yZ (P:Program) (okf:FuncId→Bool) (rules:FuncId→Option (List Nat)) (draw:Bool) (ops:Array Oper) (tab:List (Nat × Nat)) (sp:List Nat) (base:Nat):List (Nat × Oper)→List Ent→SS→(SS→Tree)→Tree
 | [],_,s,kk=>kk s
 | (i,o)::r,log,s,kk =>
  match nf P okf rules (bo ops) (sp.contains i) (base + i) o s with
  | none=>.stuck (1000 + i)
  | some (x,fp) =>
   if draw && !(xX ops tab i o x fp log && Q4 (fun k ok=>nf P okf rules (bo ops) (sp.contains k) (base + k) ok s) ops tab i o x fp log r) then .stuck (2000 + i)
   else QY (draw && dAt tab i log) o.dst x s fun s'=>yZ P okf rules draw ops tab sp base r (if draw then ⟨i,o,x,fp⟩::log else log) s' kk
def aL {α:Type} (n:Nat):List α→List (Nat × α)
 | []=>[]
 | a::r=>(n,a)::aL (n + 1) r
def topo (n:Nat):Nat→List (Nat × Oper)→Bool
 | done,[]=>done == 2 ^ n - 1
 | done,(i,o)::r=>!done.testBit i && Ei done o && topo n (done ||| 1 <<< i) r
def mz (P:Program) (okf:FuncId→Bool) (rules:FuncId→Option (List Nat)) (ops:Array Oper) (draw:Bool) (s:SS) (kk:SS→Tree):Tree :=
 let l:=aL 0 ops.toList
 if draw then
  let l':=eK ops.size 0 l
  if topo ops.size 0 l' then
   yZ P okf rules true ops (fm l' []) (fD l) s.next l' [] s fun s'=>kk { s' with next:=s.next + ops.size }
  else .stuck 3000
 else yZ P okf rules false ops [] (fD l) s.next l [] s fun s'=>kk { s' with next:=s.next + ops.size }
inductive TR where
 | unroll (n:Nat)
 | inv (carry keep:List Nat) (boxes:List (Nat × List Nat))
structure K9 where
 okf:FuncId→Bool
 rules:FuncId→Option (List Nat)
 loop:Nat→TR
 cut:Nat→Option (List Nat × List Nat × List (Nat × List Nat))
def eP:Code→Nat
 | .region id _ _=>id
 | .seq a _=>eP a
 | .block _ b=>eP b
 | .loop b=>eP b
 | .cond _ a b=>match a with | .skip=>eP b | _=>eP a
 | _=>99999
def K0 (s:SS) (t:Nat):At:=match s.tmps t with | .s (.at a)=>a | _=>.any
def TJ (s:SS) (t:Nat):Option Nat:=match K0 s t with | .p n _ _=>some n | .sl n _ _ _ _=>some n | _=>none
def Ek (l:List Nat) (t:Nat):Option Nat :=
 match l with
 | []=>none
 | a::r=>if a=t then some 0 else (Ek r t).map (· + 1)
def eB (s:SS):List (Nat × List Nat)→Nat→List (Nat × Bx × List Nat × Nat)
 | [],_=>[]
 | (t,cells)::r,i =>
  match TJ s t with
  | none=>eB s r i
  | some n=>match s.mem n with
   | none=>eB s r i
   | some b =>
    let rest:=eB s r (i + cells.length)
    (n,b,cells,i)::rest.filter (fun x=>x.1 != n)
def kc (cs:List At) (vs:List Value):List Nat→Nat→List At
 | [],_=>cs
 | c::r,i=>kc (cs.set c (.v (g vs i))) vs r (i + 1)
def om (s:SS) (carry keep:List Nat) (hb:List (Nat × Bx × List Nat × Nat)) (vs:List Value):SS :=
  { s with
    tmps:=fun t=>match Ek carry t with | some i=>.s (.at (.v (g vs i))) | none=>if keep.contains t then s.tmps t else .s (.at .any)
    mem:=fun n=>match hb.find? (·.1 == n) with | some (_,b,cells,i)=>some { b with cs:=kc b.cs vs cells i } | none=>none }
def dH (s:SS) (carry:List Nat) (hb:List (Nat × Bx × List Nat × Nat)):List Value :=
 carry.map (fun t=>(K0 s t).den)++hb.flatMap fun (n,_,cells,_)=>match s.mem n with | some b=>cells.map fun c=>(b.cs.getD c .any).den | none=>[]
def mH (s:SS) (carry:List Nat) (hb:List (Nat × Bx × List Nat × Nat)):Bool :=
 carry.all (fun t=>(K0 s t).fit) && hb.all fun (n,_,cells,_)=>match s.mem n with | some b=>cells.all fun c=>(b.cs.getD c .any).fit | none=>false
def jm:SV→Option (List At)
 | .s x=>some x.cells
 | .tup l=>some (l.flatMap S1.cells)
 | .opt _ _=>none
def Ls:SV→SV→Bool
 | .s (.at _),.s (.at _)=>true
 | .s (.agg a),.s (.agg b)=>a.length == b.length
 | .tup a,.tup b=>a.length == b.length && (a.zip b).all fun p=>match p.1,p.2 with | .at _,.at _=>true | .agg a,.agg b=>a.length == b.length | _,_=>false
 | _,_=>false
def pz (cs:List At) (cells:List Nat):List At:=(aL 0 cs).map fun (i,a)=>if cells.contains i then .k undef else a
def JY:Nat→List (Nat × Bx × List Nat × Nat)→Bool
 | _,[]=>true
 | p,(_,_,cells,i)::r=>i == p && JY (p + cells.length) r
def jT (lab:Nat) (C:List Value→Heap→Own→Prop) (carry keep:List Nat) (hb:List (Nat × Bx × List Nat × Nat)) (h s:SS):Tree :=
  if s.sz == h.sz && JY carry.length hb && mH s carry hb &&
    keep.all (fun t=>(Ek carry t).isSome || (Ls (s.tmps t) (h.tmps t) && match jm (s.tmps t) with | some l=>l.all At.known | none=>false)) &&
    hb.all (fun (n,b,_,_)=>match s.mem n with | some b'=>b'.T == b.T && b'.cs.length == b.cs.length && b'.cs.all At.known | none=>false)
  then .cont lab C (dH s carry hb)
    ((keep.filter fun t=>(Ek carry t).isNone).map (fun t=>(((jm (s.tmps t)).getD []).map At.den,((jm (h.tmps t)).getD []).map At.den)) ++
     hb.map fun (n,b,cells,_)=>match s.mem n with
      | some b'=>(.pointer (some ⟨b'.r,0,none⟩)::(pz b'.cs cells).map At.den,.pointer (some ⟨b.r,0,none⟩)::(pz b.cs cells).map At.den)
      | none=>([],[]))
  else .stuck 902

def uT (f:SS→(SS→Tree)→Tree):Nat→SS→Tree
 | 0,_=>.stuck 903
 | n + 1,s=>f s fun s'=>uT f n s'
def sx (P:Program) (opts:K9):Code→SS→(SS→Tree)→(Nat→Option (SS→Tree))→(SS→Tree)→Tree
 | .skip,s,k,_,_=>k s
 | .label _,s,k,_,_=>k s
 | .region _ ops draw,s,k,_,_=>mz P opts.okf opts.rules ops draw s k
 | .seq a b,s,k,X,R=>sx P opts a s (fun s'=>sx P opts b s' k X R) X R
 | .cond c a b,s,k,X,R =>
  let whole (s:SS) (k:SS→Tree):Tree :=
   match jq s [] c with
   | some (.k (.bool true),_)=>sx P opts a s k X R
   | some (.k (.bool false),_)=>sx P opts b s k X R
   | some (v,_)=>.br v.den (sx P opts a s k X R) (sx P opts b s k X R)
   | none=>.stuck 904
  match opts.cut (eP (.cond c a b)) with
  | none=>whole s k
  | some (carry,keep,boxes) =>
   let hb:=eB s boxes carry.length
   .cut s.next (eP (.cond c a b)) (fun C=>whole { s with next:=s.next + 1 } fun s'=>jT s.next C carry keep hb s s') fun vs=>k (om { s with next:=s.next + 1 } carry keep hb vs)
 | .block id b,s,k,X,R=>sx P opts b s k (fun j=>if j=id then some k else X j) R
 | .exit id,s,_,X,_=>match X id with | some k=>k s | none=>.stuck 905
 | .ret,s,_,_,R=>R s
 | .loop b,s,_,X,R =>
  match opts.loop (eP b) with
  | .unroll n=>uT (fun s k=>sx P opts b s k X R) n s
  | .inv carry keep boxes =>
   let hb:=eB s boxes carry.length
   if JY carry.length hb && mH s carry hb then
    .loop s.next (eP b) (dH s carry hb) fun C vs =>
     sx P opts b (om { s with next:=s.next + 1 } carry keep hb vs) (fun s'=>jT s.next C carry keep hb s s') X R
   else .stuck 906
 | _,_,_,_,_=>.stuck 907
def jQ (P:Program):List TypeId→Nat→List Value→List SV
 | [],_,_=>[]
 | T::r,i,vs =>
  if dS P T then (let m:=(kO P T).getD 0;.s (.agg (atsFrom vs i m))::jQ P r (i + m) vs)
  else .s (.at (.v (g vs i)))::jQ P r (i + 1) vs
def nP (P:Program) (fn:Func) (vs:List Value):SS :=
 let svs:=jQ P (fn.params.toList++List.replicate fn.nfree 0) 0 vs
 { sz:=fn.ntmps,tmps:=fun t=>(svs[t]?).getD (.s (.at (.k undef))),mem:=fun _=>none,next:=0 }
def HB (P:Program) (s:SS):ResultVar→Option S1
 | .tmp t=>match s.tmps t with
  | .s x=>if x.known then some x else none
  | _=>none
 | .cell a T=>match K0 s a with
  | .p n r 0=>(s.mem n).bind fun b=>if b.cs.all At.known && some b.cs.length == kO P T then K6 P T b.cs else none
  | _=>none
def FD (s:SS):ResultVar→List Ck
 | .tmp _=>[]
 | .cell a _=>match K0 s a with
  | .p n r _=>(match s.mem n with | some b=>[.eqN r b.r] | none=>[])
  | _=>[]
def tJ (P:Program) (s:SS):List ResultVar→Option (List S1)
 | []=>some []
 | x::r=>match HB P s x,tJ P s r with
  | some v,some vs=>some (v::vs)
  | _,_=>none
def sE (P:Program) (fn:Func) (s:SS):Tree :=
 match tJ P s fn.results.toList with
 | none=>.stuck 908
 | some l =>
  let atoms:=l.flatMap S1.cells
  let own:=ig s (fk s 50 (ie atoms (gP atoms [])) [])
  if own.all (fun b=>b.2.cs.all At.known) && MG (own.map (·.1)) then
   K8 (fn.results.toList.flatMap (FD s)) (.ret (match l with | [v]=>v.den | l=>.tuple (l.map S1.den).toArray) (bvs own))
  else .stuck 909
def ON (P:Program) (fn:Func) (opts:K9) (vs:List Value):Tree :=
 match fn.body with
 | some c=>sx P opts c (nP P fn vs) (sE P fn) (fun _=>none) (sE P fn)
 | none=>.stuck 910
def AllCk:List Ck→Prop
 | []=>True
 | c::r=>c.holds∧AllCk r
theorem AllCk.append {a b:List Ck}:AllCk (a++b) ↔ AllCk a∧AllCk b:=by
 induction a with
 | nil=>simp[AllCk]
 | cons c r ih=>simp[AllCk,ih,and_assoc]
def CellsRel:List At→List Value→Prop
 | [],[]=>True
 | a::r,v::vs=>(a.known=true→v=a.den)∧CellsRel r vs
 | _,_=>False
theorem CellsRel.length:∀ {cs:List At} {vs:List Value},CellsRel cs vs→cs.length=vs.length
 | [],[],_=>rfl
 | _::_,_::_,h=>by simp[CellsRel.length h.2]
theorem CellsRel.known:∀ {cs:List At} {vs:List Value},CellsRel cs vs→cs.all At.known=true→vs=cs.map At.den
 | [],[],_,_=>rfl
 | a::r,v::vs,h,hk=>by
  simp only[List.all_cons,Bool.and_eq_true] at hk
  rw[List.map_cons,h.1 hk.1,CellsRel.known h.2 hk.2]
theorem CellsRel.drop:∀ {cs:List At} {vs:List Value} (n:Nat),CellsRel cs vs→CellsRel (cs.drop n) (vs.drop n)
 | _,_,0,h=>by simpa using h
 | [],[],_ + 1,_=>by simp[CellsRel]
 | _::_,_::_,n + 1,h=>by simpa using CellsRel.drop n h.2
theorem CellsRel.take:∀ {cs:List At} {vs:List Value} (n:Nat),CellsRel cs vs→CellsRel (cs.take n) (vs.take n)
 | _,_,0,_=>by simp[CellsRel]
 | [],[],_ + 1,_=>by simp[CellsRel]
 | _::_,_::_,n + 1,h=>by simpa [CellsRel] using ⟨h.1,CellsRel.take n h.2⟩
theorem CellsRel.append:∀ {cs ds:List At} {vs us:List Value},CellsRel cs vs→CellsRel ds us→CellsRel (cs++ds) (vs++us)
 | [],_,[],_,_,h=>by simpa using h
 | _::_,_,_::_,_,h,h'=>by simpa [CellsRel] using ⟨h.1,CellsRel.append h.2 h'⟩
theorem CellsRel.map (cs:List At):CellsRel cs (cs.map At.den):=by
 induction cs with
 | nil=>simp[CellsRel]
 | cons a r ih=>exact⟨fun _=>rfl,ih⟩
theorem CellsRel.fill {cs:List At} {vs:List Value} (h:CellsRel cs vs) (off:Nat) (ys:List At) :
  CellsRel (hD cs off ys) (vs.take off++ys.map At.den++vs.drop (off + ys.length)) :=
 ((h.take off).append (CellsRel.map ys)).append (h.drop _)
theorem CellsRel.from (vs:List Value):∀ (m i:Nat),i + m=vs.length→CellsRel ((List.range' i m).map fun j=>At.v (g vs j)) (vs.drop i)
 | 0,i,h=>by
  have:vs.drop i=[]:=List.drop_eq_nil_of_le (by omega)
  simp[this,CellsRel]
 | m + 1,i,h=>by
  have hi:i < vs.length:=by omega
  rw[List.drop_eq_getElem_cons hi,List.range'_succ,List.map_cons]
  refine⟨fun _=>?_,CellsRel.from vs m (i + 1) (by omega)⟩
  simp[At.den,g,hi]
theorem CU (vs:List Value) (i m:Nat):atsFrom vs i m=(List.range' i m).map fun j=>At.v (g vs j):=by
 unfold atsFrom
 rw[List.range'_eq_map_range,List.map_map];rfl
theorem CellsRel.atsFrom {vs:List Value} {m:Nat} (h:vs.length=m):CellsRel (atsFrom vs 0 m) vs:=by
 rw[CU];simpa using CellsRel.from vs m 0 (by omega)
def mO (b:Option Bx) (vs:List Value):Nat × Obj :=
 match b with
 | some b=>(b.r,.cells vs.toArray b.T (0,0))
 | none=>(0,.cells #[] 0 (0,0))
def Boxes (m:Nat→Option Bx) (L:Own):Prop :=
 ∃ (ns:List Nat) (f:Nat→List Value),ns.Nodup∧(∀ n,(m n).isSome=true ↔ n ∈ ns)∧(∀ n b,m n=some b→CellsRel b.cs (f n)) ∧
  L.Perm (ns.map fun n=>mO (m n) (f n))
theorem Boxes.perm {m:Nat→Option Bx} {L L':Own} (h:Boxes m L) (hp:L.Perm L'):Boxes m L' :=
 let ⟨ns,f,a,b,c,d⟩:=h;⟨ns,f,a,b,c,hp.symm.trans d⟩
theorem Boxes.none:Boxes (fun _=>Option.none) []:=⟨[],fun _=>[],by simp,by simp,by simp,by simp⟩
theorem Boxes.take {m:Nat→Option Bx} {L:Own} {n:Nat} {b:Bx} (h:Boxes m L) (hb:m n=some b) :
  ∃ vs L',CellsRel b.cs vs∧L.Perm ((b.r,.cells vs.toArray b.T (0,0))::L')∧Boxes (fun k=>if k=n then Option.none else m k) L':=by
 obtain⟨ns,f,hn,hs,hc,hp⟩:=h
 have hin:n ∈ ns:=(hs n).1 (by simp[hb])
 refine⟨f n,(ns.erase n).map fun k=>mO (m k) (f k),hc n b hb,?_,ns.erase n,f,hn.erase n,fun k=>?_,fun k b' hk=>?_,?_⟩
 ·refine hp.trans ?_
  have:=(List.perm_cons_erase hin).map fun k=>mO (m k) (f k)
  simpa [mO,hb] using this
 ·by_cases hk:k=n
  ·subst hk;simpa using fun hm=>(List.Nodup.mem_erase_iff hn).1 hm |>.1 rfl
  ·simp only[hk,if_false,hs k,List.Nodup.mem_erase_iff hn];simp[hk]
 ·by_cases e:k=n
  ·simp[e] at hk
  ·simp only[e,if_false] at hk;exact hc k b' hk
 ·refine List.Perm.of_eq (List.map_congr_left fun k hk=>?_)
  have:k ≠ n:=((List.Nodup.mem_erase_iff hn).1 hk).1
  simp[this]
theorem Boxes.put {m:Nat→Option Bx} {L:Own} {n:Nat} {b:Bx} {vs:List Value} (h:Boxes m L) (hb:m n=Option.none) (hv:CellsRel b.cs vs) :
  Boxes (fun k=>if k=n then some b else m k) ((b.r,.cells vs.toArray b.T (0,0))::L):=by
 obtain⟨ns,f,hn,hs,hc,hp⟩:=h
 have hout:n ∉ ns:=fun hin=>by have:=(hs n).2 hin;simp[hb] at this
 refine⟨n::ns,fun k=>if k=n then vs else f k,List.nodup_cons.2 ⟨hout,hn⟩,fun k=>?_,fun k b' hk=>?_,?_⟩
 ·by_cases e:k=n <;> simp[e,hs k]
 ·by_cases e:k=n
  ·subst e;simp at hk;subst hk;simpa using hv
  ·simp only[e,if_false] at hk ⊢;exact hc k b' hk
 ·simp only[List.map_cons,if_true,mO]
  refine List.Perm.cons _ (hp.trans (List.Perm.of_eq (List.map_congr_left fun k hk=>?_)))
  have:k ≠ n:=fun e=>hout (e ▸ hk)
  simp[this,mO]
theorem EO (m:Nat→Option Bx) (n:Nat) (b:Option Bx):(fun k=>if k=n then b else if k=n then Option.none else m k)=fun k=>if k=n then b else m k:=by
 funext k;by_cases e:k=n <;> simp[e]
def S1.ok (x:S1):Prop:=∀ a,a ∈ x.cells→a.ok
def SV.ok:SV→Prop
 | .s x=>x.ok
 | .tup l=>∀ x,x ∈ l→x.ok
 | .opt _ x=>x.ok
def SS.Ok (s:SS):Prop:=(∀ t,(s.tmps t).ok)∧∀ n b,s.mem n=some b→∀ a,a ∈ b.cs→a.ok
theorem SS.Ok.set {s:SS} (h:s.Ok) (d:Option Nat) {sv:SV} (hv:sv.ok):(s.set d sv).Ok:=by
 cases d with
 | none=>exact h
 | some d =>
  refine⟨fun t=>?_,h.2⟩
  simp only[SS.set]
  split
  ·exact hv
  ·exact h.1 t
theorem SS.Ok.setBox {s:SS} (h:s.Ok) (n:Nat) {b:Option Bx} (hv:∀ b',b=some b'→∀ a,a ∈ b'.cs→a.ok):(s.setBox n b).Ok:=by
 refine⟨h.1,fun k b' hb=>?_⟩
 simp only[SS.setBox] at hb
 split at hb
 ·exact hv b' hb
 ·exact h.2 k b' hb
theorem At.fit_one {a:At} (h:a.fit=true) (ho:a.ok):a.den.oneCell'=true:=by
 cases a <;> simp_all [At.fit,At.ok,At.den,Value.oneCell']
theorem MA {gl:List (At × Bool)} {x:S1} (h:x.ok):(Bt gl x).ok:=by
 unfold Bt;split <;> exact h
structure Conc (F:Own) (s:SS) (H:Heap) (O:Own) (a:Act) (w:World):Prop where
 ok:s.Ok
 df:a.defers=[]
 sz:a.tmps.size=s.sz
 tm:∀ t,(s.tmps t).rel (a.tmps.getD t undef)
 mm:∃ L,Boxes s.mem L∧Models w H (L++(O++F))
theorem Conc.put {F:Own} {s:SS} {H:Heap} {O:Own} {a:Act} {w:World} (h:Conc F s H O a w) {dst:Option Nat} {sv:SV} {v:Value}
  (hd:∀ d,dst=some d→d < s.sz) (hv:sv.rel v) (hok:sv.ok):Conc F (s.set dst sv) H O (a.put dst v) w:=by
 have hok':=h.ok.set dst hok
 cases dst with
 | none=>exact h
 | some d =>
  have hlt:d < a.tmps.size:=by rw[h.sz];exact hd d rfl
  refine⟨hok',h.df,by simp[Act.put,SS.set,h.sz],fun t=>?_,h.mm⟩
  simp only[SS.set,Act.put]
  by_cases e:t=d
  ·subst e;simpa [Array.getD,hlt] using hv
  ·have:=h.tm t
   simp only[e,if_false]
   have hg:(a.tmps.setIfInBounds d v).getD t undef=a.tmps.getD t undef:=by
    simp only[Array.getD_eq_getD_getElem?]
    rw[Array.getElem?_setIfInBounds_ne (by omega)]
   rw[hg];exact this
theorem Hl (c:At) (p:Bool) (gl:List (At × Bool)):On (li ((c,p)::gl)) ↔ c.den=.bool p∧On (li gl):=Iff.rfl
theorem I5 {gl:List (At × Bool)} {x:S1} {v:Value} (h:On (li gl)→v=x.den) (h':¬ On (li gl)→v=undef):(Bt gl x).rel v:=by
 unfold Bt
 split
 ·rename_i e
  have:gl=[]:=by simpa using e
  subst this
  have hv:=h trivial
  unfold SV.rel
  split <;> simp_all
 ·exact⟨h,h'⟩
theorem gJ {x:S1} {v:Value} (hk:x.known=true) (h:(SV.s x).rel v):v=x.den:=by
 rcases x with a | l
 ·cases a <;> first | exact h | simp[S1.known,S1.cells,At.known] at hk
 ·exact h
theorem Ij (v:Value):(vH v).den=v:=by
 cases v <;> simp[vH,S1.den,At.den,Function.comp_def]
theorem yA:∀ (rear gl':List (At × Bool)),rear.length=gl'.length→((rear.zip gl').all fun p=>p.1.2 == p.2.2)=true →
  AllCk ((rear.zip gl').map fun p=>.eqV p.1.1.den p.2.1.den)→On (li rear)→On (li gl')
 | [],[],_,_,_,_=>trivial
 | [],_::_,h,_,_,_=>by simp at h
 | _::_,[],h,_,_,_=>by simp at h
 | p::r,q::r',hl,hp,hc,ho=>by
  simp only[List.zip_cons_cons,List.all_cons,Bool.and_eq_true,List.map_cons,AllCk,Ck.holds,beq_iff_eq] at hp hc
  refine⟨?_,yA r r' (by simpa using hl) (by simpa using hp.2) hc.2 ho.2⟩
  have:=ho.1
  simp only[] at this ⊢
  rw[← hc.1,← hp.1];exact this
theorem Ov:∀ (gl:List (At × Bool)) (k:Nat),On (li gl)→On (li (gl.drop k))
 | [],k,_=>by simp[li,On]
 | _::_,0,h=>h
 | _::r,k + 1,h=>Ov r k h.2
theorem Lu {gl gl':List (At × Bool)} {cs:List Ck} (h:vS gl gl'=some cs) (hc:AllCk cs) (ho:On (li gl)):On (li gl'):=by
 unfold vS at h
 simp only[] at h
 split at h
 ·rename_i hcond
  simp only[Option.some.injEq] at h
  subst h
  simp only[Bool.and_eq_true,decide_eq_true_eq] at hcond
  exact yA _ _ hcond.1 hcond.2 hc (Ov _ _ ho)
 ·simp at h
theorem gy {F:Own} {s:SS} {H:Heap} {O:Own} {a:Act} {w:World} (h:Conc F s H O a w) {gl:List (At × Bool)} {x:Operand} {v:S1} {cs:List Ck}
  (hx:qL s gl x=some (v,cs)) (hc:AllCk cs) (ho:On (li gl)):a.eval x=v.den:=by
 cases x with
 | tmp t =>
  have ht:=h.tm t
  simp only[qL] at hx
  simp only[Act.eval]
  split at hx
  ·rename_i y hy
   split at hx
   ·rename_i hk;simp only[Option.some.injEq,Prod.mk.injEq] at hx;rw[← hx.1];rw[hy] at ht;exact gJ hk ht
   ·simp at hx
  ·rename_i gl' y hy
   split at hx
   ·rename_i hk
    cases hs:vS gl gl' with
    | none=>simp[hs] at hx
    | some c =>
     simp only[hs,Option.map_some,Option.some.injEq,Prod.mk.injEq] at hx
     rw[hy] at ht
     rw[← hx.1];exact ht.1 (Lu hs (hx.2 ▸ hc) ho)
   ·simp at hx
  ·simp at hx
 | const v=>simp only[qL,Option.some.injEq,Prod.mk.injEq] at hx;rw[← hx.1,Ij];rfl
 | global n=>simp only[qL,Option.some.injEq,Prod.mk.injEq] at hx;rw[← hx.1];rfl
 | func f=>simp only[qL,Option.some.injEq,Prod.mk.injEq] at hx;rw[← hx.1];rfl
theorem KD (v:Value):(vH v).ok:=by
 intro a ha
 cases v <;> simp[vH,S1.cells] at ha
 case agg cs=>obtain⟨x,_,rfl⟩:=ha;trivial
 all_goals (subst ha;trivial)
theorem gK {s:SS} (h:s.Ok) {gl:List (At × Bool)} {x:Operand} {v:S1} {cs:List Ck} (hx:qL s gl x=some (v,cs)):v.ok:=by
 cases x with
 | tmp t =>
  have ht:=h.1 t
  simp only[qL] at hx
  split at hx
  ·rename_i y hy
   split at hx
   ·simp only[Option.some.injEq,Prod.mk.injEq] at hx;rw[← hx.1];rw[hy] at ht;exact ht
   ·simp at hx
  ·split at hx
   ·rename_i gl' y hy hk
    cases hs:vS gl gl' with
    | none=>simp[hs] at hx
    | some c=>simp only[hs,Option.map_some,Option.some.injEq,Prod.mk.injEq] at hx;rw[← hx.1];rw[hy] at ht;exact ht
   ·simp at hx
  ·simp at hx
 | const v=>simp only[qL,Option.some.injEq,Prod.mk.injEq] at hx;rw[← hx.1];exact KD v
 | global n =>
  simp only[qL,Option.some.injEq,Prod.mk.injEq] at hx;rw[← hx.1];intro a ha;simp[S1.cells] at ha;subst ha;trivial
 | func f =>
  simp only[qL,Option.some.injEq,Prod.mk.injEq] at hx;rw[← hx.1];intro a ha;simp[S1.cells] at ha;subst ha;trivial
theorem DU {s:SS} {gl:List (At × Bool)} {x:Operand} {a:At} {cs:List Ck} (hx:jq s gl x=some (a,cs)):qL s gl x=some (.at a,cs):=by
 unfold jq at hx
 split at hx
 ·rename_i b c he;simp only[Option.some.injEq,Prod.mk.injEq] at hx;rw[he,hx.1,hx.2]
 ·simp at hx
theorem aP {F:Own} {s:SS} {H:Heap} {O:Own} {a:Act} {w:World} (h:Conc F s H O a w) {gl:List (At × Bool)} {x:Operand} {v:At} {cs:List Ck}
  (hx:jq s gl x=some (v,cs)) (hc:AllCk cs) (ho:On (li gl)):a.eval x=v.den:=gy h (DU hx) hc ho
theorem y9 {s:SS} (h:s.Ok) {gl:List (At × Bool)} {x:Operand} {v:At} {cs:List Ck} (hx:jq s gl x=some (v,cs)):v.ok :=
 gK h (DU hx) v (by simp[S1.cells])
theorem yj {s:SS} (h:s.Ok) {gl:List (At × Bool)}:∀ {xs:List Operand} {vs:List At} {cs:List Ck},eO s gl xs=some (vs,cs)→∀ a,a ∈ vs→a.ok
 | [],_,_,hx=>by simp only[eO,Option.some.injEq,Prod.mk.injEq] at hx;rw[← hx.1];simp
 | x::r,vs,cs,hx=>by
  simp only[eO] at hx
  split at hx
  ·rename_i a' c as cs' h1 h2
   simp only[Option.some.injEq,Prod.mk.injEq] at hx
   rw[← hx.1]
   intro a ha
   rcases List.mem_cons.1 ha with rfl | ha
   ·exact y9 h h1
   ·exact yj h h2 a ha
  ·simp at hx
theorem eZ {F:Own} {s:SS} {H:Heap} {O:Own} {a:Act} {w:World} (h:Conc F s H O a w) {gl:List (At × Bool)}:∀ {xs:List Operand} {vs:List At} {cs:List Ck},
  eO s gl xs=some (vs,cs)→AllCk cs→On (li gl)→xs.map a.eval=vs.map At.den
 | [],_,_,hx,_,_=>by simp only[eO,Option.some.injEq,Prod.mk.injEq] at hx;rw[← hx.1];rfl
 | x::r,vs,cs,hx,hc,ho=>by
  simp only[eO] at hx
  split at hx
  ·rename_i a' c as cs' h1 h2
   simp only[Option.some.injEq,Prod.mk.injEq] at hx
   rw[← hx.2,AllCk.append] at hc
   rw[← hx.1,List.map_cons,List.map_cons,aP h h1 hc.1 ho,eZ h h2 hc.2 ho]
  ·simp at hx
theorem pm {F:Own} {s:SS} {H:Heap} {O:Own} {a:Act} {w:World} (h:Conc F s H O a w) {gl:List (At × Bool)}:∀ {xs:List Operand} {vs:List S1} {cs:List Ck},
  oM s gl xs=some (vs,cs)→AllCk cs→On (li gl)→xs.map a.eval=vs.map S1.den
 | [],_,_,hx,_,_=>by simp only[oM,Option.some.injEq,Prod.mk.injEq] at hx;rw[← hx.1];rfl
 | x::r,vs,cs,hx,hc,ho=>by
  simp only[oM] at hx
  split at hx
  ·rename_i a' c as cs' h1 h2
   simp only[Option.some.injEq,Prod.mk.injEq] at hx
   rw[← hx.2,AllCk.append] at hc
   rw[← hx.1,List.map_cons,List.map_cons,gy h h1 hc.1 ho,pm h h2 hc.2 ho]
  ·simp at hx
theorem jb {F:Own} {s:SS} {H:Heap} {O:Own} {a:Act} {w:World} (h:Conc F s H O a w) {ops:Array Oper} {o:Oper} {gl:List (At × Bool)}
  (hg:aI (bo ops) s o=.go gl):Region.wanted o (yielded ops a.tmps)=true ↔ On (li gl):=by
 unfold aI at hg
 split at hg
 ·rename_i e;simp only[GR.go.injEq] at hg;subst hg;simp[Region.wanted,e,li,On]
 ·rename_i j want e
  have hy:∀ t,bo ops j=some t→(Region.wanted o (yielded ops a.tmps)=true ↔ a.tmps.getD t undef=.bool want):=by
   intro t ht
   unfold bo at ht
   simp only[Region.wanted,e,yielded,ht,Option.bind_some,Array.getD_eq_getD_getElem?]
   cases hv:a.tmps[t]? with
   | none=>simp[undef]
   | some v=>cases v <;> simp
  split at hg
  ·simp at hg
  ·rename_i t ht
   have htm:=h.tm t
   rw[hy t ht]
   split at hg
   ·rename_i b hb
    rw[hb] at htm
    simp only[SV.rel,S1.den,At.den] at htm
    split at hg
    ·rename_i hbw;simp only[GR.go.injEq] at hg;subst hg;simp at hbw;simp[htm,hbw,li,On]
    ·simp at hg
   ·simp at hg
   ·rename_i c _ _ hb
    rw[hb] at htm
    split at hg
    ·rename_i hk
     simp only[GR.go.injEq] at hg;subst hg
     have:=gJ (x:=.at c) (by simpa [S1.known,S1.cells] using hk) htm
     rw[this];simp[li,On,S1.den]
    ·simp at hg
   ·rename_i gl' c hb
    rw[hb] at htm
    split at hg
    ·simp only[GR.go.injEq] at hg;subst hg
     rw[Hl]
     by_cases ho:On (li gl')
     ·rw[htm.1 ho];simp[S1.den,ho]
     ·rw[htm.2 ho];simp[undef,ho]
    ·simp at hg
   ·simp at hg
theorem Ce {F:Own} {s:SS} {H:Heap} {O:Own} {a:Act} {w:World} (h:Conc F s H O a w) {ops:Array Oper} {o:Oper}
  (hg:aI (bo ops) s o=.skip):Region.wanted o (yielded ops a.tmps)=false:=by
 unfold aI at hg
 split at hg
 ·simp at hg
 ·rename_i j want e
  have hy:∀ t,bo ops j=some t→a.tmps.getD t undef ≠ .bool want→Region.wanted o (yielded ops a.tmps)=false:=by
   intro t ht
   unfold bo at ht
   simp only[Region.wanted,e,yielded,ht,Option.bind_some,Array.getD_eq_getD_getElem?]
   cases hv:a.tmps[t]? with
   | none=>simp
   | some v=>cases v <;> simp
  split at hg
  ·simp at hg
  ·rename_i t ht
   have htm:=h.tm t
   refine hy t ht ?_
   split at hg
   ·rename_i b hb
    rw[hb] at htm
    simp only[SV.rel,S1.den,At.den] at htm
    split at hg
    ·simp at hg
    ·rename_i hbw;simp at hbw;simpa [htm] using hbw
   ·rename_i vs hb
    rw[hb] at htm
    simp only[SV.rel,S1.den,At.den] at htm
    simp[htm]
   ·split at hg <;> simp at hg
   ·split at hg <;> simp at hg
   ·simp at hg
def FK.pre (P:Program) (k:FK) (H:Heap) (O:Own) (vs:List Value):Prop :=
 match k with
 | .sil=>vs=[]
 | .pure gd op args=>∃ v,vs=[v]∧(On gd→al op args=some v)∧(gd=[]∨v.oneCell'=true)
 | .raw gd op args=>∃ v,vs=[v]∧(On gd→∀ w,(op.sem args).run P w=.ok (.value v) w)∧v.oneCell'=true
 | .load gd p m=>vs.length=m∧Ones vs∧(On gd→Reads H O p m vs)
 | .split c=>∃ b,c=.bool b∧vs=[.bool b]
 | .isplit c n=>∃ kd i,c=.int kd i∧0≤i∧i < n∧vs=[.int .i64 i]
def HK.T (P:Program):HK→Heap→Own→(Value→Heap→Own→Prop)→Prop
 | .call f args=>fun H O R=>Triple P f args H O R
 | .callv fv args=>fun H O R=>∃ f caps,fv=.func (.func f) #[] caps∧mc P f∧Triple P f (args++caps.toList) H O R
 | .callm m x args=>fun H O R=>∃ f r,w9 P m x f r∧mc P f∧Triple P f (r::args) H O R
 | .prim op args=>fun H O R=>ba P (op.sem args) H O R
def NF.run (P:Program) (d:Bool) (dst:Option Tmp) (x:NF) (s:SS) (K:SS→Heap→Own→Prop) (H:Heap) (O:Own):Prop :=
 match x with
 | .fl cs k X=>AllCk cs∧∃ vs,k.pre P H O vs∧K (s.set dst (X vs)) H O
 | .box cs n T cells val=>AllCk cs∧∀ r,K ((s.setBox n (some ⟨r,T,cells⟩)).set dst (.s (.at (val r)))) H O
 | .stb cs n b=>AllCk cs∧K (s.setBox n (some b)) H O
 | .hv cs k frz own shp post sv=>AllCk cs∧dc (k.T P) (d && k.isCall') (bvs frz) (bvs own) shp (fun vs css H O=>AllCk (post vs)∧K (nI dst frz own sv s vs css) H O) H O
 | .st cs p vs=>AllCk cs∧∃ O',uE O p vs O'∧K s H O'
theorem gA {P:Program} {Q:Value→Heap→Own→Prop} {H:Heap} {O:Own} {t:Tree}:∀ {cs:List Ck},
  (K8 cs t).den P Q H O→AllCk cs∧t.den P Q H O
 | [],h=>⟨trivial,h⟩
 | _::_,h=>⟨⟨h.1,(gA h.2).1⟩,(gA h.2).2⟩
theorem MZ {P:Program} {Q:Value→Heap→Own→Prop} {H:Heap} {O:Own} {c:Value} {kk:Nat→Tree}:∀ {n i:Nat},
  (HU c kk i n).den P Q H O→∃ (kd:IntKind) (j:Nat),c=.int kd j∧i≤j∧j < i + n∧(kk j).den P Q H O
 | 0,i,h=>h.elim
 | n + 1,i,h=>by
  obtain⟨kd,m,hc,h1,h2⟩:=h
  by_cases e:m=i
  ·exact⟨kd,i,by rw[hc,e],Nat.le_refl _,by omega,h1 e⟩
  ·obtain⟨kd',j,hc',hl,hu,hk⟩:=MZ (h2 e)
   exact⟨kd',j,hc',by omega,by omega,hk⟩
theorem np {T T':Heap→Own→(Value→Heap→Own→Prop)→Prop} {d:Bool} {frz own:List BV} {shp:Shp} {K K':List Value→List (List Value)→Heap→Own→Prop} {H:Heap} {O:Own}
  (hT:∀ H O R,T H O R→T' H O R) (hK:∀ vs cs H O,K vs cs H O→K' vs cs H O) (h:dc T d frz own shp K H O):dc T' d frz own shp K' H O:=by
 intro hcons
 obtain⟨H1,O1,O2,Q,hg,ht,hk⟩:=h hcons
 exact⟨H1,O1,O2,Q,hg,hT _ _ _ ht,fun v H' O' hq hle=>let ⟨vs,cs,O3,a,b,c,e,k⟩:=hk v H' O' hq hle;⟨vs,cs,O3,a,b,c,e,hK _ _ _ _ k⟩⟩
theorem J7 {P:Program} {Q:Value→Heap→Own→Prop} {d:Bool} {dst:Option Tmp} {x:NF} {s:SS} {kk:SS→Tree} {H:Heap} {O:Own}
  (h:(QY d dst x s kk).den P Q H O):x.run P d dst s (fun s' H' O'=>(kk s').den P Q H' O') H O:=by
 cases x with
 | fl cs k upd =>
  obtain⟨hc,h⟩:=gA h
  refine⟨hc,?_⟩
  cases k with
  | sil=>exact⟨[],rfl,h⟩
  | pure gd op args=>obtain⟨v,h1,h2,h3⟩:=h;exact⟨[v],⟨v,rfl,h1,h2⟩,h3⟩
  | raw gd op args=>obtain⟨v,h1,h2,h3⟩:=h;exact⟨[v],⟨v,rfl,h1,h2⟩,h3⟩
  | load gd p m=>obtain⟨vs,h1,h2,h3,h4⟩:=h;exact⟨vs,⟨h1,h2,h3⟩,h4⟩
  | split c =>
   obtain⟨b,hb,h1,h2⟩:=h
   refine⟨[.bool b],⟨b,hb,rfl⟩,?_⟩
   cases b
   ·exact h2 rfl
   ·exact h1 rfl
  | isplit c n =>
   obtain⟨kd,j,hc',_,hu,hk⟩:=MZ h
   exact⟨[.int .i64 j],⟨kd,j,hc',by omega,by omega,rfl⟩,hk⟩
 | box cs n T cells val=>exact gA h
 | stb cs n b=>exact gA h
 | hv cs k frz own shp post upd =>
  obtain⟨hc,h⟩:=gA h
  refine⟨hc,?_⟩
  cases k with
  | call f args =>
   show dc _ (d && true) _ _ _ _ _ _
   rw[Bool.and_true]
   exact np (fun _ _ _ x=>x) (fun _ _ _ _ x=>gA x) h
  | callv fv args =>
   obtain⟨f,caps,hf,hok,h⟩:=h
   show dc _ (d && true) _ _ _ _ _ _
   rw[Bool.and_true]
   exact np (fun _ _ _ x=>⟨f,caps,hf,hok,x⟩) (fun _ _ _ _ x=>gA x) h
  | callm m x args =>
   obtain⟨f,r,hf,hok,h⟩:=h
   show dc _ (d && true) _ _ _ _ _ _
   rw[Bool.and_true]
   exact np (fun _ _ _ x=>⟨f,r,hf,hok,x⟩) (fun _ _ _ _ x=>gA x) h
  | prim op args =>
   show dc _ (d && false) _ _ _ _ _ _
   rw[Bool.and_false]
   exact np (fun _ _ _ x=>x) (fun _ _ _ _ x=>gA x) h
 | st cs p vs=>exact gA h
def wp1 (P:Program) (ops:Array Oper) (Q:Exit→Act→World→Prop) (o:Oper) (K:Act→World→Prop) (a:Act) (w:World):Prop :=
 if Region.wanted o (yielded ops a.tmps) then o.wp P a w K Q∨(o.asks P a w∧LetsOut Q) else K (a.put o.dst undef) w
def Sound (P:Program) (ops:Array Oper) (o:Oper) (s:SS) (x:NF):Prop :=
 ∀ (F:Own) (H:Heap) (O:Own) (a:Act) (w:World) (d:Bool) (K:SS→Heap→Own→Prop) (Q:Exit→Act→World→Prop),
  Conc F s H O a w→x.run P d o.dst s K H O →
  wp1 P ops Q o (fun a' w'=>∃ s' H' O',Conc F s' H' O' a' w'∧Heap.le H H'∧K s' H' O') a w
theorem gq {a:At} (h:a.ok):(S1.at a).ok:=by intro b hb;simp[S1.cells] at hb;subst hb;exact h
theorem EZ (v:Value):(S1.at (.k v)).ok:=gq trivial
theorem JO {P:Program} {ops:Array Oper} {o:Oper} {s:SS} (hg:aI (bo ops) s o=.skip) (hd:∀ d,o.dst=some d→d < s.sz) :
  Sound P ops o s (.fl [] .sil (fun _=>.s (.at (.k undef)))):=by
 intro F H O a w d K Q hc hr
 obtain⟨_,vs,_,hk⟩:=hr
 unfold wp1
 rw[if_neg (by simp[Ce hc hg])]
 exact⟨_,H,O,hc.put (sv:=.s (.at (.k undef))) hd (show undef=At.den (.k undef) from rfl) (EZ undef),Heap.le_refl H,hk⟩
theorem bQ {P:Program} {ops:Array Oper} {o:Oper} {s:SS} {gl:List (At × Bool)} {cs:List Ck} {k:FK} {X:List Value→S1}
  (hg:aI (bo ops) s o=.go gl) (hd:∀ d,o.dst=some d→d < s.sz)
  (hok:∀ H O vs,s.Ok→AllCk cs→k.pre P H O vs→(X vs).ok)
  (hrun:∀ F H O a w vs,Conc F s H O a w→AllCk cs→k.pre P H O vs→On (li gl)→(execOp a.eval o).run P w=.ok (.value (X vs).den) w) :
  Sound P ops o s (.fl cs k (fun vs=>Bt gl (X vs))):=by
 intro F H O a w d K Q hc hr
 obtain⟨hcs,vs,hp,hk⟩:=hr
 unfold wp1
 by_cases ho:On (li gl)
 ·rw[if_pos ((jb hc hg).2 ho)]
  refine .inl ?_
  unfold Oper.wp
  rw[hrun F H O a w vs hc hcs hp ho,Oper.upon_value]
  exact⟨_,H,O,hc.put hd (I5 (fun _=>rfl) (fun h=>absurd ho h)) (MA (hok H O vs hc.ok hcs hp)),Heap.le_refl H,hk⟩
 ·rw[if_neg (fun h=>ho ((jb hc hg).1 h))]
  exact⟨_,H,O,hc.put hd (I5 (fun h=>absurd h ho) (fun _=>rfl)) (MA (hok H O vs hc.ok hcs hp)),Heap.le_refl H,hk⟩
theorem Gu {op:POp} {args:List Value} {v:Value} (h:al op args=some v) (ha:op=.pick∨op=.aidx→Ones args.tail):v.oneCell'=true:=by
 have hg:∀ (l:List Value) (i:Nat) (x:Value),Ones l→l[i]?=some x→x.oneCell'=true:=by
  intro l
  induction l with
  | nil=>intro i x _ hx;simp at hx
  | cons y r ih =>
   intro i x ho hx
   cases i with
   | zero=>simp at hx;subst hx;exact ho.1
   | succ i=>exact ih i x ho.2 (by simpa using hx)
 have hint:∀ op k a b v,bq op k a b=some v→v.oneCell'=true:=by
  intro op k a b v h
  cases op <;> simp only[bq] at h <;> first
   | (simp at h;done)
   | (simp only[Option.some.injEq] at h;subst h;rfl)
   | (split at h <;> first | (simp at h;done) | (simp only[Option.some.injEq] at h;subst h;rfl))
 have hnil:∀ op bk x y v,Eu op bk x y=some v→v.oneCell'=true:=by
  intro op bk x y v h
  cases op <;> simp only[Eu] at h <;> first
   | (simp at h;done)
   | (simp only[Option.map_eq_some_iff] at h;obtain⟨b,_,rfl⟩:=h;rfl)
 cases op with
 | bin op bk =>
  match args,h with
  | [x,y],h =>
   simp only[al] at h
   unfold bA at h
   split at h
   ·split at h
    ·unfold mK at h;split at h
     ·simp at h
     ·simp only[Option.some.injEq] at h;subst h;rfl
    ·unfold mK at h;split at h
     ·simp at h
     ·simp only[Option.some.injEq] at h;subst h;rfl
    ·split at h
     ·exact hint _ _ _ _ _ h
     ·simp at h
   ·unfold vB at h
    split at h
    ·split at h
     ·simp at h
     ·simp only[Option.some.injEq] at h;subst h;rfl
    ·simp only[Option.some.injEq] at h;subst h;rfl
    ·simp only[Option.some.injEq] at h;subst h;rfl
    ·simp at h
   ·exact hnil _ _ _ _ _ h
  | [],h=>simp[al] at h
  | [_],h=>simp[al] at h
  | _::_::_::_,h=>simp[al] at h
 | pick =>
  have ho:=ha (.inl rfl)
  rcases args with _ | ⟨c,_ | ⟨x,_ | ⟨y,_ | ⟨u,r⟩⟩⟩⟩
  ·simp[al] at h
  ·simp[al] at h
  ·simp[al] at h
  ·cases c <;> simp only[al,reduceCtorEq,Option.some.injEq] at h
   rename_i b
   cases b
   ·simp only[Bool.false_eq_true,if_false] at h;subst h;exact ho.2.1
   ·simp only[if_true] at h;subst h;exact ho.1
  ·simp[al] at h
 | aidx =>
  have ho:=ha (.inr rfl)
  match args,h,ho with
  | [],h,_=>simp[al] at h
  | i::cs,h,ho =>
   simp only[al,nO] at h
   split at h
   ·split at h
    ·exact hg _ _ _ ho h
    ·simp at h
   ·simp at h
 | _ =>
  unfold al at h
  split at h <;> simp_all
  all_goals try (subst h;rfl)
  all_goals first
   | exact hint _ _ _ _ _ h
   | (unfold nN at h;split at h <;> first | (simp at h;done) | (split at h <;> simp at h;subst h;rfl))
   | (unfold fA at h;split at h <;> first | (simp at h;done) | (split at h <;> simp at h;subst h;rfl))
   | (unfold yr at h;split at h <;> first | (simp at h;done) | (simp only[Option.map_eq_some_iff] at h;obtain⟨_,_,rfl⟩:=h;rfl))
   | (split at h <;> first | (simp at h;done) | (unfold js at h;split at h <;> first | (simp at h;done) | (simp only[Option.map_eq_some_iff] at h;obtain⟨_,_,rfl⟩:=h;rfl)))
   | (split at h <;> first | (simp at h;done) | (unfold yq at h;split at h <;> first | (simp at h;done) | (simp only[Option.map_eq_some_iff] at h;obtain⟨_,_,rfl⟩:=h;rfl)))
theorem ar {P:Program} {t:TypeId} {d:TypeDesc} (h:P.underlying t=some d) (w:World):(underlying t).run P w=.ok d w:=by
 simp[underlying,h]
theorem E6 {P:Program} {t:TypeId} {m:Nat} (h:kO P t=some m):∃ i d,P.info? t=some i∧i.size=m∧P.underlying t=some d:=by
 unfold kO at h
 split at h
 ·rename_i i d h1 h2;exact⟨i,d,h1,by simpa using h,h2⟩
 ·simp at h
theorem aW {P:Program} {t:TypeId} {m:Nat} (h:kO P t=some m) (w:World):(sizeOf t).run P w=.ok m w:=by
 obtain⟨i,d,hi,hs,_⟩:=E6 h
 simp[sizeOf,typeInfo,hi,hs]
theorem qI {P:Program} {t:TypeId} {m:Nat} (h:kO P t=some m) (w:World):(isAgg t).run P w=.ok (dS P t) w:=by
 obtain⟨i,d,_,_,hu⟩:=E6 h
 unfold isAgg dS
 rw[Sem.run_bind,ar hu w,hu]
 cases d <;> rfl
theorem kQ {P:Program} {t:TypeId} {m:Nat} (hs:kO P t=some m) {w:World} {a:Addr} {vs:List Value} (hl:vs.length=m)
  (hc:∀ j v,vs[j]?=some v→w.cell? (a.add j)=some v) (h1:dS P t=true∨m=1) :
  (loadVar t a).run P w=.ok (if dS P t then .agg vs.toArray else g vs 0) w:=by
 unfold loadVar
 rw[Sem.run_bind,qI hs w]
 simp only[Result.andThen_ok]
 cases hA:dS P t with
 | true =>
  have hl':=run_loadCells_list (P:=P) w a vs hc
  rw[hl] at hl'
  simp[Sem.run_bind,aW hs w,hl']
 | false =>
  have hm:m=1:=h1.resolve_left (by simp[hA])
  match vs,hl with
  | [v],_ =>
   have:=hc 0 v rfl
   have h0:a.add 0=a:=by simp[Addr.add]
   rw[h0] at this
   simp[run_load,this,g]
  | [],hl=>simp[hm] at hl
  | _::_::_,hl=>simp[hm] at hl
theorem EB {F:Own} {s:SS} {H:Heap} {O:Own} {a:Act} {w:World} (h:Conc F s H O a w) {n:Nat} {b:Bx} (hb:s.mem n=some b) :
  ∃ vs,CellsRel b.cs vs∧w.heap[b.r]?=some (.cells vs.toArray b.T (0,0)):=by
 obtain⟨L,hL,hm⟩:=h.mm
 obtain⟨vs,L',hv,hp,_⟩:=hL.take hb
 refine⟨vs,hv,?_⟩
 have:=(hm.perm (hp.append_right _)).own (b.r,.cells vs.toArray b.T (0,0)) (by simp)
 exact this.1
theorem bK (r off j:Nat):(⟨r,off,none⟩:Addr).add j=⟨r,off + j,none⟩:=by
 unfold Addr.add;split <;> simp_all
theorem vP (a:Addr) (i j:Nat):(a.add i).add j=a.add (i + j):=by
 cases a
 by_cases hi:i=0 <;> by_cases hj:j=0 <;> simp[Addr.add,hi,hj,Nat.add_assoc]
theorem ln {w:World} {r:Nat} {vs:List Value} {T:TypeId} (h:w.heap[r]?=some (.cells vs.toArray T (0,0))) (off:Nat) {m:Nat} :
  ∀ j v,((vs.drop off).take m)[j]?=some v→w.cell? ((⟨r,off,none⟩:Addr).add j)=some v:=by
 intro j v hv
 rw[bK,cell_of_row w r (off + j) _ T _ h]
 rw[List.getElem?_take] at hv
 split at hv
 ·rw[List.getElem?_drop] at hv;simpa using hv
 ·simp at hv
theorem qN {α β:Type} {f:α→Option β}:∀ {l:List α} {r:List β},l.mapM f=some r→∀ (j:Nat) (v:β),r[j]?=some v→∃ a,l[j]?=some a∧f a=some v
 | [],r,h,j,v,hv=>by simp at h;subst h;simp at hv
 | a::l,r,h,j,v,hv=>by
  simp only[List.mapM_cons,Option.pure_def,Option.bind_eq_bind] at h
  cases ha:f a with
  | none=>simp[ha] at h
  | some b =>
   simp only[ha,Option.bind_some] at h
   cases hl:l.mapM f with
   | none=>simp[hl] at h
   | some bs =>
    simp only[hl,Option.bind_some,Option.some.injEq] at h
    subst h
    cases j with
    | zero=>simp at hv;subst hv;exact⟨a,rfl,ha⟩
    | succ j=>simpa using qN hl j v (by simpa using hv)
theorem HC {w:World} {H:Heap} {O L:Own} {p:Value} {m:Nat} {vs:List Value} (h:Reads H O p m vs) (hm:Models w H L) (hs:∀ x,x ∈ O→x ∈ L) (h0:0 < m) :
  ∃ a,p=.pointer (some a)∧∀ j v,vs[j]?=some v→w.cell? (a.add j)=some v:=by
 rcases h with h | ⟨a,cs,T,rfl,hsp,hin,hv,_⟩
 ·unfold Heap.read at h
  split at h
  ·rename_i a
   refine⟨a,rfl,fun j v hv=>?_⟩
   obtain⟨i,hi,hc⟩:=qN h j v hv
   have:i=j:=by
    rw[List.getElem?_eq_some_iff] at hi
    obtain⟨_,hi⟩:=hi
    simpa using hi.symm
   subst this
   exact hm.cell? hc
  ·simp at h
 ·refine⟨a,rfl,fun j v hj=>?_⟩
  have hrow:=(hm.own _ (hs _ hin)).1
  rw[← hv] at hj
  have ha:a=⟨a.block,a.off,none⟩:=by cases a;simp_all
  rw[ha]
  have:=ln (vs:=cs.toList) (T:=T) (by simpa using hrow) a.off (m:=m) j v hj
  exact this
theorem Ag {vs:List Value} {m:Nat} (h:vs.length=m):(atsFrom vs 0 m).map At.den=vs:=by
 have:=(CellsRel.atsFrom h).known (by simp[atsFrom,At.known])
 exact this.symm
theorem Ones.get:∀ {vs:List Value},Ones vs→∀ i,i < vs.length→(g vs i).oneCell'=true
 | [],_,i,h=>by simp at h
 | v::_,h,0,_=>h.1
 | _::r,h,i + 1,hi=>by simpa [g] using Ones.get (vs:=r) h.2 i (by simpa using hi)
theorem mC {vs:List Value} {i m:Nat} (h:i + m≤vs.length) (ho:Ones vs):∀ a,a ∈ atsFrom vs i m→a.ok:=by
 intro a ha
 simp only[atsFrom,List.mem_map,List.mem_range] at ha
 obtain⟨j,hj,rfl⟩:=ha
 exact ho.get _ (by omega)
variable {P:Program} {ops:Array Oper} {o:Oper} {s:SS} {gl:List (At × Bool)}
theorem F9 {t:TypeId} {x:Operand} {y:At} {cs:List Ck} {nfp:NF × FP} (ho:o.op=.load t x) (hx:jq s gl x=some (y,cs))
    (hg:aI (bo ops) s o=.go gl) (hd:∀ d,o.dst=some d→d < s.sz) (h:wa P s gl o.dst t y cs=some nfp):Sound P ops o s nfp.1:=by
  unfold wa at h
  cases hm:kO P t with
  | none=>simp[hm] at h
  | some m =>
    simp only[hm,Option.bind_some] at h
    have far:(dS P t=true∨m=1)→Sound P ops o s (.fl cs (.load (li gl) y.den m) (fun vs=>Bt gl (if dS P t then .agg (atsFrom vs 0 m) else .at (.v (g vs 0))))):=by
      intro h1
      refine bQ (X:=fun vs=>if dS P t then .agg (atsFrom vs 0 m) else .at (.v (g vs 0))) hg hd ?_ ?_
      · intro H O vs _ _ ⟨hl,hone,_⟩
        split
        · exact mC (by omega) hone
        · rename_i hA
          have:m=1:=h1.resolve_left hA
          exact gq (hone.get 0 (by omega))
      · intro F H O a w vs hc hcs ⟨hl,hone,hr⟩ hon
        have he:=aP hc hx hcs hon
        have hr:=hr hon
        by_cases h0:m=0
        · have hA:dS P t=true:=h1.resolve_right (by omega)
          obtain⟨b,hb⟩:∃ b,y.den=.pointer (some b):=by
            rcases hr with hr | ⟨b,_,_,hb,_⟩
            · unfold Heap.read at hr;split at hr
              · rename_i b hb;exact⟨b,hb⟩
              · simp at hr
            · exact⟨b,hb⟩
          have hv:vs=[]:=List.eq_nil_of_length_eq_zero (by omega)
          subst hv
          have:=kQ (P:=P) hm (w:=w) (a:=b) (vs:=[]) (by simpa using h0.symm) (by simp) (.inl hA)
          simp only[execOp,ho,he,hb,Instr.loadAt,Instr.sureAddr,Sem.run_bind,Sem.run_pure,Result.andThen_ok,this,hA,if_true]
          simp[S1.den,atsFrom,h0]
        · obtain⟨L,hL,hmod⟩:=hc.mm
          obtain⟨b,hb,hcell⟩:=HC hr hmod (fun x hx=>by simp[hx]) (by omega)
          have:=kQ (P:=P) hm (w:=w) (a:=b) (vs:=vs) hl hcell h1
          simp only[execOp,ho,he,hb,Instr.loadAt,Instr.sureAddr,Sem.run_bind,Sem.run_pure,Result.andThen_ok,this]
          cases hA:dS P t with
          | true=>simp[S1.den,Ag hl]
          | false=>simp[S1.den,At.den]
    have near:∀ {n r off:Nat} {b:Bx} {v:S1},y=.p n r off→s.mem n=some b→((b.cs.drop off).take m).length=m→((b.cs.drop off).take m).all At.known=true →
        K6 P t ((b.cs.drop off).take m)=some v→Sound P ops o s (.fl (.eqN r b.r::cs) .sil (fun _=>Bt gl v)):=by
      intro n r off b v hy hb hlen hk hv
      refine bQ (X:=fun _=>v) hg hd ?_ ?_
      · intro H O vs hok _ _ a ha
        have:∀ a,a ∈ v.cells→a ∈ b.cs:=by
          intro a ha
          unfold K6 at hv
          split at hv
          · simp only[Option.some.injEq] at hv;subst hv;exact List.mem_of_mem_drop (List.mem_of_mem_take ha)
          · split at hv
            · rename_i a' he;simp only[Option.some.injEq] at hv;subst hv
              simp[S1.cells] at ha;subst ha
              have:a ∈ (b.cs.drop off).take m:=by rw[he];simp
              exact List.mem_of_mem_drop (List.mem_of_mem_take this)
            · simp at hv
        exact hok.2 n b hb a (this a ha)
      · intro F H O a w vs hc hcs _ hon
        have he:=aP hc hx hcs.2 hon
        have hr:r=b.r:=hcs.1
        obtain⟨us,hus,hrow⟩:=EB hc hb
        have hcells:=((hus.drop off).take m).known hk
        have hlen':((us.drop off).take m).length=m:=by rw[hcells];simpa using hlen
        have h1:dS P t=true∨m=1:=by
          unfold K6 at hv
          split at hv
          · rename_i hA;exact .inl hA
          · split at hv
            · rename_i a' he';rw[he'] at hlen;exact .inr (by simpa using hlen.symm)
            · simp at hv
        have:=kQ (P:=P) hm (w:=w) (a:=⟨b.r,off,none⟩) hlen' (ln hrow off) h1
        simp only[execOp,ho,he,hy,At.den,hr,Instr.loadAt,Instr.sureAddr,Sem.run_bind,Sem.run_pure,Result.andThen_ok,this]
        rw[hcells]
        unfold K6 at hv
        split at hv
        · rename_i hA;simp only[Option.some.injEq] at hv;subst hv;simp[hA,S1.den]
        · rename_i hA
          split at hv
          · rename_i a' he';simp only[Option.some.injEq] at hv;subst hv
            have hA':dS P t=false:=by simpa using hA
            rw[he'];simp[hA',S1.den,g]
          · simp at hv
    split at h
    · rename_i n r off
      split at h
      · rename_i b hb
        split at h
        · rename_i hcond
          simp only[Bool.and_eq_true,decide_eq_true_eq] at hcond
          simp only[Option.map_eq_some_iff] at h
          obtain⟨v,hv,rfl⟩:=h
          exact near rfl hb hcond.1 hcond.2 hv
        · simp at h
      · split at h
        · simp at h
        · rename_i hcond
          simp only[Option.some.injEq] at h;subst h
          refine far ?_
          simp only[Bool.and_eq_true,Bool.not_eq_true',bne_iff_ne,ne_eq,not_and,Decidable.not_not] at hcond
          cases hA:dS P t with
          | true=>exact .inl rfl
          | false=>exact .inr (hcond hA)
    all_goals first
      | (simp at h;done)
      | (split at h
         · simp at h
         · rename_i hcond
           simp only[Option.some.injEq] at h;subst h
           refine far ?_
           simp only[Bool.and_eq_true,Bool.not_eq_true',bne_iff_ne,ne_eq,not_and,Decidable.not_not] at hcond
           cases hA:dS P t with
           | true=>exact .inl rfl
           | false=>exact .inr (hcond hA))
theorem FO:∀ {as:List At} {vs:List Value},as.mapM y6=some vs→as.map At.den=vs
 | [],vs,h=>by simp at h;subst h;rfl
 | a::r,vs,h=>by
  simp only[List.mapM_cons,Option.pure_def,Option.bind_eq_bind] at h
  cases ha:y6 a with
  | none=>simp[ha] at h
  | some b =>
   simp only[ha,Option.bind_some] at h
   cases hl:r.mapM y6 with
   | none=>simp[hl] at h
   | some bs =>
    simp only[hl,Option.bind_some,Option.some.injEq] at h
    subst h
    rw[List.map_cons,FO hl]
    unfold y6 at ha
    split at ha <;> simp at ha <;> subst ha <;> rfl
theorem Je {as:List At} (hf:∀ a,a ∈ as→a.fit=true) (ho:∀ a,a ∈ as→a.ok):Ones (as.map At.den):=by
 induction as with
 | nil=>trivial
 | cons a r ih=>exact⟨At.fit_one (hf a (by simp)) (ho a (by simp)),ih (fun b hb=>hf b (by simp[hb])) (fun b hb=>ho b (by simp[hb]))⟩
variable {P:Program} {ops:Array Oper} {o:Oper} {s:SS} {gl:List (At × Bool)}
theorem bc {total:Bool} {op:POp} {as:List At} {cs:List Ck}
  (hg:aI (bo ops) s o=.go gl) (hd:∀ d,o.dst=some d→d < s.sz)
  (hfit:op=.pick∨op=.aidx→Ones (as.map At.den).tail∨¬ s.Ok)
  (hexec:∀ F H O a w v,Conc F s H O a w→AllCk cs→On (li gl)→al op (as.map At.den)=some v→(execOp a.eval o).run P w=.ok (.value v) w) :
  Sound P ops o s (fE gl total o.dst op as cs):=by
 unfold fE
 split
 ·rename_i v hv
  unfold PZ at hv
  simp only[Option.bind_eq_some_iff] at hv
  obtain⟨vs,hvs,hev⟩:=hv
  refine bQ (X:=fun _=>.at (.k v)) hg hd (fun _ _ _ _ _ _=>EZ v) ?_
  intro F H O a w _ hc hcs _ hon
  exact hexec F H O a w v hc hcs hon (by rw[FO hvs];exact hev)
 ·refine bQ (X:=fun vs=>.at (.v (g vs 0))) hg hd ?_ ?_
  ·rintro H O vs hok _ ⟨v,rfl,he,hone⟩
   refine gq ?_
   show v.oneCell'=true
   rcases hone with h0 | h1
   ·have he:=he (by rw[h0];trivial)
    exact Gu he (fun h=>(hfit h).resolve_right (fun hn=>hn hok))
   ·exact h1
  ·rintro F H O a w vs hc hcs ⟨v,rfl,he,_⟩ hon
   exact hexec F H O a w v hc hcs hon (he (by cases total <;> simp[hon,On]))
theorem o6 {op:BinOp} {t:TypeId} {x y:Operand} {X Y:Value} (h:¬ (X=.nilIface∧Y=.nilIface)) (h':∀ a b,¬ (X=.agg a∧Y=.agg b)) (w:World) :
    (eqGuard op t x y X Y).run P w=.ok () w:=by
  unfold eqGuard
  cases op <;> first
    | rfl
    | (simp only[Bool.not_true,Bool.false_eq_true,if_false]
       split
       · exact absurd ⟨rfl,rfl⟩ h
       · exact absurd ⟨rfl,rfl⟩ (h' _ _)
       · rfl)

theorem RI {op:BinOp} {t:TypeId} {k:IntKind} {a b:Int} {v:Value} (hs:op ≠ .shl) (hs':op ≠ .shr) (h:bq op k a b=some v) (w:World) :
    (binOp op t (.int k a) (.int k b)).run P w=.ok v w:=by
  cases op <;> simp only[bq] at h <;> first
    | (simp at h;done)
    | exact absurd rfl hs
    | exact absurd rfl hs'
    | (simp only[Option.some.injEq] at h;subst h;simp[binOp,Op.intArith,Op.intCmp,Op.intBits];done)
    | (split at h
       · simp at h
       · rename_i h0;simp only[Option.some.injEq] at h;subst h;simp[binOp,Op.intDiv,h0])

theorem Fg {op:BinOp} {t:TypeId} {k k':IntKind} {a b:Int} {v:Value} (h:mK op k a b=some v) (hs:op=.shl∨op=.shr) (w:World) :
  (binOp op t (.int k a) (.int k' b)).run P w=.ok v w:=by
 unfold mK at h
 split at h
 ·simp at h
 ·rename_i h0
  rcases hs with rfl | rfl <;> simp only[Option.some.injEq] at h <;> subst h <;> simp[binOp,Op.shift,h0]
theorem RH {op:BinOp} {t:TypeId} {a b:ByteArray} {v:Value} (h:vB op a b=some v) (w:World) :
  (binOp op t (.string a) (.string b)).run P w=.ok v w:=by
 unfold vB at h
 split at h
 ·split at h
  ·simp at h
  ·rename_i h0
   simp only[Option.some.injEq] at h;subst h
   simp only[binOp,Op.stringOp,if_neg h0];rfl
 ·simp only[Option.some.injEq] at h;subst h;simp[binOp,Op.stringOp]
 ·simp only[Option.some.injEq] at h;subst h;simp[binOp,Op.stringOp]
 ·simp at h
def BK.fits:BK→TypeDesc→Prop
 | .int,.int _ | .bool,.bool | .str,.string | .slice,.slice _ | .ptr,.pointer _ | .map,.map _ _ | .func,.func _ _ _=>True
 | _,_=>False
theorem TM {t:TypeId} {bk:BK} (h:U4 P t=some bk):∃ d,P.underlying t=some d∧bk.fits d:=by
 unfold U4 at h
 split at h <;> first
  | (simp at h;done)
  | (rename_i e;simp only[Option.some.injEq] at h;subst h;exact⟨_,e,trivial⟩)
theorem yM {t:TypeId} {bk:BK} {d:TypeDesc} (hd:P.underlying t=some d) (hm:bk.fits d) {x y:Value} {r:Bool} (h:Oy bk x y=some r) (n:Nat) (w:World) :
  (Op.equalIn (n + 1) t x y).run P w=.ok r w:=by
 simp only[Op.equalIn,Sem.run_bind,ar hd w,Result.andThen_ok]
 unfold Oy at h
 split at h <;> simp only[Option.some.injEq,reduceCtorEq] at h <;> subst h <;> cases d <;> simp_all [BK.fits]
 all_goals first
  | rfl
  | (rename_i b _ _ _;cases b <;> rfl)
  | (rename_i b _ _;cases b <;> rfl)
  | (rename_i b _;cases b <;> rfl)
  | (rename_i b;cases b <;> rfl)
  | skip
theorem DC {t:TypeId} {bk:BK} {d:TypeDesc} (hd:P.underlying t=some d) (hm:bk.fits d) {x y:Value} {r:Bool} (h:Oy bk x y=some r) (w:World) :
  (Op.equal t x y).run P w=.ok r w:=yM hd hm h 9999 w
theorem RJ {op:BinOp} {t:TypeId} {bk:BK} (hb:U4 P t=some bk) {x y:Operand} {X Y:Value} {v:Value} (h:bA op bk X Y=some v) (w:World) :
  (do eqGuard op t x y X Y;binOp op t X Y:Sem Value).run P w=.ok v w:=by
 unfold bA at h
 split at h
 ·rename_i k a k' b
  rw[Sem.run_bind,o6 (by simp) (by simp) w,Result.andThen_ok]
  split at h
  ·exact Fg h (.inl rfl) w
  ·exact Fg h (.inr rfl) w
  ·rename_i h1 h2
   split at h
   ·rename_i e;subst e;exact RI h1 h2 h w
   ·simp at h
 ·rw[Sem.run_bind,o6 (by simp) (by simp) w,Result.andThen_ok]
  exact RH h w
 ·obtain⟨d,hd,hm⟩:=TM hb
  have key:∀ r,Oy bk X Y=some r→(eqGuard op t x y X Y).run P w=.ok () w∧(Op.equal t X Y).run P w=.ok r w ∧
    (binOp .eql t X Y=do pure (.bool (← Op.equal t X Y)))∧(binOp .neq t X Y=do pure (.bool (!(← Op.equal t X Y)))):=by
   intro r hr
   refine⟨o6 ?_ ?_ w,DC hd hm hr w,?_,?_⟩
   ·rintro ⟨rfl,rfl⟩;unfold Oy at hr;split at hr <;> simp_all
   ·rintro a b ⟨rfl,rfl⟩;unfold Oy at hr;split at hr <;> simp_all
   ·unfold Oy at hr;split at hr <;> simp_all [binOp]
   ·unfold Oy at hr;split at hr <;> simp_all [binOp]
  unfold Eu at h
  split at h
  ·simp only[Option.map_eq_some_iff] at h
   obtain⟨r,hr,rfl⟩:=h
   obtain⟨h1,h2,h3,_⟩:=key r hr
   rw[Sem.run_bind,h1,Result.andThen_ok,h3,Sem.run_bind,h2];rfl
  ·simp only[Option.map_eq_some_iff] at h
   obtain⟨r,hr,rfl⟩:=h
   obtain⟨h1,h2,_,h4⟩:=key r hr
   rw[Sem.run_bind,h1,Result.andThen_ok,h4,Sem.run_bind,h2];rfl
  ·simp at h
variable {P:Program} {ops:Array Oper} {o:Oper} {s:SS} {gl:List (At × Bool)}
theorem LK {t elem:TypeId} {size:Nat} (hu:P.underlying t=some (.slice elem)) (hs:kO P elem=some size) {x i v:Value} (h:nN size x i=some v) (w:World) :
  (Instr.indexAt t x i).run P w=.ok v w:=by
 unfold nN at h
 split at h
 ·rename_i a len c k n
  split at h
  ·rename_i hb
   simp only[Option.some.injEq] at h;subst h
   simp[Instr.indexAt,asIntOf,ar hu,aW hs,hb]
  ·simp at h
 ·simp at h
theorem IV {t elem:TypeId} {len size:Nat} (hu:P.underlying t=some (.array len elem)) (hs:kO P elem=some size) {x i v:Value} (h:fA len size x i=some v) (w:World) :
  (Instr.indexAt t x i).run P w=.ok v w:=by
 unfold fA at h
 split at h
 ·rename_i a k n
  split at h
  ·rename_i hb
   simp only[Option.some.injEq] at h;subst h
   simp[Instr.indexAt,asIntOf,ar hu,aW hs,hb,Instr.sureAddr]
  ·simp at h
 ·simp at h
theorem OT {t:TypeId} (hu:P.underlying t=some .string) {x i v:Value} (h:yr x i=some v) (w:World):(Instr.index t x i).run P w=.ok v w:=by
 unfold yr at h
 split at h
 ·rename_i sb k n
  simp only[Option.map_eq_some_iff] at h
  obtain⟨b,hb,rfl⟩:=h
  simp only[Instr.index,asIntOf,Sem.run_bind,Sem.run_pure,Result.andThen_ok,ar hu,hb]
 ·simp at h
theorem IZ {t elem:TypeId} {len:Nat} {cs:List Value} (hu:P.underlying t=some (.array len elem)) (hs:kO P elem=some 1) (hA:dS P elem=false) (hl:cs.length=len)
  {i v:Value} (h:nO i cs=some v) (w:World):(Instr.index t (.agg cs.toArray) i).run P w=.ok v w:=by
 unfold nO at h
 split at h
 ·rename_i k n
  split at h
  ·rename_i hb
   rw[hl] at hb
   simp only[Instr.index,asIntOf,Sem.run_bind,Sem.run_pure,Result.andThen_ok,ar hu,if_pos hb,aW hs,part,qI hs,hA,Nat.mul_one]
   have:cs.toArray[n.toNat]?=some v:=by simpa using h
   simp[this]
  ·simp at h
 ·simp at h
theorem LJ {t ty e:TypeId} {x v:Value} (hu:P.underlying t=some (.slice e)) (h:al .len [x]=some v) (w:World) :
  (Builtin.len_ #[t] ty #[x]).run P w=.ok v w:=by
 cases x <;> simp[al] at h
 subst h
 simp[Builtin.len_,ar hu]
theorem OS {t ty:TypeId} {x v:Value} (hu:P.underlying t=some .string) (h:al .slen [x]=some v) (w:World) :
  (Builtin.len_ #[t] ty #[x]).run P w=.ok v w:=by
 cases x <;> simp[al] at h
 subst h
 simp[Builtin.len_,ar hu]
theorem OU {t ty e:TypeId} {n:Nat} {x:Value} (hu:P.underlying t=some (.array n e)) (w:World) :
  (Builtin.len_ #[t] ty #[x]).run P w=.ok (goInt n) w:=by
 simp[Builtin.len_,ar hu]
theorem LL {t ty e:TypeId} {x v:Value} (hu:P.underlying t=some (.slice e)) (h:al .cap [x]=some v) (w:World) :
  (Builtin.cap_ #[t] ty #[x]).run P w=.ok v w:=by
 cases x <;> simp[al] at h
 subst h
 simp[Builtin.cap_,ar hu]
theorem il {v:Value} {y n:Nat} (h:pY v y=some n) (code:BoundsCode) (w:World):(Instr.sliceBound v y code).run P w=.ok n w:=by
 unfold pY asI at h
 cases v <;> simp at h
 rename_i k i
 obtain⟨hb,rfl⟩:=h
 simp[Instr.sliceBound,asIntOf,hb]
theorem vM {isSlice:Bool} {len cap l h m:Nat} {lo hi mx:Option Value} (hb:ce len cap lo hi mx=some (l,h,m)) (w:World) :
  (Instr.sliceBounds isSlice len cap lo hi mx).run P w=.ok (l,h,m) w:=by
 unfold ce at hb
 simp only[Option.bind_eq_some_iff,Option.some.injEq,Prod.mk.injEq] at hb
 obtain⟨m',hm,h',hh,l',hl,rfl,rfl,rfl⟩:=hb
 cases mx with
 | none =>
  simp only[cK,Option.some.injEq] at hm;subst hm
  cases hi with
  | none =>
   simp only[eS,Option.isSome_none,Bool.false_eq_true,if_false,Option.some.injEq] at hh;subst hh
   cases lo with
   | none=>simp only[cK,Option.some.injEq] at hl;subst hl;rfl
   | some v=>simp only[cK] at hl;simp[Instr.sliceBounds,il hl]
  | some u =>
   simp only[eS] at hh
   cases lo with
   | none=>simp only[cK,Option.some.injEq] at hl;subst hl;simp[Instr.sliceBounds,il hh]
   | some v=>simp only[cK] at hl;simp[Instr.sliceBounds,il hh,il hl]
 | some x =>
  simp only[cK] at hm
  cases hi with
  | none=>simp[eS] at hh
  | some u =>
   simp only[eS] at hh
   cases lo with
   | none=>simp only[cK,Option.some.injEq] at hl;subst hl;simp[Instr.sliceBounds,il hm,il hh]
   | some v=>simp only[cK] at hl;simp[Instr.sliceBounds,il hm,il hh,il hl]
theorem LI {t elem:TypeId} {size:Nat} (hu:P.underlying t=some (.slice elem)) (hs:kO P elem=some size) {x v:Value} {lo hi mx:Option Value} (h:js size x lo hi mx=some v) (w:World) :
  (Instr.sliceAt t x lo hi mx).run P w=.ok v w:=by
 unfold js at h
 split at h
 ·rename_i a len c
  simp only[Option.map_eq_some_iff] at h
  obtain⟨⟨l,hh,m⟩,hb,rfl⟩:=h
  simp only[Instr.sliceAt,Sem.run_bind,ar hu,Result.andThen_ok,Instr.slice,vM hb,aW hs]
  rfl
 ·simp at h
theorem OR {t:TypeId} (hu:P.underlying t=some .string) {x v:Value} {lo hi:Option Value} (h:yq x lo hi=some v) (w:World) :
  (Instr.sliceAt t x lo hi none).run P w=.ok v w:=by
 unfold yq at h
 split at h
 ·rename_i sb
  simp only[Option.map_eq_some_iff] at h
  obtain⟨⟨l,hh,m⟩,hb,rfl⟩:=h
  simp only[Instr.sliceAt,Sem.run_bind,ar hu,Result.andThen_ok,Instr.slice,Option.isSome_none,Bool.false_eq_true,if_false,vM hb,Sem.run_pure]
 ·simp at h
theorem Ff {t elem:TypeId} {n size l h m:Nat} (hu:P.underlying t=some (.array n elem)) (hs:kO P elem=some size) {r off:Nat} {lo hi mx:Option Value}
  (hb:ce n n lo hi mx=some (l,h,m)) (w:World) :
  (Instr.sliceAt t (.pointer (some ⟨r,off,none⟩)) lo hi mx).run P w=.ok (.slice (some (if m=l then ⟨r,off,none⟩ else ⟨r,off + l * size,none⟩)) (h - l) (m - l)) w:=by
 simp only[Instr.sliceAt,Sem.run_bind,ar hu,Result.andThen_ok,Instr.sureAddr,Sem.run_pure,vM hb,aW hs,bK]
theorem wj {t:TypeId} {f:Nat} {fd:Field} (h:zI P t f=some fd):∃ fs,P.underlying t=some (.struct fs)∧fs[f]?=some fd:=by
 unfold zI at h
 split at h
 ·rename_i fs e;exact⟨fs,e,h⟩
 ·simp at h
theorem Hz {t:TypeId} {f:Nat} {fd:Field} {m:Nat} (hf:zI P t f=some fd) (hs:kO P fd.type=some m) (hm:m ≠ 0) (a:Addr) (w:World) :
  (Instr.fieldAt t (.pointer (some a)) f).run P w=.ok (.pointer (some (a.add fd.offset))) w:=by
 obtain⟨fs,hu,hfd⟩:=wj hf
 simp[Instr.fieldAt,ar hu,hfd,Instr.sureAddr,fieldPlace,aW hs,hm]
theorem IW {t:TypeId} {m:Nat} {cs:List At} {off:Nat} {v:S1} (h:vX P t cs off=some v) (w:World) (_hm:kO P t=some m) :
  (part t (cs.map At.den).toArray off).run P w=.ok v.den w:=by
 unfold vX at h
 rw[_hm] at h
 simp only[Option.bind_some] at h
 split at h
 ·rename_i hl
  unfold K6 at h
  unfold part
  rw[Sem.run_bind,qI _hm,Result.andThen_ok]
  split at h
  ·rename_i hA
   simp only[Option.some.injEq] at h;subst h
   simp[hA,aW _hm,S1.den]
  ·rename_i hA
   have hA':dS P t=false:=by simpa using hA
   split at h
   ·rename_i a he
    simp only[Option.some.injEq] at h;subst h
    have hget:cs[off]?=some a:=by
     have:(List.take m (cs.drop off))[0]?=some a:=by rw[he];rfl
     have h0:0 < m:=by rw[he] at hl;simp at hl;omega
     simpa [List.getElem?_take,h0] using this
    simp[hA',hget,S1.den]
   ·simp at h
 ·simp at h
theorem y7 {t:TypeId} {cs:List At} {off:Nat} {v:S1} (h:vX P t cs off=some v):∃ m,kO P t=some m:=by
 unfold vX at h
 cases hm:kO P t with
 | none=>simp[hm] at h
 | some m=>exact⟨m,rfl⟩
theorem BS {t:TypeId} {cs:List At} {off:Nat} {v:S1} (h:vX P t cs off=some v):∀ a,a ∈ v.cells→a ∈ cs:=by
 unfold vX at h
 cases hm:kO P t with
 | none=>simp[hm] at h
 | some m =>
  simp only[hm,Option.bind_some] at h
  split at h
  ·unfold K6 at h
   split at h
   ·simp only[Option.some.injEq] at h;subst h
    intro a ha;exact List.mem_of_mem_drop (List.mem_of_mem_take ha)
   ·split at h
    ·rename_i a he
     simp only[Option.some.injEq] at h;subst h
     intro b hb;simp[S1.cells] at hb;subst hb
     have:b ∈ (cs.drop off).take m:=by rw[he];simp
     exact List.mem_of_mem_drop (List.mem_of_mem_take this)
    ·simp at h
  ·simp at h
theorem zU {v:S1} (hf:v.cells.all At.fit=true) (ho:v.ok):v.den.cells=(v.cells.map At.den).toArray:=by
 rcases v with a | l
 ·have h1:a.den.oneCell'=true:=At.fit_one (by simpa [S1.cells] using hf) (ho a (by simp[S1.cells]))
  simp only[S1.den,S1.cells,List.map_cons,List.map_nil]
  cases hd:a.den <;> simp_all [Value.cells,Value.oneCell']
 ·rfl
theorem Nu (vs:List Value):∀ (off:Nat) (cells:List Value),off + vs.length≤cells.length →
  (vs.zipIdx.foldl (fun (cs:Array Value) (p:Value × Nat)=>cs.setIfInBounds (off + p.2) p.1) cells.toArray)=(cells.take off++vs++cells.drop (off + vs.length)).toArray:=by
 have gen:∀ (vs:List Value) (k off:Nat) (cells:List Value),off + k + vs.length≤cells.length →
   ((vs.zipIdx k).foldl (fun (cs:Array Value) (p:Value × Nat)=>cs.setIfInBounds (off + p.2) p.1) cells.toArray)=(cells.take (off + k)++vs++cells.drop (off + k + vs.length)).toArray:=by
  intro vs
  induction vs with
  | nil=>intro k off cells _;simp
  | cons v r ih =>
   intro k off cells h
   simp only[List.length_cons] at h
   simp only[List.zipIdx_cons,List.foldl_cons,List.setIfInBounds_toArray]
   have hlen:(cells.set (off + k) v).length=cells.length:=by simp
   have:=ih (k + 1) off (cells.set (off + k) v) (by simp;omega)
   rw[this]
   congr 1
   have e1:(cells.set (off + k) v).take (off + (k + 1))=cells.take (off + k)++[v]:=by
    apply List.ext_getElem?
    intro i
    by_cases hi:i < off + k
    ·rw[List.getElem?_take,if_pos (by omega),List.getElem?_set_ne (by omega),List.getElem?_append_left (by simp;omega),List.getElem?_take,if_pos hi]
    ·by_cases he:i=off + k
     ·subst he
      rw[List.getElem?_take,if_pos (by omega),List.getElem?_set_self (by omega),List.getElem?_append_right (by simp;omega)]
      have:off + k - (cells.take (off + k)).length=0:=by simp;omega
      rw[this];rfl
     ·rw[List.getElem?_take,if_neg (by omega),List.getElem?_eq_none (by simp;omega)]
   have e2:(cells.set (off + k) v).drop (off + (k + 1) + r.length)=cells.drop (off + k + (r.length + 1)):=by
    rw[List.drop_set_of_lt (by omega)];congr 1;omega
   rw[e1,e2];simp
 intro off cells h
 simpa using gen vs 0 off cells (by simpa using h)
theorem yo {F:Own} {H:Heap} {O:Own} {a:Act} {w:World} (hc:Conc F s H O a w) {place:Nat→Option (Nat × Nat)} (hon:On (li gl)) :
  ∀ {parts:List (Nat × Operand)} {cells out:List At} {cs:List Ck},eD s gl place parts cells=some (out,cs)→AllCk cs →
   Instr.fill place (cells.map At.den).toArray (parts.map fun p=>(p.1,a.eval p.2))=some (out.map At.den).toArray
 | [],cells,out,cs,h,_=>by simp only[eD,Option.some.injEq,Prod.mk.injEq] at h;rw[← h.1];rfl
 | (i,x)::r,cells,out,cs,h,hcs=>by
  simp only[eD] at h
  split at h
  ·rename_i off size v c hp hx
   split at h
   ·rename_i hcond
    simp only[Bool.and_eq_true,decide_eq_true_eq] at hcond
    obtain⟨hcond,hfit⟩:=hcond
    simp only[Option.map_eq_some_iff] at h
    obtain⟨⟨cs',c'⟩,hr,he⟩:=h
    simp only[Prod.mk.injEq] at he
    obtain⟨rfl,rfl⟩:=he
    rw[AllCk.append] at hcs
    have hv:=gy hc hx hcs.1 hon
    have hcells:v.den.cells=(v.cells.map At.den).toArray:=by
     have hok:=gK hc.ok hx
     exact zU hfit hok
    simp only[List.map_cons,Instr.fill,hp,hv,hcells]
    have hsz:(v.cells.map At.den).toArray.size=size:=by simp[hcond.1]
    have:(decide ((v.cells.map At.den).toArray.size ≠ size) || decide (off + (v.cells.map At.den).toArray.size > (cells.map At.den).toArray.size))=false:=by
     simp only[List.size_toArray,List.length_map,Bool.or_eq_false_iff,decide_eq_false_iff_not];omega
    rw[this]
    simp only[Bool.false_eq_true,if_false]
    have hf:=Nu (v.cells.map At.den) off (cells.map At.den) (by simp;omega)
    have hz:((v.cells.map At.den).toArray.zipIdx).foldl (fun (cs:Array Value) (p:Value × Nat)=>cs.setIfInBounds (off + p.2) p.1) (cells.map At.den).toArray=((hD cells off v.cells).map At.den).toArray:=by
     rw[← Array.foldl_toList,Array.toList_zipIdx,List.toList_toArray,hf]
     simp[hD,List.map_take,List.map_drop]
    rw[hz]
    exact yo hc hon hr hcs.2
   ·simp at h
  ·simp at h
variable {P:Program} {ops:Array Oper} {o:Oper} {s:SS} {gl:List (At × Bool)}
theorem Hq (vs:List Value) (off:Nat) (v:Value) (r:List Value) (h:off < vs.length):bL (vs.set off v) (off + 1) r=bL vs off (v::r):=by
 unfold bL
 have e1:(vs.set off v).take (off + 1)=vs.take off++[v]:=by
  rw[List.take_set]
  apply List.ext_getElem?
  intro i
  by_cases hi:i < off
  ·rw[List.getElem?_set_ne (by omega),List.getElem?_take,if_pos (by omega),List.getElem?_append_left (by simp;omega),List.getElem?_take,if_pos hi]
  ·by_cases he:i=off
   ·subst he
    rw[List.getElem?_set_self (by simp;omega),List.getElem?_append_right (by simp;omega)]
    have:i - (vs.take i).length=0:=by simp;omega
    rw[this];rfl
   ·rw[List.getElem?_set_ne (by omega),List.getElem?_take,if_neg (by omega),List.getElem?_eq_none (by simp;omega)]
 have e2:(vs.set off v).drop (off + 1 + r.length)=vs.drop (off + (v::r).length):=by
  rw[List.drop_set_of_lt (by omega),List.length_cons];congr 1;omega
 rw[e1,e2];simp
theorem rf {r off:Nat} {T:TypeId}:∀ (ys:List Value) (i:Nat) (vs:List Value) (w:World),w.heap[r]?=some (.cells vs.toArray T (0,0))→Ones ys→off + i + ys.length≤vs.length →
  ∃ w',(storeCells ⟨r,off,none⟩ ys i).run P w=.ok () w'∧(∀ b,b ≠ r→w'.heap[b]?=w.heap[b]?)∧w'.heap[r]?=some (.cells (bL vs (off + i) ys).toArray T (0,0))∧gR w'=gR w
 | [],i,vs,w,h,_,hl=>⟨w,rfl,fun _ _=>rfl,by rw[h];simp[bL],rfl⟩
 | y::ys,i,vs,w,h,ho,hl=>by
  simp only[List.length_cons] at hl
  have hcell:w.cell? ⟨r,off + i,none⟩=some (vs[off + i]'(by omega)):=by
   rw[cell_of_row w r (off + i) _ T _ h];simp
  have hfr:w.frozen? ⟨r,off + i,none⟩=false:=frozen_of_row w r (off + i) _ T h
  have hset:(w.setCell ⟨r,off + i,none⟩ y).heap[r]?=some (.cells (vs.set (off + i) y).toArray T (0,0)):=by
   rw[heap_setCell_same w r (off + i) vs.toArray T y h];simp
  have henv:gR (w.setCell ⟨r,off + i,none⟩ y)=gR w:=by
   unfold World.setCell;split <;> rfl
  obtain⟨w',hr,hs,hb,he⟩:=rf (r:=r) (off:=off) ys (i + 1) (vs.set (off + i) y) (w.setCell ⟨r,off + i,none⟩ y) hset ho.2 (by simp;omega)
  refine⟨w',?_,fun b hne=>?_,?_,he.trans henv⟩
  ·simp only[storeCells,Sem.run_bind,bK,run_store P w _ y .plain ho.1,hcell,hfr,Bool.false_eq_true,if_false,Result.andThen_ok]
   exact hr
  ·rw[hs b hne,heap_setCell_other w ⟨r,off + i,none⟩ b y hne]
  ·rw[hb,← Hq vs (off + i) y ys (by omega)];rfl
theorem vT {t:TypeId} {m:Nat} (hs:kO P t=some m) {r off:Nat} {T:TypeId} {vs:List Value} {w:World} (h:w.heap[r]?=some (.cells vs.toArray T (0,0))) {y:Value} {ys:List Value}
  (hy:y.cells=ys.toArray) (ho:Ones ys) (hm:ys.length=m) (hl:off + ys.length≤vs.length) :
  ∃ w',(storeVar t ⟨r,off,none⟩ y).run P w=.ok () w'∧(∀ b,b ≠ r→w'.heap[b]?=w.heap[b]?)∧w'.heap[r]?=some (.cells (bL vs off ys).toArray T (0,0))∧gR w'=gR w:=by
 obtain⟨w',hr,hb,hc,he⟩:=rf (P:=P) (off:=off) ys 0 vs w h ho (by omega)
 refine⟨w',?_,hb,hc,he⟩
 unfold storeVar
 rw[Sem.run_bind,aW hs,Result.andThen_ok]
 have:¬ (y.cells.size ≠ m):=by rw[hy];simp[hm]
 simp only[this,if_false]
 rw[hy]
 simpa using hr
theorem Do {t:TypeId} {x y:Operand} {x':At} {y':S1} {cx cy:List Ck} {nfp:NF × FP} (ho:o.op=.store t x y) (hdst:o.dst=none) (hx:jq s [] x=some (x',cx)) (hy:qL s [] y=some (y',cy))
    (hg:aI (bo ops) s o=.go []) (h:oS P s t x' y' (cx++cy)=some nfp):Sound P ops o s nfp.1:=by
  unfold oS at h
  cases hm:kO P t with
  | none=>simp[hm] at h
  | some m =>
    simp only[hm,Option.bind_some] at h
    split at h
    · simp at h
    · rename_i hcond
      simp only[Bool.or_eq_true,decide_eq_true_eq,Bool.not_eq_true',not_or,Decidable.not_not,Bool.not_eq_false] at hcond
      obtain⟨hlen,hfit⟩:=hcond
      have common:∀ {F H O a w},Conc F s H O a w→AllCk (cx++cy)→a.eval x=x'.den∧a.eval y=y'.den∧y'.den.cells=(y'.cells.map At.den).toArray∧Ones (y'.cells.map At.den):=by
        intro F H O a w hc hcs
        rw[AllCk.append] at hcs
        have hok:=gK hc.ok hy
        exact⟨aP hc hx hcs.1 trivial,gy hc hy hcs.2 trivial,zU hfit hok,Je (by simpa using hfit) hok⟩
      split at h
      · rename_i n r off
        split at h
        · rename_i b hb
          split at h
          · rename_i hl
            simp only[Option.some.injEq] at h;subst h
            intro F H O a w d K Q hc hr
            obtain⟨hcs,hk⟩:=hr
            obtain⟨e1,e2,e3,e4⟩:=common hc hcs.2
            have hrb:r=b.r:=hcs.1
            unfold wp1
            rw[if_pos ((jb hc hg).2 trivial)]
            refine .inl ?_
            obtain⟨L,hL,hmod⟩:=hc.mm
            obtain⟨us,L',hus,hperm,hL'⟩:=hL.take hb
            have hmod':=hmod.perm (hperm.append_right _)
            simp only[List.cons_append] at hmod'
            have hrow:=(hmod'.own (b.r,.cells us.toArray b.T (0,0)) (by simp)).1
            obtain⟨w',hrun,hoth,hnew,henv⟩:=vT (P:=P) hm hrow e3 e4 (by simpa using hlen) (off:=off) (by have:=hus.length;simp;omega)
            unfold Oper.wp
            have:(execOp a.eval o).run P w=.ok .skip w':=by
              simp only[execOp,ho,e1,e2,At.den,hrb,Instr.storeAt,Instr.sureAddr,Sem.run_bind,Sem.run_pure,Result.andThen_ok,hrun]
            rw[this,Oper.upon_skip,hdst]
            refine⟨_,H,O,?_,Heap.le_refl H,hk⟩
            have hput:=hL'.put (n:=n) (b:={ b with cs:=hD b.cs off y'.cells }) (vs:=us.take off++y'.cells.map At.den++us.drop (off + y'.cells.length)) (by simp) (hus.fill off y'.cells)
            rw[EO] at hput
            refine⟨hc.ok.setBox n ?_,hc.df,hc.sz,hc.tm,_,hput,?_⟩
            · rintro b' hb' a' ha'
              simp only[Option.some.injEq] at hb';subst hb'
              simp only[hD,List.mem_append] at ha'
              rcases ha' with (ha' | ha') | ha'
              · exact hc.ok.2 n b hb a' (List.mem_of_mem_take ha')
              · exact gK hc.ok hy a' ha'
              · exact hc.ok.2 n b hb a' (List.mem_of_mem_drop ha')
            · refine hmod'.update hoth ?_ henv
              rw[hnew];simp[bL]
          · simp at h
        · simp at h
      all_goals first
        | (simp at h;done)
        | (split at h
           · simp at h
           · rename_i hm0
             simp only[Option.some.injEq] at h;subst h
             intro F H O a w d K Q hc hr
             obtain⟨hcs,O',hst,hk⟩:=hr
             obtain⟨e1,e2,e3,e4⟩:=common hc hcs.2
             unfold wp1
             rw[if_pos ((jb hc hg).2 trivial)]
             refine .inl ?_
             obtain⟨ad,cs,T,L',hp,hsp,hperm,hl,hO'⟩:=hst
             have had:ad=⟨ad.block,ad.off,none⟩:=by cases ad;simp_all
             obtain⟨L,hL,hmod⟩:=hc.mm
             have hmod':Models w H ((ad.block,.cells cs T (0,0))::(L++(L'++F))):=by
               refine hmod.perm ?_
               have:=(hperm.append_right F)
               refine (List.Perm.append_left L this).trans ?_
               simp only[List.cons_append]
               exact List.perm_middle
             have hrow:w.heap[ad.block]?=some (.cells cs.toList.toArray T (0,0)):=by simpa using (hmod'.own (ad.block,.cells cs T (0,0)) (by simp)).1
             obtain⟨w',hrun,hoth,hnew,henv⟩:=vT (P:=P) hm hrow e3 e4 (by simpa using hlen) (off:=ad.off) (by simpa using hl)
             unfold Oper.wp
             have:(execOp a.eval o).run P w=.ok .skip w':=by
               simp only[execOp,ho,e1,e2,hp,Instr.storeAt,Instr.sureAddr,Sem.run_bind,Sem.run_pure,Result.andThen_ok]
               rw[had,hrun];rfl
             rw[this,Oper.upon_skip,hdst]
             refine⟨s,H,O',⟨hc.ok,hc.df,hc.sz,hc.tm,L,hL,?_⟩,Heap.le_refl H,hk⟩
             have hu:=hmod'.update hoth hnew henv
             subst hO'
             refine hu.perm ?_
             simp only[List.cons_append]
             exact List.perm_middle.symm)
variable {P:Program} {ops:Array Oper} {o:Oper} {s:SS} {gl:List (At × Bool)}
theorem LC {name:Nat} {T:TypeId} {cells:List At} {val:Nat→At} {cs:List Ck} (hg:aI (bo ops) s o=.go []) (hd:∀ d,o.dst=some d→d < s.sz)
  (hn:s.mem name=none) (hv:∀ r,(val r).ok) (hvk:∀ r,(val r).known=true) (hcells:s.Ok→∀ a,a ∈ cells→a.ok)
  (hrun:∀ F H O a w,Conc F s H O a w→AllCk cs→∃ vs:List Value,CellsRel cells vs ∧
   (execOp a.eval o).run P w=.ok (.value (val w.heap.size).den) { w with heap:=w.heap.push (.cells vs.toArray T (0,0)) }) :
  Sound P ops o s (.box cs name T cells val):=by
 intro F H O a w d K Q hc hr
 obtain⟨hcs,hk⟩:=hr
 obtain⟨vs,hvs,hex⟩:=hrun F H O a w hc hcs
 unfold wp1
 rw[if_pos ((jb hc hg).2 trivial)]
 refine .inl ?_
 unfold Oper.wp
 rw[hex,Oper.upon_value]
 obtain⟨L,hL,hmod⟩:=hc.mm
 have h1:Conc F (s.setBox name (some ⟨w.heap.size,T,cells⟩)) H O a { w with heap:=w.heap.push (.cells vs.toArray T (0,0)) }:=by
  refine⟨hc.ok.setBox name ?_,hc.df,hc.sz,hc.tm,_,hL.put (n:=name) (b:=⟨w.heap.size,T,cells⟩) hn hvs,?_⟩
  ·rintro b' hb' a' ha'
   simp only[Option.some.injEq] at hb';subst hb';exact hcells hc.ok a' ha'
  ·simpa using hmod.push (.cells vs.toArray T (0,0))
 refine⟨_,H,O,h1.put (sv:=.s (.at (val w.heap.size))) hd ?_ (gq (hv _)),Heap.le_refl H,hk _⟩
 cases hval:val w.heap.size <;> first
  | rfl
  | (have:=hvk w.heap.size;rw[hval] at this;simp[At.known] at this)
theorem j0 {T:TypeId} {cells:List At} (h:s5 P T=some cells):∃ z:Value,(∀ w,(zeroValue T).run P w=.ok z w)∧z.cells.toList=cells.map At.den∧cells.all At.known=true∧∀ a,a ∈ cells→a.ok:=by
 unfold s5 at h
 cases hi:P.info? T with
 | none=>simp[hi] at h
 | some i =>
  simp only[hi,Option.bind_some,Option.map_eq_some_iff] at h
  obtain⟨z,hz,rfl⟩:=h
  refine⟨z,fun w=>by simp[zeroValue,typeInfo,hi,hz],by simp[Function.comp_def,At.den],by simp[At.known],?_⟩
  intro a ha;simp only[List.mem_map] at ha;obtain⟨x,_,rfl⟩:=ha;trivial
def sF (z:List Value):Nat→List Value
 | 0=>[]
 | n + 1=>z++sF z n
theorem ib (z:List Value) (hz:z.length ≠ 0):∀ n:Nat,((Array.range (n * z.length)).map fun i=>z.toArray[i % z.toArray.size]!).toList=(sF z n)
 | 0=>by simp[sF]
 | n + 1=>by
  have ih:=ib z hz n
  simp only[Array.toList_map,Array.toList_range] at ih ⊢
  rw[show (n + 1) * z.length=z.length + n * z.length by rw[Nat.add_mul];omega,List.range_add,List.map_append,List.map_map]
  have e1:(List.range z.length).map (fun i=>z.toArray[i % z.toArray.size]!)=z:=by
   apply List.ext_getElem
   ·simp
   ·intro i h1 h2
    have hi:i < z.length:=by simpa using h1
    simp[Nat.mod_eq_of_lt hi,hi]
  have e2:(List.range (n * z.length)).map ((fun i=>z.toArray[i % z.toArray.size]!) ∘ fun i=>z.length + i)=(List.range (n * z.length)).map fun i=>z.toArray[i % z.toArray.size]!:=by
   apply List.map_congr_left
   intro i _
   simp[Function.comp]
  rw[e1,e2,ih];rfl
theorem kS (z:List At):∀ n,(cE z n).map At.den=sF (z.map At.den) n
 | 0=>rfl
 | n + 1=>by simp[cE,sF,kS z n]
theorem jg {z:List At}:∀ {n:Nat} {a:At},a ∈ cE z n→a ∈ z
 | 0,a,h=>by simp[cE] at h
 | n + 1,a,h=>by
  simp only[cE,List.mem_append] at h
  exact h.elim id jg
theorem jP (hok:s.Ok) {place:Nat→Option (Nat × Nat)}:∀ {parts:List (Nat × Operand)} {cells out:List At} {cs:List Ck},eD s gl place parts cells=some (out,cs) →
  (∀ a,a ∈ cells→a.ok)→∀ a,a ∈ out→a.ok
 | [],cells,out,cs,h,hc=>by simp only[eD,Option.some.injEq,Prod.mk.injEq] at h;rw[← h.1];exact hc
 | (i,x)::r,cells,out,cs,h,hc=>by
  simp only[eD] at h
  split at h
  ·rename_i off size v c hp hx
   split at h
   ·simp only[Option.map_eq_some_iff] at h
    obtain⟨⟨cs',c'⟩,hr,he⟩:=h
    simp only[Prod.mk.injEq] at he
    obtain⟨rfl,rfl⟩:=he
    refine jP hok hr ?_
    intro a ha
    simp only[hD,List.mem_append] at ha
    rcases ha with (ha | ha) | ha
    ·exact hc a (List.mem_of_mem_take ha)
    ·exact gK hok hx a ha
    ·exact hc a (List.mem_of_mem_drop ha)
   ·simp at h
  ·simp at h
theorem sG:∀ {l:List Nat},MG l=true→l.Nodup
 | [],_=>by simp
 | n::r,h=>by
  simp only[MG,Bool.and_eq_true,Bool.not_eq_true',List.contains_eq_mem,decide_eq_false_iff_not] at h
  exact List.nodup_cons.2 ⟨h.1,sG h.2⟩
theorem ll:∀ {l:List Nat} {s:SS} {n:Nat},(bS l s).mem n=if n ∈ l then none else s.mem n
 | [],s,n=>by simp[bS]
 | m::r,s,n=>by
  rw[bS,ll]
  by_cases h:n ∈ r
  ·simp[h]
  ·by_cases e:n=m <;> simp[h,e,SS.setBox]
theorem eQ:∀ {l:List Nat} {s:SS},(bS l s).tmps=s.tmps∧(bS l s).sz=s.sz
 | [],_=>⟨rfl,rfl⟩
 | m::r,s=>by rw[bS];exact eQ (l:=r) (s:=s.setBox m none)
theorem jO:∀ {l:List (Nat × Bx)} {css:List (List Value)} {s:SS},(dP l css s).tmps=s.tmps∧(dP l css s).sz=s.sz
 | [],_,_=>by simp[dP]
 | _::_,[],_=>by simp[dP]
 | (n,b)::r,vs::vss,s=>by rw[dP];exact jO (l:=r)
theorem JQ {s:SS} (h:s.Ok) (l:List Nat):(bS l s).Ok:=by
 refine⟨by rw[eQ.1];exact h.1,fun n b hb=>?_⟩
 rw[ll] at hb
 split at hb
 ·simp at hb
 ·exact h.2 n b hb
theorem y3:∀ {l:List (Nat × Bx)} {css:List (List Value)} {s:SS},s.Ok→Ro (l.map (·.2.bv)) css→(dP l css s).Ok
 | [],_,_,h,_=>by simpa [dP] using h
 | _::_,[],_,h,_=>by simpa [dP] using h
 | (n,b)::r,vs::vss,s,h,hf=>by
  rw[dP]
  refine y3 (h.setBox n ?_) hf.2.2
  rintro b' hb' a ha
  simp only[Option.some.injEq] at hb';subst hb'
  have hl:vs.length=b.cs.length:=by have:=hf.1;simpa [Bx.bv] using this
  exact mC (by omega) hf.2.1 a ha
theorem Dn:∀ {l:List (Nat × Bx)} {s:SS} {L:Own},Boxes s.mem L→(∀ p,p ∈ l→s.mem p.1=some p.2)→(l.map (·.1)).Nodup→(∀ p,p ∈ l→p.2.cs.all At.known=true) →
  ∃ L',L.Perm (l.map (fun p=>p.2.bv.obj)++L')∧Boxes (bS (l.map (·.1)) s).mem L'
 | [],s,L,h,_,_,_=>⟨L,by simp,h⟩
 | (n,b)::r,s,L,h,hm,hn,hk=>by
  obtain⟨vs,L1,hvs,hp,h1⟩:=h.take (hm (n,b) (by simp))
  simp only[List.map_cons,List.nodup_cons] at hn
  have hr:∀ p,p ∈ r→(s.setBox n none).mem p.1=some p.2:=by
   intro p hp'
   have:p.1 ≠ n:=fun e=>hn.1 (e ▸ List.mem_map_of_mem hp')
   simp only[SS.setBox,this,if_false]
   exact hm p (by simp[hp'])
  obtain⟨L',hp2,h2⟩:=Dn (s:=s.setBox n none) (L:=L1) h1 hr hn.2 (fun p hp'=>hk p (by simp[hp']))
  refine⟨L',hp.trans ?_,by simpa [bS] using h2⟩
  have:vs=b.cs.map At.den:=hvs.known (hk (n,b) (by simp))
  simp only[List.map_cons,List.cons_append]
  rw[this]
  exact List.Perm.cons _ hp2
theorem LY:∀ {l:List (Nat × Bx)} {css:List (List Value)} {s:SS} {i:Nat},Ro (l.map (·.2.bv)) (css.drop i)→EX i l css s=dP l (css.drop i) s
 | [],css,s,i,_=>by cases css.drop i <;> rfl
 | (n,b)::r,css,s,i,h=>by
  cases hd:css.drop i with
  | nil=>rw[hd] at h;exact h.elim
  | cons v vs =>
   rw[hd] at h
   have hlt:i < css.length:=by
    rcases Nat.lt_or_ge i css.length with h' | h'
    ·exact h'
    ·rw[List.drop_of_length_le h'] at hd;cases hd
   rw[List.drop_eq_getElem_cons hlt] at hd
   obtain⟨rfl,hd2⟩:=List.cons.inj hd
   have hv:css.getD i []=css[i]:=by simp[List.getD,hlt]
   rw[EX,dP,← hd2,LY (l:=r) (i:=i + 1) (by rw[hd2];exact h.2.2),hv]
theorem y4:∀ {l:List (Nat × Bx)} {css:List (List Value)} {s:SS} {i:Nat},(EX i l css s).tmps=s.tmps∧(EX i l css s).sz=s.sz
 | [],_,_,_=>⟨rfl,rfl⟩
 | (n,b)::r,css,s,i=>by rw[EX];exact y4 (l:=r)
theorem LX:∀ {l:List (Nat × Bx)} {css:List (List Value)} {s:SS} {L:Own},Boxes s.mem L→(∀ p,p ∈ l→s.mem p.1=none)→(l.map (·.1)).Nodup→Ro (l.map (·.2.bv)) css →
  ∃ L',L'.Perm ((kX (l.map (·.2.bv)) css).map BV.obj++L)∧Boxes (dP l css s).mem L'
 | [],css,s,L,h,_,_,_=>by cases css <;> exact⟨L,by simp[kX],by simpa [dP] using h⟩
 | (n,b)::r,[],s,L,h,_,_,hf=>by simp[Ro] at hf
 | (n,b)::r,vs::vss,s,L,h,hm,hn,hf=>by
  simp only[List.map_cons,List.nodup_cons] at hn
  have hl:vs.length=b.cs.length:=by have:=hf.1;simpa [Bx.bv] using this
  have h1:=h.put (n:=n) (b:={ b with cs:=atsFrom vs 0 b.cs.length }) (vs:=vs) (hm (n,b) (by simp)) (CellsRel.atsFrom hl)
  obtain⟨L',hp,h2⟩:=LX (l:=r) (css:=vss) (s:=s.setBox n (some { b with cs:=atsFrom vs 0 b.cs.length })) h1 (by
   intro p hp'
   have:p.1 ≠ n:=fun e=>hn.1 (e ▸ List.mem_map_of_mem hp')
   simp only[SS.setBox,this,if_false]
   exact hm p (by simp[hp'])) hn.2 hf.2.2
  refine⟨L',hp.trans ?_,by simpa [dP] using h2⟩
  simp only[List.map_cons,kX,List.cons_append]
  exact List.perm_middle
theorem lY {s:SS} {l:List Nat}:∀ p,p ∈ ig s l→s.mem p.1=some p.2:=by
 intro p hp
 simp only[ig,List.mem_filterMap,Option.map_eq_some_iff] at hp
 obtain⟨n,_,b,hb,rfl⟩:=hp
 exact hb
theorem nG:∀ {l:List BV} {w:World} {H:Heap} {O:Own},Models w H (l.map BV.obj++O)→Models w (H.insAll l) O∧Heap.le H (H.insAll l)
 | [],w,H,O,h=>⟨by simpa [Heap.insAll] using h,Heap.le_refl H⟩
 | b::r,w,H,O,h=>by
  simp only[List.map_cons,List.cons_append] at h
  have hf:Models w (H.ins b.r b.obj.2) (r.map BV.obj++O):=Models.freeze h
  have hle:Heap.le H (H.ins b.r b.obj.2):=(Ghost.freeze H b.r b.obj.2 [] w (r.map BV.obj++O) h).2
  obtain⟨h1,h2⟩:=nG hf
  exact⟨h1,Heap.le_trans hle h2⟩
theorem za {vs:List Value} (ho:Ones vs):∀ {l:List (Option Nat)} {i:Nat},i + Shp.count (.tup l)≤vs.length→∀ x,x ∈ Shp.svList vs i l→x.ok
 | [],i,_,x,hx=>by simp[Shp.svList] at hx
 | none::r,i,h,x,hx=>by
  simp only[Shp.count,List.foldr_cons,Option.getD_none] at h
  simp only[Shp.svList,List.mem_cons] at hx
  rcases hx with rfl | hx
  ·exact gq (ho.get i (by omega))
  ·exact za ho (l:=r) (i:=i + 1) (by simp only[Shp.count];omega) x hx
 | some m::r,i,h,x,hx=>by
  simp only[Shp.count,List.foldr_cons,Option.getD_some] at h
  simp only[Shp.svList,List.mem_cons] at hx
  rcases hx with rfl | hx
  ·exact mC (by omega) ho
  ·exact za ho (l:=r) (i:=i + m) (by simp only[Shp.count];omega) x hx
theorem nC:∀ {l:List (Option Nat)} {xs vs pre:List Value},Shp.openList l xs=some vs →
  vs.length=Shp.count (.tup l)∧(Shp.svList (pre++vs) pre.length l).map S1.den=xs
 | [],[],vs,pre,h=>by simp only[Shp.openList,Option.some.injEq] at h;subst h;simp[Shp.count,Shp.svList]
 | [],_::_,vs,pre,h=>by simp[Shp.openList] at h
 | none::r,[],vs,pre,h=>by simp[Shp.openList] at h
 | none::r,v::xs,vs,pre,h=>by
  simp only[Shp.openList,Option.map_eq_some_iff] at h
  obtain⟨us,hu,rfl⟩:=h
  obtain⟨h1,h2⟩:=nC (pre:=pre++[v]) hu
  refine⟨?_,?_⟩
  ·simp only[Shp.count,List.foldr_cons,Option.getD_none,List.length_cons] at h1 ⊢;omega
  ·simp only[Shp.svList,List.map_cons]
   have e:pre++v::us=pre++[v]++us:=by simp
   have:g (pre++v::us) pre.length=v:=by simp[g]
   rw[S1.den,At.den,this,e]
   have hl:(pre++[v]).length=pre.length + 1:=by simp
   rw[← hl,h2]
 | some m::r,[],vs,pre,h=>by simp[Shp.openList] at h
 | some m::r,v::xs,vs,pre,h=>by
  cases v with
  | agg cs =>
   simp only[Shp.openList] at h
   split at h
   ·rename_i hsz
    simp only[Option.map_eq_some_iff] at h
    obtain⟨us,hu,rfl⟩:=h
    obtain⟨h1,h2⟩:=nC (pre:=pre++cs.toList) hu
    have hl:(pre++cs.toList).length=pre.length + m:=by simp[hsz]
    refine⟨?_,?_⟩
    ·simp only[Shp.count,List.foldr_cons,Option.getD_some,List.length_append,Array.length_toList] at h1 ⊢
     omega
    ·simp only[Shp.svList,List.map_cons]
     rw[← hl,← List.append_assoc,h2]
     congr 1
     simp only[S1.den,Value.agg.injEq]
     rw[CU]
     apply Array.ext'
     simp only[List.toList_toArray,List.map_map]
     apply List.ext_getElem
     ·simp[hsz]
     ·intro i hi1 hi2
      have hi:i < cs.size:=by simpa using hi2
      have hlt:¬ (pre.length + i < pre.length):=by omega
      simp[At.den,g,List.getElem?_append,hi,hlt]
   ·simp at h
  | _=>simp[Shp.openList] at h
theorem Md {shp:Shp} {v:Value} {vs:List Value} (h:shp.open v=some vs) (ho:Ones vs):(shp.sv vs).rel v∧(shp.sv vs).ok:=by
 cases shp with
 | one =>
  simp only[Shp.open,Option.some.injEq] at h;subst h
  exact⟨rfl,gq ho.1⟩
 | agg m =>
  cases v with
  | agg cs =>
   simp only[Shp.open] at h
   split at h
   ·rename_i hsz
    simp only[Option.some.injEq] at h;subst h
    refine⟨?_,mC (by simp[hsz]) ho⟩
    show _=Value.agg ((atsFrom cs.toList 0 m).map At.den).toArray
    rw[Ag (by simp[hsz])]
   ·simp at h
  | _=>simp[Shp.open] at h
 | tup l =>
  cases v with
  | tuple xs =>
   simp only[Shp.open] at h
   obtain⟨h1,h2⟩:=nC (pre:=[]) h
   refine⟨?_,za ho (l:=l) (i:=0) (by omega)⟩
   show _=Value.tuple ((Shp.svList vs 0 l).map S1.den).toArray
   have h2':(Shp.svList vs 0 l).map S1.den=xs.toList:=by simpa using h2
   rw[h2']
  | _=>simp[Shp.open] at h
theorem IU {hk:HK} {frz own:List (Nat × Bx)} {shp:Shp} {post:List Value→List Ck} {cs:List Ck} {sv:List Value→SV} (hg:aI (bo ops) s o=.go []) (hd:∀ d,o.dst=some d→d < s.sz)
  (hfrz:∀ p,p ∈ frz++own→s.mem p.1=some p.2) (hnd:((frz++own).map (·.1)).Nodup) (hkn:∀ p,p ∈ frz++own→p.2.cs.all At.known=true)
  (hsv:∀ v vs,s.Ok→shp.open v=some vs→Ones vs→AllCk (post vs)→(sv vs).rel v∧(sv vs).ok)
  (hex:∀ F H O a w,Conc F s H O a w→AllCk cs→∀ H1 O1 R,hk.T P H1 O1 R→∀ F1,Models w H1 (O1++F1)→∀ (next:Act→World→Prop) (Q:Exit→Act→World→Prop),
   (∀ v w' H' O',R v H' O'→Heap.le H1 H'→Models w' H' (O'++F1)→next (a.put o.dst v) w')→o.wp P a w next Q) :
  Sound P ops o s (.hv cs hk frz own shp post sv):=by
 intro F H O a w d K Q hc hr
 obtain⟨hcs,hr⟩:=hr
 unfold wp1
 rw[if_pos ((jb hc hg).2 trivial)]
 refine .inl ?_
 obtain⟨L,hL,hmod⟩:=hc.mm
 obtain⟨L',hp,hL'⟩:=Dn hL hfrz hnd hkn
 have hm0:Models w H ((frz.map (·.2.bv)).map BV.obj++((own.map (·.2.bv)).map BV.obj++(L'++(O++F)))):=by
  refine hmod.perm ((hp.append_right _).trans (List.Perm.of_eq ?_))
  simp[List.map_map,Function.comp_def]
 obtain⟨H1,O1,O2,R,hgh,hT,hk'⟩:=hr ⟨w,L'++F,hm0.perm (by
  rw[List.append_assoc,List.append_assoc]
  exact List.Perm.append_left _ (List.Perm.append_left _ (List.perm_append_comm_assoc _ _ _))) ⟩
 obtain⟨hm1,hle1⟩:=nG hm0
 have hgh':Ghost (H.insAll (frz.map (·.2.bv))) O H1 (O1++O2):=by
  split at hgh
  ·obtain⟨rfl,⟨rfl,rfl⟩ | ⟨_,rfl,rfl,_⟩⟩:=hgh
   ·exact Ghost.refl _ _
   ·rw[List.append_nil];exact Ghost.refl _ _
  ·exact hgh
 have hm2:Models w (H.insAll (frz.map (·.2.bv))) (O++((own.map (·.2.bv)).map BV.obj++(L'++F))):=by
  refine hm1.perm ?_
  exact (List.Perm.append_left _ (List.perm_append_comm_assoc _ _ _)).trans (List.perm_append_comm_assoc _ _ _)
 obtain⟨hm3,hle2⟩:=hgh' w _ hm2
 have hm4:Models w H1 (((own.map (·.2.bv)).map BV.obj++O1)++(O2++(L'++F))):=by
  refine hm3.perm ?_
  rw[List.append_assoc,List.append_assoc]
  exact (List.Perm.append_left _ (List.perm_append_comm_assoc _ _ _)).trans (List.perm_append_comm_assoc _ _ _)
 refine hex F H O a w hc hcs H1 _ R hT _ hm4 _ Q ?_
 intro v w' H' O' hR hle3 hm5
 obtain⟨vs,css,O3,hop,hones,hfits,rfl,hpost,hK⟩:=hk' v H' O' hR hle3
 obtain⟨hrel,hok⟩:=hsv v vs hc.ok hop hones hpost
 have hmemNone:∀ p,p ∈ own→(bS ((frz++own).map (·.1)) s).mem p.1=none:=by
  intro p hp'
  rw[ll,if_pos (List.mem_map_of_mem (by simp[hp']))]
 have hndo:(own.map (·.1)).Nodup:=by
  rw[List.map_append] at hnd;exact (List.nodup_append.1 hnd).2.1
 obtain⟨L'',hp'',hL''⟩:=LX (css:=css) hL' hmemNone hndo hfits
 have hconc:Conc F (dP own css (bS ((frz++own).map (·.1)) s)) H' (O3++O2) a w':=by
  refine⟨y3 (JQ hc.ok _) hfits,hc.df,?_,?_,L'',hL'',?_⟩
  ·rw[jO.2,eQ.2];exact hc.sz
  ·rw[jO.1,eQ.1];exact hc.tm
  ·refine hm5.perm (List.Perm.trans ?_ (hp''.symm.append_right _))
   rw[List.append_assoc,List.append_assoc,← List.append_assoc O3]
   exact List.Perm.append_left _ (List.perm_append_comm_assoc _ _ _)
 have hpb:EX 0 own css (bS ((frz++own).map (·.1)) s)=dP own css (bS ((frz++own).map (·.1)) s):=LY (i:=0) hfits
 rw[nI,hpb] at hK
 refine⟨_,H',O3++O2,hconc.put ?_ hrel hok,Heap.le_trans hle1 (Heap.le_trans hle2 hle3),hK⟩
 intro d' hd'
 rw[jO.2,eQ.2];exact hd d' hd'
variable {P:Program} {ops:Array Oper} {o:Oper} {s:SS} {gl:List (At × Bool)}
theorem aX {v:S1} {cs:List Ck} {x:NF} {fp:FP} (hg:aI (bo ops) s o=.go gl) (hd:∀ d,o.dst=some d→d < s.sz) (h:cJ gl o.dst v cs=some (x,fp))
  (hok:s.Ok→AllCk cs→v.ok) (hrun:∀ F H O a w,Conc F s H O a w→AllCk cs→On (li gl)→(execOp a.eval o).run P w=.ok (.value v.den) w):Sound P ops o s x:=by
 simp only[cJ,Option.some.injEq,Prod.mk.injEq] at h
 rw[← h.1]
 exact bQ (X:=fun _=>v) hg hd (fun _ _ _ h1 h2 _=>hok h1 h2) (fun F H O a w _ hc hcs _ hon=>hrun F H O a w hc hcs hon)
theorem nQ {name:Nat} {T:TypeId} {cells:List At} {val:Nat→At} {cs:List Ck} {x:NF} {fp:FP} (hg:aI (bo ops) s o=.go gl) (hd:∀ d,o.dst=some d→d < s.sz)
  (h:ma s gl o.dst name T cells val cs=some (x,fp)) (hv:∀ r,(val r).ok) (hvk:∀ r,(val r).known=true) (hcells:s.Ok→∀ a,a ∈ cells→a.ok)
  (hrun:∀ F H O a w,Conc F s H O a w→AllCk cs→gl=[]→∃ vs:List Value,CellsRel cells vs ∧
   (execOp a.eval o).run P w=.ok (.value (val w.heap.size).den) { w with heap:=w.heap.push (.cells vs.toArray T (0,0)) }):Sound P ops o s x:=by
 unfold ma at h
 split at h
 ·rename_i hcond
  simp only[Bool.and_eq_true,Option.isNone_iff_eq_none,List.isEmpty_iff] at hcond
  simp only[Option.some.injEq,Prod.mk.injEq] at h
  rw[← h.1]
  obtain⟨rfl,hn⟩:=hcond
  exact LC hg hd hn hv hvk hcells (fun F H O a w hc hcs=>hrun F H O a w hc hcs rfl)
 ·simp at h
theorem ec {dst:Option Tmp} {shp:Shp} {hk:HK} {atoms:List At} {cs:List Ck} {x:NF} {fp:FP} (hdst:dst=o.dst) (hg:aI (bo ops) s o=.go []) (hd:∀ d,o.dst=some d→d < s.sz)
  (h:dF s dst shp hk atoms cs=some (x,fp))
  (hex:∀ F H O a w,Conc F s H O a w→AllCk cs→∀ H1 O1 R,hk.T P H1 O1 R→∀ F1,Models w H1 (O1++F1)→∀ (next:Act→World→Prop) (Q:Exit→Act→World→Prop),
   (∀ v w' H' O',R v H' O'→Heap.le H1 H'→Models w' H' (O'++F1)→next (a.put o.dst v) w')→o.wp P a w next Q):Sound P ops o s x:=by
 subst hdst
 unfold dF at h
 simp only[] at h
 split at h
 ·rename_i hcond
  simp only[Bool.and_eq_true] at hcond
  simp only[Option.some.injEq,Prod.mk.injEq] at h
  rw[← h.1]
  refine IU (sv:=shp.sv) hg hd ?_ (sG hcond.2) ?_ (fun v vs _ ho hn _=>Md ho hn) hex
  ·intro p hp
   rcases List.mem_append.1 hp with hp | hp
   ·exact lY p hp
   ·exact lY p hp
  ·intro p hp
   have:=hcond.1
   rw[List.all_eq_true] at this
   exact this p hp
 ·simp at h
theorem yg {a:Act} {w:World} {f:FuncId} {args:List Value} {H1:Heap} {O1 F1:Own} {R:Value→Heap→Own→Prop} {next:Act→World→Prop} {Q:Exit→Act→World→Prop}
  (hT:Triple P f args H1 O1 R) (hm:Models w H1 (O1++F1)) (hrun:(execOp a.eval o).run P w=.ok (.enter f args.toArray) w)
  (hn:∀ v w' H' O',R v H' O'→Heap.le H1 H'→Models w' H' (O'++F1)→next (a.put o.dst v) w'):o.wp P a w next Q:=by
 unfold Oper.wp
 rw[hrun,Oper.upon_enter]
 exact (hT w F1 hm).mono fun e w' ⟨v,H',O',he,hR,hle,hm'⟩=>by subst he;exact hn v w' H' O' hR hle hm'
theorem uR {a:Act} {w:World} {sem:Sem Next} {H1:Heap} {O1 F1:Own} {R:Value→Heap→Own→Prop} {next:Act→World→Prop} {Q:Exit→Act→World→Prop}
  (hT:ba P sem H1 O1 R) (hm:Models w H1 (O1++F1)) (hrun:(execOp a.eval o).run P w=sem.run P w)
  (hn:∀ v w' H' O',R v H' O'→Heap.le H1 H'→Models w' H' (O'++F1)→next (a.put o.dst v) w'):o.wp P a w next Q:=by
 unfold Oper.wp
 obtain⟨v,w',H',O',hr,hR,hle,hm'⟩:=hT w F1 hm
 rw[hrun,hr,Oper.upon_value]
 exact hn v w' H' O' hR hle hm'
theorem wv {f:FuncId} (h:mc P f) (args:Array Value) (w:World):(callFunc f args).run P w=.ok (.enter f args) w:=by
 obtain⟨fn,h1,h2,h3⟩:=h
 simp only[callFunc,Sem.run_bind,run_program,Result.andThen_ok,h1,h2,h3,Bool.false_eq_true,if_false]
 rfl
theorem yv {c:Call} {f:Operand} {n:FuncId} {caps:Array Value} {a:Act} (hop:o.op=.call c) (hcal:c.callee=.value f) (hf:a.eval f=.func (.func n) #[] caps) (hok:mc P n) (w:World) :
  (execOp a.eval o).run P w=.ok (.enter n (c.args.map a.eval++caps)) w:=by
 simp only[execOp,hop,resolve,hcal,hf,Deferred.ofValue,Sem.run_bind,Sem.run_pure,Result.andThen_ok,invoke,Array.empty_append,wv hok]
theorem Pz {c:Call} {x:Operand} {m:String} {f:FuncId} {v r:Value} {a:Act} (hop:o.op=.call c) (hcal:c.callee=.invoke x m) (hx:a.eval x=v) (hm:w9 P m v f r) (hok:mc P f) (w:World) :
  (execOp a.eval o).run P w=.ok (.enter f (#[r]++c.args.map a.eval)) w:=by
 obtain⟨t,y,rfl,hr⟩:=hm
 have e0:(#[Value.iface t y]++c.args.map a.eval)[0]?=some (.iface t y):=by
  rw[Array.getElem?_append_left (by simp)];rfl
 have e1:(#[Value.iface t y]++c.args.map a.eval).extract 1 (#[Value.iface t y]++c.args.map a.eval).size=c.args.map a.eval:=by
  apply Array.ext'
  rw[Array.toList_extract,Array.toList_append,List.extract,List.take_of_length_le (by simp)]
  rfl
 simp only[execOp,hop,resolve,hcal,hx,Sem.run_bind,Sem.run_pure,Result.andThen_ok,invoke,e0,e1,callMethod,run_program,hr,wv hok]
theorem y8 {s:SS} {gl:List (At × Bool)} {x y:Operand} {as:List At} {cs:List Ck} (h:eO s gl [x,y]=some (as,cs)):∃ a b,as=[a,b]:=by
 simp only[eO] at h
 split at h
 ·rename_i a c as' cs' h1 h2
  simp only[Option.some.injEq,Prod.mk.injEq] at h
  split at h2
  ·rename_i b c2 as2 cs2 h3 h4
   simp only[Option.some.injEq,Prod.mk.injEq] at h2 h4
   exact⟨a,b,by rw[← h.1,← h2.1,← h4.1]⟩
  ·simp at h2
 ·simp at h
theorem yp {F:Own} {H:Heap} {O:Own} {a:Act} {w:World} (h:Conc F s H O a w) {x y:Operand} {x' y':At} {cs:List Ck}
  (hx:eO s gl [x,y]=some ([x',y'],cs)) (hc:AllCk cs) (ho:On (li gl)):a.eval x=x'.den∧a.eval y=y'.den:=by
 have:=eZ h hx hc ho
 simpa using this
theorem zj {x:At} {n:Nat} {a:At} {c:List Ck} (h:Jg gl x n=some (a,c)):(AllCk c→x.ok→a.ok) ∧
  (AllCk c→On (li gl)→∃ ad,x.den=.pointer (some ad)∧a.den=.pointer (some (ad.add n))):=by
 have hp:∀ y:Value,Gk y=true→∃ ad,y=.pointer (some ad):=by
  intro y hy
  unfold Gk at hy;split at hy
  ·exact⟨_,rfl⟩
  ·simp at hy
 have hadd0:∀ ad:Addr,ad.add 0=ad:=fun ad=>by simp[Addr.add]
 cases x <;> simp only[Jg] at h
 case p n' r off =>
  simp only[Option.some.injEq,Prod.mk.injEq] at h
  obtain⟨rfl,rfl⟩:=h
  exact⟨fun _ _=>trivial,fun _ _=>⟨⟨r,off,none⟩,rfl,by rw[bK];rfl⟩⟩
 case px y off =>
  simp only[Option.some.injEq,Prod.mk.injEq] at h
  obtain⟨rfl,rfl⟩:=h
  refine⟨fun _ _=>trivial,fun hc ho=>?_⟩
  obtain⟨ad,rfl⟩:=hp y (hc.1 ho)
  exact⟨ad.add off,rfl,by simp[At.den,an,vP]⟩
 case v y =>
  simp only[Option.some.injEq,Prod.mk.injEq] at h
  obtain⟨rfl,rfl⟩:=h
  refine⟨fun hc ho=>?_,fun hc ho=>?_⟩
  ·split
   ·exact ho
   ·split
    ·rename_i he
     have:gl=[]:=by simpa using he
     subst this
     obtain⟨ad,rfl⟩:=hp y (hc.1 trivial)
     rfl
    ·trivial
  ·obtain⟨ad,rfl⟩:=hp y (hc.1 ho)
   refine⟨ad,rfl,?_⟩
   split
   ·rename_i h0;subst h0;rw[hadd0];rfl
   ·split <;> rfl
 case k y =>
  simp only[Option.some.injEq,Prod.mk.injEq] at h
  obtain⟨rfl,rfl⟩:=h
  refine⟨fun hc ho=>?_,fun hc ho=>?_⟩
  ·split
   ·exact ho
   ·split
    ·rename_i he
     have:gl=[]:=by simpa using he
     subst this
     obtain⟨ad,rfl⟩:=hp y (hc.1 trivial)
     rfl
    ·trivial
  ·obtain⟨ad,rfl⟩:=hp y (hc.1 ho)
   refine⟨ad,rfl,?_⟩
   split
   ·rename_i h0;subst h0;rw[hadd0];rfl
   ·split <;> rfl
 all_goals simp at h
theorem jR {i:At} {n:Nat} (h:jd i=some n):∃ k,i.den=.int k n:=by
 unfold jd at h
 split at h
 ·rename_i k m
  split at h
  ·rename_i h0
   simp only[Option.some.injEq] at h
   exact⟨k,by simp[At.den];omega⟩
  ·simp at h
 ·simp at h
theorem zC {t:TypeId} {x i:Operand} {x' i':At} {cs:List Ck} {y:NF} {fp:FP} (hop:o.op=.indexAddr t x i) (hx:eO s gl [x,i]=some ([x',i'],cs))
    (hg:aI (bo ops) s o=.go gl) (hd:∀ d,o.dst=some d→d < s.sz) (h:sK P gl o.dst t x' i' cs=some (y,fp)):Sound P ops o s y:=by
  have hok:=fun hs:s.Ok=>yj hs hx
  have ev:=fun {F H O a w} (hc:Conc F s H O a w) (hcs:AllCk cs) (hon:On (li gl))=>yp hc hx hcs hon
  unfold sK at h
  split at h
  · rename_i len elem hu
    cases hs:kO P elem with
    | none=>simp[hs] at h
    | some size =>
      simp only[hs,Option.bind_some] at h
      have harr:∀ {ad:Addr} {k:IntKind} {n:Int},0≤n∧n < len→∀ w,(Instr.indexAt t (.pointer (some ad)) (.int k n)).run P w=.ok (.pointer (some (ad.add (n.toNat * size)))) w :=
        fun hb w=>IV hu hs (by simp[fA,hb]) w
      split at h
      · rename_i n hn
        split at h
        · rename_i hlt
          simp only[Option.map_eq_some_iff,Prod.mk.injEq] at h
          obtain⟨⟨a',c⟩,hm,rfl,_⟩:=h
          obtain⟨h1,h2⟩:=zj hm
          refine bQ (X:=fun _=>.at a') hg hd ?_ ?_
          · intro H O vs hs' hc _
            rw[AllCk.append] at hc
            exact gq (h1 hc.1 (hok hs' x' (by simp)))
          · intro F H O a w vs hc hcs _ hon
            rw[AllCk.append] at hcs
            obtain⟨e1,e2⟩:=ev hc hcs.2 hon
            obtain⟨ad,hx',ha'⟩:=h2 hcs.1 hon
            obtain⟨k,hk⟩:=jR hn
            simp only[execOp,hop,e1,e2,hx',hk,Sem.run_bind,harr (ad:=ad) (k:=k) (n:=n) (by omega),Result.andThen_ok,Sem.run_pure,S1.den,ha',Int.toNat_natCast]
        · simp at h
      · split at h
        · rename_i n r off
          split at h
          · rename_i hcond
            simp only[Bool.and_eq_true,List.isEmpty_iff,decide_eq_true_eq] at hcond
            obtain⟨rfl,_⟩:=hcond
            simp only[Option.some.injEq,Prod.mk.injEq] at h
            obtain⟨rfl,_⟩:=h
            refine bQ (gl:=[]) (X:=fun vs=>.at (.p n r (off + (match g vs 0 with | .int _ n=>n.toNat | _=>0) * size))) hg hd (fun _ _ _ _ _ _=>gq trivial) ?_
            rintro F H O a w vs hc hcs ⟨kd,j,hj,h0,h1,rfl⟩ hon
            obtain⟨e1,e2⟩:=ev hc hcs hon
            have e1':a.eval x=.pointer (some ⟨r,off,none⟩):=e1
            simp only[execOp,hop,e1',e2,hj,Sem.run_bind,harr (ad:=⟨r,off,none⟩) (k:=kd) (n:=j) ⟨h0,h1⟩,Result.andThen_ok,Sem.run_pure,S1.den,bK]
            rfl
          · simp at h
        all_goals first
          | (simp at h;done)
          | (split at h
             · simp at h
             · simp only[Option.some.injEq,Prod.mk.injEq] at h
               obtain⟨rfl,_⟩:=h
               refine bc hg hd (by simp) ?_
               intro F H O a w v hc hcs hon he
               obtain⟨e1,e2⟩:=ev hc hcs hon
               simp only[List.map_cons,List.map_nil,al] at he
               simp only[execOp,hop,e1,e2,Sem.run_bind,IV hu hs he,Result.andThen_ok,Sem.run_pure])
  · rename_i elem hu
    cases hs:kO P elem with
    | none=>simp[hs] at h
    | some size =>
      simp only[hs,Option.bind_some] at h
      have gen:∀ {y fp},some (fE gl false o.dst (.idx size) [x',i'] cs,({}:FP))=some (y,fp)→Sound P ops o s y:=by
        intro y fp h
        simp only[Option.some.injEq,Prod.mk.injEq] at h
        obtain⟨rfl,_⟩:=h
        refine bc hg hd (by simp) ?_
        intro F H O a w v hc hcs hon he
        obtain⟨e1,e2⟩:=ev hc hcs hon
        simp only[List.map_cons,List.map_nil,al] at he
        simp only[execOp,hop,e1,e2,Sem.run_bind,LK hu hs he,Result.andThen_ok,Sem.run_pure]
      split at h
      · rename_i n r off len c k hk
        split at h
        · rename_i hlt
          simp only[Option.some.injEq,Prod.mk.injEq] at h
          obtain⟨rfl,_⟩:=h
          refine bQ (X:=fun _=>.at (.p n r (off + k * size))) hg hd (fun _ _ _ _ _ _=>gq trivial) ?_
          intro F H O a w vs hc hcs _ hon
          obtain⟨e1,e2⟩:=ev hc hcs hon
          obtain⟨kd,hkd⟩:=jR hk
          have:(Instr.indexAt t (.slice (some ⟨r,off,none⟩) len c) (.int kd k)).run P w=.ok (.pointer (some ⟨r,off + k * size,none⟩)) w :=
            LK hu hs (by simp[nN,hlt,bK]) w
          have e1':a.eval x=.slice (some ⟨r,off,none⟩) len c:=e1
          simp only[execOp,hop,e1',e2,hkd,Sem.run_bind,this,Result.andThen_ok,Sem.run_pure]
          rfl
        · simp at h
      · exact gen h
  · simp at h

theorem DR {F:Own} {H:Heap} {O:Own} {a:Act} {w:World} (h:Conc F s H O a w) {x:Option Operand} {l:List At} {cs:List Ck}
  (hx:eO s gl x.toList=some (l,cs)) (hc:AllCk cs) (ho:On (li gl)):x.map a.eval=l.head?.map At.den∧(l.head?.isSome=x.isSome)∧l=l.head?.toList:=by
 have hd:=eZ h hx hc ho
 cases x with
 | none =>
  simp only[Option.toList,eO,Option.some.injEq,Prod.mk.injEq] at hx
  rw[← hx.1];simp
 | some y =>
  simp only[Option.toList,List.map_cons,List.map_nil] at hd
  match l,hd with
  | [b],hd=>simp at hd;simp[hd]
  | [],hd=>simp at hd
  | _::_::_,hd=>simp at hd
theorem Lo (lo hi mx:Option Value):fP [lo.isSome,hi.isSome,mx.isSome] (lo.toList++hi.toList++mx.toList)=[lo,hi,mx]:=by
 cases lo <;> cases hi <;> cases mx <;> rfl
theorem Lp (lo hi:Option Value):fP [lo.isSome,hi.isSome] (lo.toList++hi.toList++[])=[lo,hi]:=by
 cases lo <;> cases hi <;> rfl
theorem B6 (x:Option At):x.toList.map At.den=(x.map At.den).toList:=by cases x <;> rfl
theorem j9 {x:Option At} {d n y:Nat} (h:(x.map jd).getD (some d)=some n) (hy:n≤y):cK (x.map At.den) y d=some n∧eS (x.map At.den) false y d=some n:=by
 cases x with
 | none=>simpa [cK,eS] using h
 | some a =>
  simp only[Option.map_some,Option.getD_some] at h
  obtain⟨k,hk⟩:=jR h
  simp[hk,cK,eS,pY,asI,hy]
theorem Ht {t:TypeId} {x:Operand} {lo hi mx:Option Operand} {x':At} {l h' m:List At} {c0 c1 c2 c3:List Ck} {y:NF} {fp:FP} (hop:o.op=.slice t x lo hi mx)
  (h0:jq s gl x=some (x',c0)) (h1:eO s gl lo.toList=some (l,c1)) (h2:eO s gl hi.toList=some (h',c2)) (h3:eO s gl mx.toList=some (m,c3))
  (hg:aI (bo ops) s o=.go gl) (hd:∀ d,o.dst=some d→d < s.sz) (h:Hu P gl o.dst t x' l.head? h'.head? m.head? (c0++c1++c2++c3)=some (y,fp)):Sound P ops o s y:=by
 have ev:∀ {F H O a w},Conc F s H O a w→AllCk (c0++c1++c2++c3)→On (li gl)→a.eval x=x'.den∧lo.map a.eval=l.head?.map At.den∧hi.map a.eval=h'.head?.map At.den∧mx.map a.eval=m.head?.map At.den:=by
  intro F H O a w hc hcs hon
  simp only[AllCk.append] at hcs
  exact⟨aP hc h0 hcs.1.1.1 hon,(DR hc h1 hcs.1.1.2 hon).1,(DR hc h2 hcs.1.2 hon).1,(DR hc h3 hcs.2 hon).1⟩
 generalize l.head?=lo' at h ev
 generalize h'.head?=hi' at h ev
 generalize m.head?=mx' at h ev
 unfold Hu at h
 simp only[] at h
 split at h
 ·rename_i hu
  split at h
  ·simp at h
  ·rename_i hmx
   simp only[Option.some.injEq,Prod.mk.injEq] at h
   obtain⟨rfl,_⟩:=h
   have hmx':mx'=none:=by cases mx' <;> simp_all
   subst hmx'
   refine bc hg hd (by simp) ?_
   intro F H O a w v hc hcs hon he
   obtain⟨e0,e1,e2,e3⟩:=ev hc hcs hon
   simp only[List.map_cons,List.map_append,al,B6,Option.toList_none,List.map_nil,List.append_nil] at he
   have hta:=Lp (lo'.map At.den) (hi'.map At.den)
   simp only[List.append_nil,Option.isSome_map] at hta
   rw[hta] at he
   simp only[Option.map_none] at e3
   simp only[execOp,hop,e0,e1,e2,e3,Sem.run_bind,OR hu he,Result.andThen_ok,Sem.run_pure]
 ·rename_i elem hu
  cases hs:kO P elem with
  | none=>simp[hs] at h
  | some size =>
   simp only[hs,Option.bind_some] at h
   have gen:∀ {y fp},some (fE gl false o.dst (.slc size lo'.isSome hi'.isSome mx'.isSome) (x'::(lo'.toList++hi'.toList++mx'.toList)) (c0++c1++c2++c3),({}:FP))=some (y,fp)→Sound P ops o s y:=by
    intro y fp h
    simp only[Option.some.injEq,Prod.mk.injEq] at h
    obtain⟨rfl,_⟩:=h
    refine bc hg hd (by simp) ?_
    intro F H O a w v hc hcs hon he
    obtain⟨e0,e1,e2,e3⟩:=ev hc hcs hon
    simp only[List.map_cons,List.map_append,al,B6] at he
    have hta:=Lo (lo'.map At.den) (hi'.map At.den) (mx'.map At.den)
    simp only[Option.isSome_map] at hta
    rw[hta] at he
    simp only[execOp,hop,e0,e1,e2,e3,Sem.run_bind,LI hu hs he,Result.andThen_ok,Sem.run_pure]
   split at h
   ·rename_i l'' h'' n r off len cap
    split at h
    ·rename_i l3 h3' hl hh
     split at h
     ·rename_i hcond
      simp only[Bool.and_eq_true,decide_eq_true_eq] at hcond
      simp only[Option.some.injEq,Prod.mk.injEq] at h
      obtain⟨rfl,_⟩:=h
      refine bQ (X:=fun _=>.at (.sl n r (if cap=l3 then off else off + l3 * size) (h3' - l3) (cap - l3))) hg hd (fun _ _ _ _ _ _=>gq trivial) ?_
      intro F H O a w vs hc hcs _ hon
      obtain⟨e0,e1,e2,e3⟩:=ev hc hcs hon
      have hb:js size (.slice (some ⟨r,off,none⟩) len cap) (lo'.map At.den) (hi'.map At.den) none =
        some (.slice (if cap=l3 then some ⟨r,off,none⟩ else some ⟨r,off + l3 * size,none⟩) (h3' - l3) (cap - l3)):=by
       have b1:=(j9 (x:=hi') (d:=len) (n:=h3') (y:=cap) hh hcond.2).2
       have b2:=(j9 (x:=lo') (d:=0) (n:=l3) (y:=h3') hl hcond.1).1
       have b3:ce len cap (lo'.map At.den) (hi'.map At.den) none=some (l3,h3',cap):=by
        show ((eS (hi'.map At.den) false cap len).bind fun h=>(cK (lo'.map At.den) h 0).bind fun l=>some (l,h,cap))=_
        rw[b1];simp only[Option.bind_some]
        rw[b2];rfl
       simp only[js,b3,Option.map_some,bK]
      have e0':a.eval x=.slice (some ⟨r,off,none⟩) len cap:=e0
      simp only[Option.map_none] at e3
      simp only[execOp,hop,e0',e1,e2,e3,Sem.run_bind,LI hu hs hb,Result.andThen_ok,Sem.run_pure,S1.den,At.den]
      split <;> rfl
     ·simp at h
    ·exact gen h
   ·exact gen h
 ·rename_i len elem hu
  cases hs:kO P elem with
  | none=>simp[hs] at h
  | some size =>
   simp only[hs,Option.bind_some] at h
   split at h
   ·rename_i l'' h'' n r off
    split at h
    ·rename_i l3 h3' hl hh
     split at h
     ·rename_i hcond
      simp only[Bool.and_eq_true,decide_eq_true_eq] at hcond
      simp only[Option.some.injEq,Prod.mk.injEq] at h
      obtain⟨rfl,_⟩:=h
      refine bQ (X:=fun _=>.at (.sl n r (if len=l3 then off else off + l3 * size) (h3' - l3) (len - l3))) hg hd (fun _ _ _ _ _ _=>gq trivial) ?_
      intro F H O a w vs hc hcs _ hon
      obtain⟨e0,e1,e2,e3⟩:=ev hc hcs hon
      have hb:ce len len (lo'.map At.den) (hi'.map At.den) none=some (l3,h3',len):=by
       have b1:=(j9 (x:=hi') (d:=len) (n:=h3') (y:=len) hh hcond.2).2
       have b2:=(j9 (x:=lo') (d:=0) (n:=l3) (y:=h3') hl hcond.1).1
       show ((cK none len len).bind fun m=>(eS (hi'.map At.den) false m len).bind fun h=>(cK (lo'.map At.den) h 0).bind fun l=>some (l,h,m))=_
       show ((eS (hi'.map At.den) false len len).bind fun h=>(cK (lo'.map At.den) h 0).bind fun l=>some (l,h,len))=_
       rw[b1];simp only[Option.bind_some]
       rw[b2];rfl
      have e0':a.eval x=.pointer (some ⟨r,off,none⟩):=e0
      simp only[Option.map_none] at e3
      simp only[execOp,hop,e0',e1,e2,e3,Sem.run_bind,Ff hu hs hb,Result.andThen_ok,Sem.run_pure,S1.den,At.den]
      split <;> rfl
     ·simp at h
    ·simp at h
   ·rename_i l'' h'' r off
    split at h
    ·rename_i l3 h3' hl hh
     split at h
     ·rename_i hcond
      simp only[Bool.and_eq_true,decide_eq_true_eq] at hcond
      simp only[Option.some.injEq,Prod.mk.injEq] at h
      obtain⟨rfl,_⟩:=h
      refine bQ (X:=fun _=>.at (.k (.slice (some ⟨r,if len=l3 then off else off + l3 * size,none⟩) (h3' - l3) (len - l3)))) hg hd (fun _ _ _ _ _ _=>gq trivial) ?_
      intro F H O a w vs hc hcs _ hon
      obtain⟨e0,e1,e2,e3⟩:=ev hc hcs hon
      have hb:ce len len (lo'.map At.den) (hi'.map At.den) none=some (l3,h3',len):=by
       have b1:=(j9 (x:=hi') (d:=len) (n:=h3') (y:=len) hh hcond.2).2
       have b2:=(j9 (x:=lo') (d:=0) (n:=l3) (y:=h3') hl hcond.1).1
       show ((cK none len len).bind fun m=>(eS (hi'.map At.den) false m len).bind fun h=>(cK (lo'.map At.den) h 0).bind fun l=>some (l,h,m))=_
       show ((eS (hi'.map At.den) false len len).bind fun h=>(cK (lo'.map At.den) h 0).bind fun l=>some (l,h,len))=_
       rw[b1];simp only[Option.bind_some]
       rw[b2];rfl
      have e0':a.eval x=.pointer (some ⟨r,off,none⟩):=e0
      simp only[Option.map_none] at e3
      simp only[execOp,hop,e0',e1,e2,e3,Sem.run_bind,Ff hu hs hb,Result.andThen_ok,Sem.run_pure,S1.den,At.den]
      split <;> rfl
     ·simp at h
    ·simp at h
   ·simp at h
 ·simp at h
variable {P:Program} {ops:Array Oper} {o:Oper} {s:SS} {gl:List (At × Bool)}
theorem BY {sp:Bool} {x:Operand} {y:NF} {fp:FP} (hrun:∀ a:Act,∀ w,(execOp a.eval o).run P w=.ok (.value (a.eval x)) w)
  (hg:aI (bo ops) s o=.go gl) (hd:∀ d,o.dst=some d→d < s.sz) (h:tQ s gl o.dst sp x=some (y,fp)):Sound P ops o s y:=by
 have gen:∀ {v:S1} {cs:List Ck},qL s gl x=some (v,cs)→cJ gl o.dst v cs=some (y,fp)→Sound P ops o s y:=by
  intro v cs hx h
  exact aX hg hd h (fun hs _=>gK hs hx) (fun F H O a w hc hcs hon=>by rw[hrun,gy hc hx hcs hon])
 have gen':((qL s gl x).bind fun (v,cs)=>cJ gl o.dst v cs)=some (y,fp)→Sound P ops o s y:=by
  intro h
  simp only[Option.bind_eq_some_iff] at h
  obtain⟨⟨v,cs⟩,hx,h⟩:=h
  exact gen hx h
 unfold tQ at h
 split at h
 ·split at h
  ·rename_i hgl
   have:gl=[]:=by simpa using hgl
   subst this
   simp only[Option.bind_eq_some_iff] at h
   obtain⟨⟨a',cs⟩,hx,h⟩:=h
   simp only[] at h
   split at h
   ·exact gen (DU hx) h
   ·simp only[Option.some.injEq,Prod.mk.injEq] at h
    obtain⟨rfl,_⟩:=h
    refine bQ (gl:=[]) (X:=fun vs=>.at (.k (g vs 0))) hg hd (fun _ _ _ _ _ _=>EZ _) ?_
    rintro F H O a w vs hc hcs ⟨b,hb,rfl⟩ hon
    rw[hrun,aP hc hx hcs hon,hb];rfl
  ·simp at h
 ·cases x with
  | tmp t =>
   simp only[] at h
   split at h
   ·rename_i l hl
    split at h
    ·rename_i hgl
     have:gl=[]:=by simpa using hgl
     subst this
     simp only[Option.some.injEq,Prod.mk.injEq] at h
     obtain⟨rfl,_⟩:=h
     intro F H O a w d K Q hc hr
     obtain⟨_,vs,_,hk⟩:=hr
     unfold wp1
     rw[if_pos ((jb hc hg).2 trivial)]
     refine .inl ?_
     unfold Oper.wp
     rw[hrun,Oper.upon_value]
     have ht:=hc.tm t
     rw[hl] at ht
     have hok:=hc.ok.1 t
     rw[hl] at hok
     exact⟨_,H,O,hc.put (sv:=.tup l) hd ht hok,Heap.le_refl H,hk⟩
    ·simp at h
   ·exact gen' h
  | const v=>exact gen' h
  | global n=>exact gen' h
  | func f=>exact gen' h
theorem J1 {c a b:Operand} {y:NF} {fp:FP} (hop:o.op=.pick c a b)
  (hg:aI (bo ops) s o=.go gl) (hd:∀ d,o.dst=some d→d < s.sz) (h:BR s gl o.dst c a b=some (y,fp)):Sound P ops o s y:=by
 unfold BR at h
 simp only[Option.bind_eq_some_iff] at h
 obtain⟨⟨c',cs⟩,hc',h⟩:=h
 simp only[] at h
 split at h
 ·simp only[Option.bind_eq_some_iff] at h
  obtain⟨⟨v,cs'⟩,hv,h⟩:=h
  refine aX hg hd h (fun hs _=>gK hs hv) ?_
  intro F H O a' w hc hcs hon
  rw[AllCk.append] at hcs
  have e1:a'.eval c=.bool true:=aP hc hc' hcs.1 hon
  have e2:=gy hc hv hcs.2 hon
  simp[execOp,hop,e1,asBool,e2]
 ·simp only[Option.bind_eq_some_iff] at h
  obtain⟨⟨v,cs'⟩,hv,h⟩:=h
  refine aX hg hd h (fun hs _=>gK hs hv) ?_
  intro F H O a' w hc hcs hon
  rw[AllCk.append] at hcs
  have e1:a'.eval c=.bool false:=aP hc hc' hcs.1 hon
  have e2:=gy hc hv hcs.2 hon
  simp[execOp,hop,e1,asBool,e2]
 ·split at h
  ·rename_i a1 ca b1 cb ha hb
   split at h
   ·rename_i hfit
    simp only[Bool.and_eq_true] at hfit
    simp only[Option.some.injEq,Prod.mk.injEq] at h
    obtain⟨rfl,_⟩:=h
    refine bc hg hd ?_ ?_
    ·intro _
     by_cases hs:s.Ok
     ·exact .inl ⟨At.fit_one hfit.1 (y9 hs ha),At.fit_one hfit.2 (y9 hs hb),trivial⟩
     ·exact .inr hs
    ·intro F H O a' w v hc hcs hon he
     simp only[AllCk.append] at hcs
     have e1:=aP hc hc' hcs.1.1 hon
     simp only[List.map_cons,List.map_nil] at he
     cases hcd:c'.den <;> simp only[hcd,al] at he <;> try (simp at he;done)
     rename_i bv
     simp only[Option.some.injEq] at he
     cases bv with
     | true =>
      have e2:=aP hc ha hcs.1.2 (gl:=(c',true)::gl) ⟨hcd,hon⟩
      simp only[if_true] at he
      simp[execOp,hop,e1,hcd,asBool,e2,he]
     | false =>
      have e2:=aP hc hb hcs.2 (gl:=(c',false)::gl) ⟨hcd,hon⟩
      simp only[Bool.false_eq_true,if_false] at he
      simp[execOp,hop,e1,hcd,asBool,e2,he]
   ·simp at h
  ·simp at h
theorem IC {T:TypeId} {parts:Array (Nat × Operand)} {y:NF} {fp:FP} (hop:o.op=.build T parts)
  (hg:aI (bo ops) s o=.go gl) (hd:∀ d,o.dst=some d→d < s.sz) (h:vL P s gl o.dst T parts.toList=some (y,fp)):Sound P ops o s y:=by
 unfold vL at h
 simp only[Option.bind_eq_some_iff] at h
 obtain⟨zero,hz,h⟩:=h
 obtain⟨z,hzr,hzc,hzk,hzo⟩:=j0 hz
 have hzc':z.cells=(zero.map At.den).toArray:=by rw[← hzc]
 have hparts:∀ a:Act,(parts.map fun p=>(p.1,a.eval p.2)).toList=parts.toList.map fun p=>(p.1,a.eval p.2):=fun a=>by simp
 split at h
 ·rename_i fs hu
  simp only[Option.bind_eq_some_iff] at h
  obtain⟨places,hp,⟨cells,cs⟩,hf,h⟩:=h
  refine aX hg hd h (fun hs _=>jP hs hf hzo) ?_
  intro F H O a w hc hcs hon
  have hfill:=yo hc hon hf hcs
  have hb:P.built T (parts.map fun p=>(p.1,a.eval p.2)).toList=some (cells.map At.den).toArray:=by
   unfold s5 at hz
   cases hi:P.info? T with
   | none=>simp[hi] at hz
   | some i =>
    simp only[hi,Option.bind_some,Option.map_eq_some_iff] at hz
    obtain⟨z0,hz0,hz1⟩:=hz
    have:z0.cells=(zero.map At.den).toArray:=by rw[← hz1];simp[Function.comp_def,At.den]
    unfold Program.built
    simp only[hi,hu,hz0,hp,this,hparts]
    exact hfill
  simp only[execOp,hop,Sem.run_bind,run_build w T _ _ hb,Result.andThen_ok,Sem.run_pure]
  rfl
 ·rename_i n elem hu
  simp only[Option.bind_eq_some_iff] at h
  obtain⟨size,hs,⟨cells,cs⟩,hf,h⟩:=h
  refine aX hg hd h (fun hs' _=>jP hs' hf hzo) ?_
  intro F H O a w hc hcs hon
  have hfill:=yo hc hon hf hcs
  simp only[execOp,hop,Instr.build,Sem.run_bind,hzr,Result.andThen_ok,ar hu,aW hs,hparts,hzc',hfill,Sem.run_pure]
  rfl
 ·simp at h
theorem yf {name:Nat} {T:TypeId} {len:Nat} {parts:Array (Nat × Operand)} {y:NF} {fp:FP} (hop:o.op=.buildSlice T len parts)
  (hg:aI (bo ops) s o=.go gl) (hd:∀ d,o.dst=some d→d < s.sz) (h:hU P s gl o.dst name T len parts.toList=some (y,fp)):Sound P ops o s y:=by
 unfold hU at h
 split at h
 ·rename_i elem hu
  simp only[Option.bind_eq_some_iff] at h
  obtain⟨size,hs,zero,hz,h⟩:=h
  split at h
  ·rename_i hcond
   simp only[Bool.and_eq_true,decide_eq_true_eq] at hcond
   obtain⟨⟨hzl,hs0⟩,hlim⟩:=hcond
   simp only[Option.bind_eq_some_iff] at h
   obtain⟨⟨cells,cs⟩,hf,h⟩:=h
   obtain⟨z,hzr,hzc,hzk,hzo⟩:=j0 hz
   refine nQ hg hd h (fun _=>trivial) (fun _=>rfl) (fun hs'=>jP hs' hf (fun a ha=>hzo a (jg ha))) ?_
   intro F H O a w hc hcs hgl
   subst hgl
   refine⟨cells.map At.den,CellsRel.map cells,?_⟩
   have hfill:=yo (gl:=[]) hc trivial hf hcs
   have hzc':z.cells=(zero.map At.den).toArray:=by rw[← hzc]
   have hparts:(parts.map fun p=>(p.1,a.eval p.2)).toList=parts.toList.map fun p=>(p.1,a.eval p.2):=by simp
   have hlim':¬ (len * size > 2 ^ 24):=by have:(2:Nat) ^ 24=16777216:=rfl;omega
   have hrep:((Array.range (len * size)).map fun i=>(zero.map At.den).toArray[i % (zero.map At.den).toArray.size]!)=((cE zero len).map At.den).toArray:=by
    have:=ib (zero.map At.den) (by rw[List.length_map,hzl];exact hs0) len
    apply Array.ext'
    rw[kS,← this]
    simp[hzl]
   by_cases h0:len * size=0
   ·have hl0:len=0:=by
     rcases Nat.mul_eq_zero.1 h0 with h | h
     ·exact h
     ·exact absurd h hs0
    subst hl0
    simp only[cE,List.map_nil] at hfill
    simp only[execOp,hop,Instr.buildSlice,Sem.run_bind,ar hu,Result.andThen_ok,aW hs,Nat.zero_mul,hparts]
    simp only[Nat.not_lt_zero,gt_iff_lt,if_false,if_true,Sem.run_bind,Sem.run_pure,Result.andThen_ok,show Array.range 0=#[] from rfl,Array.map_empty,hfill,newRow,run_newObj]
    rfl
   ·simp only[execOp,hop,Instr.buildSlice,Sem.run_bind,ar hu,Result.andThen_ok,aW hs,hlim',if_false,h0,hzr,Sem.run_pure,hzc',hrep,hparts,hfill,newRow,run_newObj]
    rfl
  ·simp at h
 ·simp at h
theorem zm {name:Nat} {t:TypeId} {l c:Operand} {y:NF} {fp:FP} {n m:Nat} {elem:TypeId} (hop:o.op=.makeSlice t l c)
  (hg:aI (bo ops) s o=.go gl) (hd:∀ d,o.dst=some d→d < s.sz) (hl:rl l=some n) (hc0:rl c=some m) (hu:P.underlying t=some (.slice elem))
  (h:gQ P s gl o.dst name t l c=some (y,fp)):Sound P ops o s y:=by
 unfold gQ at h
 rw[hl,hc0,hu] at h
 simp only[Option.bind_eq_some_iff] at h
 obtain⟨size,hs,zero,hz,h⟩:=h
 split at h
 ·rename_i hcond
  simp only[Bool.and_eq_true,decide_eq_true_eq] at hcond
  obtain⟨⟨⟨⟨hzl,hs0⟩,hnm⟩,hlim⟩,hby⟩:=hcond
  obtain⟨z,hzr,hzc,hzk,hzo⟩:=j0 hz
  have hk:∀ {x:Operand} {k:Nat},rl x=some k→x=.const (.int .i64 k)∧k≤65536:=by
   intro x k hx
   unfold rl at hx
   split at hx
   ·split at hx
    ·rename_i v hv
     simp only[Option.some.injEq] at hx
     subst hx
     exact⟨by congr 2;omega,by omega⟩
    ·simp at hx
   ·simp at hx
  obtain⟨rfl,hn6⟩:=hk hl
  obtain⟨rfl,hm6⟩:=hk hc0
  refine nQ hg hd h (fun _=>trivial) (fun _=>rfl) (fun _=>fun a ha=>hzo a (jg ha)) ?_
  intro F H O a w hc hcs hgl
  subst hgl
  refine⟨(cE zero m).map At.den,CellsRel.map _,?_⟩
  have hzc':z.cells=(zero.map At.den).toArray:=by rw[← hzc]
  have hrep:((Array.range (m * size)).map fun i=>(zero.map At.den).toArray[i % (zero.map At.den).toArray.size]!)=((cE zero m).map At.den).toArray:=by
   have:=ib (zero.map At.den) (by rw[List.length_map,hzl];exact hs0) m
   apply Array.ext'
   rw[kS,← this]
   simp[hzl]
  cases hi:P.info? elem with
  | none=>rw[hi] at hby;simp at hby
  | some i =>
   rw[hi] at hby
   simp only[Option.map_some,Option.getD_some,decide_eq_true_eq] at hby
   have w1:IntKind.i64.wrap (n:Int)=n:=by simp only[IntKind.wrap,IntKind.bits,IntKind.signed];simp;omega
   have w2:IntKind.i64.wrap (m:Int)=m:=by simp only[IntKind.wrap,IntKind.bits,IntKind.signed];simp;omega
   have hby':¬ ((i.bytes:Int) * (m:Int) > 2 ^ 48):=by
    have:((i.bytes * m:Nat):Int)≤((2 ^ 48:Nat):Int):=Int.ofNat_le.2 hby
    have e:((i.bytes * m:Nat):Int)=(i.bytes:Int) * (m:Int):=Int.natCast_mul _ _
    have e2:((2 ^ 48:Nat):Int)=2 ^ 48:=by rfl
    omega
   have hcnd:¬ (((decide ((m:Int) < 0) || decide ((i.bytes:Int) * (m:Int) > 2 ^ 48)) || decide ((n:Int) < 0) || decide ((n:Int) > (m:Int)))=true):=by
    simp only[Bool.or_eq_true,decide_eq_true_eq]
    omega
   have hti:(typeInfo elem).run P w=.ok i w:=by simp[typeInfo,hi]
   have hA:∀ k:Nat,(asInt (.int .i64 (k:Int))).run P w=.ok (k:Int) w:=fun k=>rfl
   have hms:(Instr.makeSlice t (.int .i64 (n:Int)) (.int .i64 (m:Int))).run P w=.ok (.slice (some ⟨w.heap.size,0,none⟩) n m) { w with heap:=w.heap.push (.cells ((cE zero m).map At.den).toArray elem (0,0)) }:=by
    unfold Instr.makeSlice
    rw[Sem.run_bind,ar hu]
    simp only[Result.andThen_ok]
    rw[Sem.run_bind,hA,Result.andThen_ok,Sem.run_bind,hA,Result.andThen_ok,Sem.run_bind,hti,Result.andThen_ok]
    simp only[w1,w2]
    rw[if_neg hcnd]
    by_cases h0:m * size=0
    ·have hm0:m=0:=(Nat.mul_eq_zero.1 h0).resolve_right hs0
     subst hm0
     simp only[Sem.run_bind,run_askRoom,aW hs,Result.andThen_ok,Int.toNat_natCast,Nat.zero_mul,if_true,Sem.run_pure,show Array.range 0=#[] from rfl,Array.map_empty,newRow,run_newObj,cE,List.map_nil]
    ·simp only[Sem.run_bind,run_askRoom,aW hs,Result.andThen_ok,Int.toNat_natCast,h0,if_false,hzr,Sem.run_pure,hzc',hrep,newRow,run_newObj]
   simp only[execOp,hop,Act.eval,Sem.run_bind,hms,Result.andThen_ok,Sem.run_pure]
   rfl
 ·simp at h
variable {P:Program} {ops:Array Oper} {o:Oper} {s:SS} {gl:List (At × Bool)}
theorem vt {y:Value} (h:Gk y=true):∃ ad,y=.pointer (some ad):=by
 unfold Gk at h;split at h
 ·exact⟨_,rfl⟩
 ·simp at h
theorem MH {x:Operand} {x':At} {cs:List Ck} {y:NF} {fp:FP} (hop:o.op=.nilCheck x) (hx:jq s gl x=some (x',cs))
  (hg:aI (bo ops) s o=.go gl) (hd:∀ d,o.dst=some d→d < s.sz) (h:Sj gl o.dst x' cs=some (y,fp)):Sound P ops o s y:=by
 have hok:=fun hs:s.Ok=>y9 hs hx
 unfold Sj at h
 split at h
 ·refine aX hg hd h (fun hs _=>gq (hok hs)) ?_
  intro F H O a w hc hcs hon
  have e:=aP hc hx hcs hon
  simp only[execOp,hop,e];rfl
 ·refine aX hg hd h (fun hs _=>gq (hok hs)) ?_
  intro F H O a w hc hcs hon
  have e:=aP hc hx hcs hon
  simp only[execOp,hop,e];rfl
 ·refine aX hg hd h (fun hs _=>gq (hok hs)) ?_
  intro F H O a w hc hcs hon
  have e:=aP hc hx hcs.2 hon
  obtain⟨ad,had⟩:=vt (hcs.1 hon)
  subst had
  simp only[execOp,hop,e];rfl
 ·refine aX hg hd h (fun hs _=>gq (hok hs)) ?_
  intro F H O a w hc hcs hon
  have e:=aP hc hx hcs.2 hon
  obtain⟨ad,had⟩:=vt (hcs.1 hon)
  subst had
  simp only[execOp,hop,e];rfl
 ·refine aX hg hd h (fun hs _=>gq (hok hs)) ?_
  intro F H O a w hc hcs hon
  have e:=aP hc hx hcs.2 hon
  obtain⟨ad,had⟩:=vt (hcs.1 hon)
  subst had
  simp only[execOp,hop,e];rfl
 ·simp at h
theorem Me {s:SS} {gl:List (At × Bool)} {x y:Operand} {as:List S1} {cs:List Ck} (h:oM s gl [x,y]=some (as,cs)):∃ a b,as=[a,b]:=by
 simp only[oM] at h
 split at h
 ·rename_i a c as' cs' h1 h2
  simp only[Option.some.injEq,Prod.mk.injEq] at h
  split at h2
  ·rename_i b c2 as2 cs2 h3 h4
   simp only[Option.some.injEq,Prod.mk.injEq] at h2 h4
   exact⟨a,b,by rw[← h.1,← h2.1,← h4.1]⟩
  ·simp at h2
 ·simp at h
theorem SE {op:BinOp} {t yt:TypeId} {x y:Operand} {X Y v:Value} (hop:o.op=.binOp op t x y yt) {a:Act} (ex:a.eval x=X) (ey:a.eval y=Y)
  (h:∀ w,((PrimOp.eqv op t (vu x || vu y)).sem [X,Y]).run P w=.ok (.value v) w) (w:World):(execOp a.eval o).run P w=.ok (.value v) w:=by
 have hw:=h w
 simp only[PrimOp.sem] at hw
 simp only[execOp,hop,ex,ey]
 have:(eqGuard op t x y X Y)=(eqGuard op t (if (vu x || vu y)=true then .const undef else .global 0) (.global 0) X Y):=by
  unfold eqGuard
  cases x <;> cases y <;> rfl
 rw[this];exact hw
theorem Og {op:BinOp} {t yt:TypeId} {x y:Operand} {z:NF} {fp:FP} (hop:o.op=.binOp op t x y yt)
    (hg:aI (bo ops) s o=.go gl) (hd:∀ d,o.dst=some d→d < s.sz) (h:IH P s gl o.dst op t x y=some (z,fp)):Sound P ops o s z:=by
  unfold IH at h
  split at h
  · rename_i bk hbk
    simp only[Option.bind_eq_some_iff] at h
    obtain⟨⟨as,cs⟩,hx,h⟩:=h
    obtain⟨x',y',rfl⟩:=y8 hx
    simp only[Option.some.injEq,Prod.mk.injEq] at h
    obtain⟨rfl,_⟩:=h
    refine bc hg hd (by simp) ?_
    intro F H O a w v hc hcs hon he
    obtain⟨e1,e2⟩:=yp hc hx hcs hon
    simp only[List.map_cons,List.map_nil,al] at he
    simp only[execOp,hop,e1,e2]
    rw[Sem.run_bind,RJ hbk he];rfl
  · split at h
    all_goals first
      | (simp at h;done)
      | (simp only[Option.bind_eq_some_iff] at h
         obtain⟨⟨as,cs⟩,hx,h⟩:=h
         obtain⟨x',y',rfl⟩:=Me hx
         simp only[Option.some.injEq,Prod.mk.injEq] at h
         obtain⟨rfl,_⟩:=h
         refine bQ (X:=fun vs=>.at (.v (g vs 0))) hg hd ?_ ?_
         · rintro H O vs _ _ ⟨v,rfl,_,hone⟩;exact gq hone
         · rintro F H O a w vs hc hcs ⟨v,rfl,he,_⟩ hon
           have e:=pm hc hx hcs hon
           simp only[List.map_cons,List.map_nil,List.cons.injEq,and_true] at e
           exact SE hop e.1 e.2 (he hon) w)

theorem OJ {op:UnOp} {t:TypeId} {x:Operand} {x':At} {cs:List Ck} {z:NF} {fp:FP} (hop:o.op=.unOp op t x) (hx:jq s gl x=some (x',cs))
    (hg:aI (bo ops) s o=.go gl) (hd:∀ d,o.dst=some d→d < s.sz) (h:Vk P gl o.dst op t x' cs=some (z,fp)):Sound P ops o s z:=by
  unfold Vk at h
  split at h
  all_goals first
    | (simp at h;done)
    | (simp only[Option.some.injEq,Prod.mk.injEq] at h
       obtain⟨rfl,_⟩:=h
       refine bc hg hd (by simp) ?_
       intro F H O a w v hc hcs hon he
       have e:=aP hc hx hcs hon
       simp only[List.map_cons,List.map_nil] at he
       simp only[execOp,hop,e]
       cases hv:x'.den <;> simp only[hv,al,reduceCtorEq,bq,Option.some.injEq] at he
       subst he
       rfl)

theorem KC {ta tb:TypeId} {x:Operand} {x':At} {cs:List Ck} {z:NF} {fp:FP} (hop:o.op=.convert ta tb x) (hx:jq s gl x=some (x',cs))
  (hg:aI (bo ops) s o=.go gl) (hd:∀ d,o.dst=some d→d < s.sz) (h:CG P s gl o.dst ta tb x' cs=some (z,fp)):Sound P ops o s z:=by
 unfold CG at h
 split at h
 ·rename_i k0 k hu1 hu2
  simp only[Option.some.injEq,Prod.mk.injEq] at h
  obtain⟨rfl,_⟩:=h
  refine bc hg hd (by simp) ?_
  intro F H O a w v hc hcs hon he
  have e:=aP hc hx hcs hon
  simp only[List.map_cons,List.map_nil] at he
  cases hv:x'.den <;> simp only[hv,al,reduceCtorEq,Option.some.injEq] at he
  subst he
  simp only[execOp,hop,e,hv,convert,Sem.run_bind,ar hu1,ar hu2,Result.andThen_ok,Conv.intToInt,Sem.run_pure]
 ·split at h
  ·rename_i hgl
   have:gl=[]:=by simpa using hgl
   subst this
   refine ec rfl hg hd h ?_
   intro F H O a w hc hcs H1 O1 R hT F1 hm next Q hn
   have e:=aP hc hx hcs trivial
   exact uR hT hm (by simp only[execOp,hop,e,PrimOp.sem]) hn
  ·simp at h
theorem HZ {t:TypeId} {x:Operand} {z:NF} {fp:FP} (hop:o.op=.makeInterface t x)
  (hg:aI (bo ops) s o=.go gl) (hd:∀ d,o.dst=some d→d < s.sz) (h:vv P s gl o.dst t x=some (z,fp)):Sound P ops o s z:=by
 unfold vv at h
 split at h
 ·simp at h
 ·simp at h
 ·rename_i d hni hu
  simp only[Option.bind_eq_some_iff] at h
  obtain⟨⟨v,cs⟩,hx,h⟩:=h
  simp only[] at h
  split at h
  ·refine aX hg hd h (fun _ _=>gq rfl) ?_
   intro F H O a w hc hcs hon
   have e:=gy hc hx hcs hon
   simp only[execOp,hop,e,Instr.makeInterface,Sem.run_bind,ar hu,Result.andThen_ok]
   cases d <;> first | rfl | exact absurd hu (hni _)
  ·split at h
   ·rename_i hgl
    have:gl=[]:=by simpa using hgl
    subst this
    refine ec rfl hg hd h ?_
    intro F H O a w hc hcs H1 O1 R hT F1 hm next Q hn
    have e:=gy hc hx hcs trivial
    refine uR hT hm ?_ hn
    rcases v with c | l
    ·simp only[execOp,hop,e,S1.isAgg,S1.cells,S1.den,PrimOp.sem,List.map_cons,List.map_nil]
    ·simp only[execOp,hop,e,S1.isAgg,S1.cells,S1.den,PrimOp.sem]
   ·simp at h
theorem GH:∀ {as:List At} {l:List Cp},wt as=some l→l.map Cp.den=as.map At.den
 | [],l,h=>by simp only[wt,Option.some.injEq] at h;subst h;rfl
 | a::r,l,h=>by
  cases a <;> simp only[wt,Option.map_eq_some_iff,reduceCtorEq] at h
  all_goals
   obtain⟨l',hl,rfl⟩:=h
   simp only[List.map_cons,GH hl]
   rfl
theorem Ky {f:FuncId} {first caps:Array Operand} {as:List At} {cs:List Ck} {l:List Cp} {z:NF} {fp:FP} (hop:o.op=.makeFunc (.func f) first caps) (hf:first.isEmpty=true)
  (hx:eO s gl caps.toList=some (as,cs)) (hl:wt as=some l)
  (hg:aI (bo ops) s o=.go gl) (hd:∀ d,o.dst=some d→d < s.sz) (h:cJ gl o.dst (.at (.clo f l)) cs=some (z,fp)):Sound P ops o s z:=by
 refine aX hg hd h (fun _ _=>gq trivial) ?_
 intro F H O a w hc hcs hon
 have e:=eZ hc hx hcs hon
 have:first=#[]:=by simpa using hf
 subst this
 have hcaps:caps.map a.eval=(l.map Cp.den).toArray:=by
  rw[GH hl,← e];apply Array.ext';simp
 simp only[execOp,hop,Instr.makeFunc,hcaps,Sem.run_bind,Sem.run_pure,Result.andThen_ok,Array.map_empty]
 rfl
theorem HW {t:TypeId} {x i:Operand} {x':S1} {i':At} {cx ci:List Ck} {z:NF} {fp:FP} (hop:o.op=.index t x i) (hx:qL s gl x=some (x',cx)) (hi:jq s gl i=some (i',ci))
  (hg:aI (bo ops) s o=.go gl) (hd:∀ d,o.dst=some d→d < s.sz) (h:HY P gl o.dst t x' i' (cx++ci)=some (z,fp)):Sound P ops o s z:=by
 have ev:∀ {F H O a w},Conc F s H O a w→AllCk (cx++ci)→On (li gl)→a.eval x=x'.den∧a.eval i=i'.den:=by
  intro F H O a w hc hcs hon
  rw[AllCk.append] at hcs
  exact⟨gy hc hx hcs.1 hon,aP hc hi hcs.2 hon⟩
 unfold HY at h
 split at h
 ·rename_i len elem cells hu
  simp only[Option.bind_eq_some_iff] at h
  obtain⟨size,hs,h⟩:=h
  split at h
  ·rename_i n hn
   split at h
   ·rename_i hlt
    simp only[Option.bind_eq_some_iff] at h
    obtain⟨v,hv,h⟩:=h
    refine aX hg hd h (fun hs' _ a ha=>gK hs' hx a (BS hv a ha)) ?_
    intro F H O a w hc hcs hon
    obtain⟨e1,e2⟩:=ev hc hcs hon
    obtain⟨k,hk⟩:=jR hn
    obtain⟨m,hm⟩:=y7 hv
    have hb:(0:Int)≤n∧(n:Int) < len:=by omega
    have e1':a.eval x=.agg (cells.map At.den).toArray:=e1
    simp only[execOp,hop,e1',e2,hk,Instr.index,asIntOf,Sem.run_bind,Sem.run_pure,Result.andThen_ok,ar hu,if_pos hb,aW hs,Int.toNat_natCast,IW hv w hm]
   ·simp at h
  ·split at h
   ·rename_i hcond
    simp only[Bool.and_eq_true,decide_eq_true_eq,Bool.not_eq_true'] at hcond
    obtain⟨⟨⟨⟨h1,hA⟩,hl⟩,hfit⟩,_⟩:=hcond
    subst h1
    simp only[Option.some.injEq,Prod.mk.injEq] at h
    obtain⟨rfl,_⟩:=h
    refine bc hg hd ?_ ?_
    ·intro _
     by_cases hs':s.Ok
     ·exact .inl (Je (by simpa using hfit) (gK hs' hx))
     ·exact .inr hs'
    ·intro F H O a w v hc hcs hon he
     obtain⟨e1,e2⟩:=ev hc hcs hon
     simp only[List.map_cons,al] at he
     have e1':a.eval x=.agg (cells.map At.den).toArray:=e1
     have hrun:=IZ hu hs hA (by simpa using hl) he w
     simp only[execOp,hop,e1',e2,Sem.run_bind,hrun,Result.andThen_ok,Sem.run_pure]
   ·split at h
    ·rename_i hcond
     simp only[Bool.and_eq_true,decide_eq_true_eq,Bool.not_eq_true',List.isEmpty_iff] at hcond
     obtain⟨⟨⟨⟨⟨hgl,h1⟩,hA⟩,hl⟩,hkn⟩,_⟩:=hcond
     subst hgl
     subst h1
     simp only[Option.some.injEq,Prod.mk.injEq] at h
     obtain⟨rfl,_⟩:=h
     have hmem:∀ n:Nat,n < cells.length→cells.getD n .any ∈ cells:=fun n hn=>by simp[List.getD,hn]
     refine bQ (gl:=[]) (X:=fun vs=>.at (cells.getD (match g vs 0 with | .int _ n=>n.toNat | _=>0) .any)) hg hd ?_ ?_
     ·rintro H O vs hs' _ ⟨kd,j,hj,h0,h2,rfl⟩
      refine gq (gK hs' hx _ ?_)
      show cells.getD j.toNat .any ∈ cells
      exact hmem _ (by omega)
     ·rintro F H O a w vs hc hcs ⟨kd,j,hj,h0,h2,rfl⟩ hon
      obtain⟨e1,e2⟩:=ev hc hcs hon
      have e1':a.eval x=.agg (cells.map At.den).toArray:=e1
      have he:al .aidx (i'.den::cells.map At.den)=some ((cells.getD j.toNat .any).den):=by
       rw[hj]
       simp only[al,nO,List.length_map]
       rw[if_pos ⟨h0,by omega⟩,List.getElem?_map]
       have:j.toNat < cells.length:=by omega
       simp[List.getD,this]
      have hrun:=IZ hu hs hA (by simpa using hl) he w
      simp only[execOp,hop,e1',e2,Sem.run_bind,hrun,Result.andThen_ok,Sem.run_pure]
      rfl
    ·simp at h
 ·rename_i x1 hu
  simp only[Option.some.injEq,Prod.mk.injEq] at h
  obtain⟨rfl,_⟩:=h
  refine bc hg hd (by simp) ?_
  intro F H O a w v hc hcs hon he
  obtain⟨e1,e2⟩:=ev hc hcs hon
  simp only[List.map_cons,List.map_nil,al] at he
  have e1':a.eval x=x1.den:=e1
  simp only[execOp,hop,e1',e2,Sem.run_bind,OT hu he w,Result.andThen_ok,Sem.run_pure]
 ·simp at h
theorem Et {x:Operand} {i:Nat} {z:NF} {fp:FP} (hop:o.op=.extract x i)
  (hg:aI (bo ops) s o=.go gl) (hd:∀ d,o.dst=some d→d < s.sz) (h:ii s gl o.dst x i=some (z,fp)):Sound P ops o s z:=by
 cases x with
 | tmp t =>
  simp only[ii] at h
  split at h
  ·rename_i l hl
   simp only[Option.bind_eq_some_iff] at h
   obtain⟨v,hv,h⟩:=h
   split at h
   ·refine aX hg hd h (fun hs _=>?_) ?_
    ·have:=hs.1 t;rw[hl] at this;exact this v (List.mem_of_getElem? hv)
    ·intro F H O a w hc hcs hon
     have ht:=hc.tm t
     rw[hl] at ht
     have e:a.eval (.tmp t)=.tuple (l.map S1.den).toArray:=ht
     have hget:((l.map S1.den).toArray)[i]?=some v.den:=by simp[hv]
     simp only[execOp,hop,e,Instr.extract,hget,Sem.run_bind,Sem.run_pure,Result.andThen_ok]
   ·simp at h
  ·simp at h
 | const v=>simp[ii] at h
 | global n=>simp[ii] at h
 | func f=>simp[ii] at h
theorem mB {α:Type} {l:List α} {x:α} (h:R7 l=some x):l=[x]:=by
 unfold R7 at h;split at h
 ·simp only[Option.some.injEq] at h;rw[h]
 ·simp at h
theorem tc {α:Type} {l:List α} {x:α × α} (h:TZ l=some x):l=[x.1,x.2]:=by
 unfold TZ at h;split at h
 ·simp only[Option.some.injEq] at h;rw[← h]
 ·simp at h
theorem hJ {c:Call} {b:Builtin} {a:Act} (hop:o.op=.call c) (hcal:c.callee=.builtin b) (hb:b ≠ .print) (hb':b ≠ .println) (w:World) :
  (execOp a.eval o).run P w=(builtin b c.argTypes o.type #[] (c.args.map a.eval)).run P w:=by
 simp only[execOp,hop,resolve,hcal,Sem.run_bind,Sem.run_pure,Result.andThen_ok,invoke]
 cases b <;> first | rfl | exact absurd rfl hb | exact absurd rfl hb'
theorem EL {c:Call} {b:Builtin} {z:NF} {fp:FP} (hop:o.op=.call c) (hcal:c.callee=.builtin b)
    (hg:aI (bo ops) s o=.go gl) (hd:∀ d,o.dst=some d→d < s.sz) (h:mN P s gl o.dst o.type b c.argTypes c.args.toList=some (z,fp)):Sound P ops o s z:=by
  unfold mN at h
  split at h
  · -- len
    simp only[Option.bind_eq_some_iff] at h
    obtain⟨t,ht,x,hx,⟨x',cs⟩,hx',h⟩:=h
    have ht':c.argTypes=#[t]:=by apply Array.ext';simpa using mB ht
    have hargs:c.args=#[x]:=by apply Array.ext';simpa using mB hx
    have ex:∀ {F H O a w},Conc F s H O a w→AllCk cs→On (li gl)→(execOp a.eval o).run P w=(Functor.map (fun v=>Next.value v) (Builtin.len_ #[t] o.type #[x'.den])).run P w:=by
      intro F H O a w hc hcs hon
      rw[hJ hop hcal (by simp) (by simp),ht',hargs]
      have e:=aP hc hx' hcs hon
      simp only[builtin,List.map_toArray,List.map_cons,List.map_nil,e]
      rfl
    unfold MR at h
    split at h
    · rename_i e hu
      split at h
      · rename_i n r off m cp hxe
        simp only[] at hxe
        subst hxe
        refine aX hg hd h (fun _ _=>EZ _) ?_
        intro F H O a w hc hcs hon
        rw[ex hc hcs hon,Sem.run_map,LJ hu (x:=(At.sl n r off m cp).den) (v:=goInt m) rfl];rfl
      · simp only[Option.some.injEq,Prod.mk.injEq] at h
        obtain⟨rfl,_⟩:=h
        refine bc hg hd (by simp) ?_
        intro F H O a w v hc hcs hon he
        rw[ex hc hcs hon,Sem.run_map,LJ hu he];rfl
    · rename_i hu
      simp only[Option.some.injEq,Prod.mk.injEq] at h
      obtain⟨rfl,_⟩:=h
      refine bc hg hd (by simp) ?_
      intro F H O a w v hc hcs hon he
      rw[ex hc hcs hon,Sem.run_map,OS hu he];rfl
    · rename_i n e hu
      refine aX hg hd h (fun _ _=>EZ _) ?_
      intro F H O a w hc hcs hon
      rw[ex hc hcs hon,Sem.run_map,OU hu];rfl
    · rename_i k e hu
      split at h
      · rename_i hgl
        have:gl=[]:=by simpa using hgl
        subst this
        refine ec rfl hg hd h ?_
        intro F H O a w hc hcs H1 O1 R hT F1 hm next Q hn
        exact uR hT hm (by rw[ex hc hcs trivial];rfl) hn
      · simp at h
    · simp at h
  · -- cap
    simp only[Option.bind_eq_some_iff] at h
    obtain⟨t,ht,x,hx,⟨x',cs⟩,hx',h⟩:=h
    have ht':c.argTypes=#[t]:=by apply Array.ext';simpa using mB ht
    have hargs:c.args=#[x]:=by apply Array.ext';simpa using mB hx
    have ex:∀ {F H O a w},Conc F s H O a w→AllCk cs→On (li gl)→(execOp a.eval o).run P w=(Functor.map (fun v=>Next.value v) (Builtin.cap_ #[t] o.type #[x'.den])).run P w:=by
      intro F H O a w hc hcs hon
      rw[hJ hop hcal (by simp) (by simp),ht',hargs]
      have e:=aP hc hx' hcs hon
      simp only[builtin,List.map_toArray,List.map_cons,List.map_nil,e]
      rfl
    unfold UA at h
    split at h
    · rename_i e hu
      split at h
      · rename_i n r off m cp hxe
        simp only[] at hxe
        subst hxe
        refine aX hg hd h (fun _ _=>EZ _) ?_
        intro F H O a w hc hcs hon
        rw[ex hc hcs hon,Sem.run_map,LL hu (x:=(At.sl n r off m cp).den) (v:=goInt cp) rfl];rfl
      · simp only[Option.some.injEq,Prod.mk.injEq] at h
        obtain⟨rfl,_⟩:=h
        refine bc hg hd (by simp) ?_
        intro F H O a w v hc hcs hon he
        rw[ex hc hcs hon,Sem.run_map,LL hu he];rfl
    · simp at h
  · -- min
    simp only[Option.bind_eq_some_iff] at h
    obtain⟨⟨x,y⟩,hxy,⟨as,cs⟩,hx,h⟩:=h
    have hargs:c.args=#[x,y]:=by apply Array.ext';simpa using tc hxy
    obtain⟨x',y',rfl⟩:=y8 hx
    simp only[Option.some.injEq,Prod.mk.injEq] at h
    obtain⟨rfl,_⟩:=h
    refine bc hg hd (by simp) ?_
    intro F H O a w v hc hcs hon he
    obtain⟨e1,e2⟩:=yp hc hx hcs hon
    rw[hJ hop hcal (by simp) (by simp),hargs]
    simp only[List.map_cons,List.map_nil] at he
    simp only[builtin,List.map_toArray,List.map_cons,List.map_nil,e1,e2]
    cases hv1:x'.den <;> cases hv2:y'.den <;> simp only[hv1,hv2,al,reduceCtorEq,Option.some.injEq] at he
    subst he
    rw[Sem.run_bind,run_min_int2];rfl
  · -- max
    simp only[Option.bind_eq_some_iff] at h
    obtain⟨⟨x,y⟩,hxy,⟨as,cs⟩,hx,h⟩:=h
    have hargs:c.args=#[x,y]:=by apply Array.ext';simpa using tc hxy
    obtain⟨x',y',rfl⟩:=y8 hx
    simp only[Option.some.injEq,Prod.mk.injEq] at h
    obtain⟨rfl,_⟩:=h
    refine bc hg hd (by simp) ?_
    intro F H O a w v hc hcs hon he
    obtain⟨e1,e2⟩:=yp hc hx hcs hon
    rw[hJ hop hcal (by simp) (by simp),hargs]
    simp only[List.map_cons,List.map_nil] at he
    simp only[builtin,List.map_toArray,List.map_cons,List.map_nil,e1,e2]
    cases hv1:x'.den <;> cases hv2:y'.den <;> simp only[hv1,hv2,al,reduceCtorEq,Option.some.injEq] at he
    subst he
    rw[Sem.run_bind,run_max_int2];rfl
  all_goals first
    | (simp at h;done)
    | (split at h
       · rename_i hgl
         have:gl=[]:=by simpa using hgl
         subst this
         simp only[Option.bind_eq_some_iff] at h
         obtain⟨⟨as,cs⟩,hx,h⟩:=h
         refine ec rfl hg hd h ?_
         intro F H O a w hc hcs H1 O1 R hT F1 hm next Q hn
         refine uR hT hm ?_ hn
         rw[hJ hop hcal (by simp) (by simp)]
         have e:=eZ hc hx hcs trivial
         have:c.args.map a.eval=(as.map At.den).toArray:=by rw[← e];apply Array.ext';simp
         rw[this];rfl
       · simp at h)

theorem gY {shp:Shp} {op:PrimOp} {xs:List Operand} {z:NF} {fp:FP}
  (hg:aI (bo ops) s o=.go gl) (hd:∀ d,o.dst=some d→d < s.sz) (h:kl s gl o.dst shp op xs=some (z,fp))
  (hex:∀ (a:Act) (vs:List Value) (w:World),xs.map a.eval=vs→(execOp a.eval o).run P w=(op.sem vs).run P w):Sound P ops o s z:=by
 unfold kl at h
 split at h
 ·rename_i hgl
  have:gl=[]:=by simpa using hgl
  subst this
  simp only[Option.bind_eq_some_iff] at h
  obtain⟨⟨as,cs⟩,hx,h⟩:=h
  refine ec rfl hg hd h ?_
  intro F H O a w hc hcs H1 O1 R hT F1 hm next Q hn
  exact uR hT hm (hex a _ w (eZ hc hx hcs trivial)) hn
 ·simp at h
theorem pB {t:TypeId} {m k x:Operand} {z:NF} {fp:FP} (hdst:o.dst=none) (hop:o.op=.mapUpdate t m k x∨o.op=.insert t m k x)
  (hg:aI (bo ops) s o=.go gl) (hd:∀ d,o.dst=some d→d < s.sz) (h:kl s gl o.dst .one (.mapUpdate t) [m,k,x]=some (z,fp)):Sound P ops o s z:=by
 unfold kl at h
 split at h
 ·rename_i hgl
  have:gl=[]:=by simpa using hgl
  subst this
  simp only[Option.bind_eq_some_iff] at h
  obtain⟨⟨as,cs⟩,hx,h⟩:=h
  refine ec rfl hg hd h ?_
  intro F H O a w hc hcs H1 O1 R hT F1 hm next Q hn
  have e:=eZ hc hx hcs trivial
  obtain⟨v,w',H',O',hr,hR,hle,hm'⟩:=hT w F1 hm
  have hn':=hn v w' H' O' hR hle hm'
  rw[hdst] at hn'
  unfold Oper.wp
  have hs:(PrimOp.mapUpdate t).sem (as.map At.den)=(do Instr.mapUpdate t (a.eval m) (a.eval k) (a.eval x);pure (.value (.bool false)):Sem Next):=by
   rw[← e];rfl
  rw[hs,Sem.run_bind] at hr
  have hex:(execOp a.eval o).run P w=((Instr.mapUpdate t (a.eval m) (a.eval k) (a.eval x)).run P w).andThen fun _ w'=>.ok .skip w':=by
   rcases hop with hop | hop
   ·simp only[execOp,hop,Sem.run_bind,Sem.run_pure]
   ·simp only[execOp,hop,Sem.run_bind,Sem.run_pure]
  rw[hex]
  cases hmu:(Instr.mapUpdate t (a.eval m) (a.eval k) (a.eval x)).run P w with
  | ok u w1 =>
   rw[hmu] at hr
   simp only[Result.andThen_ok,Sem.run_pure,Result.ok.injEq] at hr
   obtain⟨_,rfl⟩:=hr
   rw[Result.andThen_ok,Oper.upon_skip,hdst]
   exact hn'
  | halt u w1=>rw[hmu] at hr;simp at hr
 ·simp at h
theorem vW (vs:List Value):∀ (l:List At) (i:Nat),AllCk (DO vs l i)→∀ j a,l[j]?=some a→g vs (i + j)=a.den
 | [],_,_,j,a,h=>by simp at h
 | b::r,i,hc,0,a,h=>by simp at h;subst h;exact hc.1
 | b::r,i,hc,j + 1,a,h=>by
  have:=vW vs r (i + 1) hc.2 j a (by simpa using h)
  rwa [show i + 1 + j=i + (j + 1) by omega] at this
theorem yW {x:At}:∀ {offs:List Nat} {l:List At},yX x offs=some l→l.all (fun a=>match a with | .p ..=>true | _=>false)=true
 | [],l,h=>by simp only[yX,Option.some.injEq] at h;subst h;rfl
 | o::r,l,h=>by
  simp only[yX] at h
  split at h
  ·rename_i hl
   simp only[Option.some.injEq] at h;subst h
   simp[yW hl]
  ·simp at h
theorem Kq {c:Call} {x:Operand} {m:String} {x':At} {as:List S1} {cx ca:List Ck} {z:NF} {fp:FP}
  (hop:o.op=.call c) (hcal:c.callee=.invoke x m) (hx:jq s [] x=some (x',cx)) (ha:oM s [] c.args.toList=some (as,ca))
  (hg:aI (bo ops) s o=.go []) (hd:∀ d,o.dst=some d→d < s.sz) (h:B2 P s o.dst o.type m x' as (cx++ca)=some (z,fp)):Sound P ops o s z:=by
 have ev:∀ {F H O a w},Conc F s H O a w→AllCk (cx++ca)→a.eval x=x'.den∧c.args.map a.eval=(as.map S1.den).toArray:=by
  intro F H O a w hc hcs
  rw[AllCk.append] at hcs
  have e:=pm hc ha hcs.2 trivial
  exact⟨aP hc hx hcs.1 trivial,by rw[← e];apply Array.ext';simp⟩
 unfold B2 at h
 simp only[Option.bind_eq_some_iff] at h
 obtain⟨shp,hshp,h⟩:=h
 have hv:∀ {y:Value} {atoms:List At} {z:NF} {fp:FP},x'.den=y→dF s o.dst shp (.callm m y (as.map S1.den)) atoms (cx++ca)=some (z,fp)→Sound P ops o s z:=by
  intro y atoms z fp hy h
  refine ec rfl hg hd h ?_
  rintro F H O a w hc hcs H1 O1 R ⟨f,r,hfm,hokn,hT⟩ F1 hm next Q hn
  obtain⟨e1,e2⟩:=ev hc hcs
  refine yg hT hm ?_ hn
  rw[Pz hop hcal (by rw[e1,hy]) hfm hokn w,e2]
  congr 2
  apply Array.ext';simp
 split at h
 ·exact hv rfl h
 ·exact hv rfl h
 ·simp at h
theorem KG {okf:FuncId→Bool} {rules:FuncId→Option (List Nat)} {c:Call} {f:Operand} {f':At} {as:List S1} {cf ca:List Ck} {z:NF} {fp:FP} (hokf:∀ f,okf f=true→mc P f)
  (hop:o.op=.call c) (hcal:c.callee=.value f) (hf:jq s [] f=some (f',cf)) (ha:oM s [] c.args.toList=some (as,ca))
  (hg:aI (bo ops) s o=.go []) (hd:∀ d,o.dst=some d→d < s.sz) (h:CJ P okf rules s o.dst o.type f' as (cf++ca)=some (z,fp)):Sound P ops o s z:=by
 have ev:∀ {F H O a w},Conc F s H O a w→AllCk (cf++ca)→a.eval f=f'.den∧c.args.map a.eval=(as.map S1.den).toArray:=by
  intro F H O a w hc hcs
  rw[AllCk.append] at hcs
  have e:=pm hc ha hcs.2 trivial
  exact⟨aP hc hf hcs.1 trivial,by rw[← e];apply Array.ext';simp⟩
 unfold CJ at h
 simp only[Option.bind_eq_some_iff] at h
 obtain⟨shp,hshp,h⟩:=h
 have hv:∀ {x:Value} {atoms:List At} {z:NF} {fp:FP},f'.den=x→dF s o.dst shp (.callv x (as.map S1.den)) atoms (cf++ca)=some (z,fp)→Sound P ops o s z:=by
  intro x atoms z fp hx h
  refine ec rfl hg hd h ?_
  rintro F H O a w hc hcs H1 O1 R ⟨n,caps,hfv,hokn,hT⟩ F1 hm next Q hn
  obtain⟨e1,e2⟩:=ev hc hcs
  have e1':a.eval f=.func (.func n) #[] caps:=by rw[e1,hx,hfv]
  refine yg hT hm ?_ hn
  rw[yv hop hcal e1' hokn w,e2]
  congr 2
  apply Array.ext';simp
 split at h
 ·rename_i n caps
  split at h
  ·split at h
   ·rename_i hce
    have hcaps:caps=[]:=by simpa using hce
    subst hcaps
    refine ec rfl hg hd h ?_
    intro F H O a w hc hcs H1 O1 R hT F1 hm next Q hn
    obtain⟨e1,e2⟩:=ev hc hcs
    have e1':a.eval f=.func (.func n) #[] #[]:=e1
    refine uR hT hm ?_ hn
    simp only[execOp,hop,resolve,hcal,e1',Deferred.ofValue,Sem.run_bind,Sem.run_pure,Result.andThen_ok,invoke,Array.empty_append,Array.append_empty,PrimOp.sem,e2]
   ·simp at h
  ·rename_i hok
   have hokn:mc P n:=hokf n (by simpa using hok)
   have hh:∀ {atoms:List At} {z:NF} {fp:FP},dF s o.dst shp (.call n (as.map S1.den++caps.map Cp.den)) atoms (cf++ca)=some (z,fp)→Sound P ops o s z:=by
    intro atoms z fp h
    refine ec rfl hg hd h ?_
    intro F H O a w hc hcs H1 O1 R hT F1 hm next Q hn
    obtain⟨e1,e2⟩:=ev hc hcs
    refine yg hT hm ?_ hn
    rw[yv hop hcal e1 hokn w,e2]
    congr 2
    apply Array.ext';simp
   split at h
   ·rename_i offs x hce hru hone
    have hcaps:caps=[]:=by simpa using hce
    subst hcaps
    have has:=mB hone
    subst has
    simp only[Option.bind_eq_some_iff] at h
    obtain⟨l,hl,h⟩:=h
    split at h
    ·rename_i hagg
     simp only[Option.some.injEq,Prod.mk.injEq] at h
     obtain⟨rfl,_⟩:=h
     have hshape:shp=.agg l.length:=by
      cases shp <;> simp[Shp.isAgg] at hagg
      rw[hagg]
     subst hshape
     refine IU (hk:=.call n [x.den]) (frz:=[]) (own:=[]) (shp:=.agg l.length) (post:=fun vs=>DO vs l 0) (cs:=cf++ca) (sv:=fun _=>.s (.agg l)) hg hd (by simp) (by simp) (by simp) ?_ ?_
     ·intro v vs _ hopn hones hpost
      have hallp:=yW hl
      refine⟨?_,?_⟩
      ·show v=.agg (l.map At.den).toArray
       cases v with
       | agg cells =>
        simp only[Shp.open] at hopn
        split at hopn
        ·rename_i hsz
         simp only[Option.some.injEq] at hopn;subst hopn
         congr 1
         apply Array.ext'
         apply List.ext_getElem?
         intro j
         simp only[List.toList_toArray,List.getElem?_map]
         by_cases hj:j < l.length
         ·have hp:=vW cells.toList l 0 hpost j l[j] (by simp[hj])
          simp only[Nat.zero_add,g] at hp
          rw[List.getElem?_eq_getElem (by simp;omega),List.getElem?_eq_getElem hj]
          simp only[Option.map_some]
          rw[← hp]
          have hjc:j < cells.size:=by omega
          simp[List.getD,hjc]
         ·rw[List.getElem?_eq_none (by simp;omega),List.getElem?_eq_none (by omega)];rfl
        ·simp at hopn
       | _=>simp[Shp.open] at hopn
      ·intro a ha'
       rw[List.all_eq_true] at hallp
       have:=hallp a ha'
       cases a <;> simp at this
       trivial
     ·intro F H O a w hc hcs H1 O1 R hT F1 hm next Q hn
      obtain⟨e1,e2⟩:=ev hc hcs
      refine yg hT hm ?_ hn
      rw[yv hop hcal e1 hokn w,e2]
      rfl
    ·simp at h
   ·exact hh h
 ·exact hv rfl h
 ·exact hv rfl h
 ·simp at h
theorem J8 {okf:FuncId→Bool} {rules:FuncId→Option (List Nat)} {sp:Bool} {name:Nat} {y:NF} {fp:FP} (hokf:∀ f,okf f=true→mc P f)
  (hg:aI (bo ops) s o=.go gl) (hd:∀ d,o.dst=some d→d < s.sz) (h:Oz P okf rules sp name o gl s=some (y,fp)):Sound P ops o s y:=by
 unfold Oz at h
 split at h
 ·rename_i x hop;exact BY (fun a w=>by simp[execOp,hop]) hg hd h
 ·rename_i x hop;exact BY (fun a w=>by simp[execOp,hop]) hg hd h
 ·rename_i c a b hop;exact J1 hop hg hd h
 ·rename_i T hop
  simp only[Option.bind_eq_some_iff] at h
  obtain⟨cells,hz,h⟩:=h
  obtain⟨z,hzr,hzc,hzk,hzo⟩:=j0 hz
  refine nQ hg hd h (fun _=>trivial) (fun _=>rfl) (fun _=>hzo) ?_
  intro F H O a w hc hcs hgl
  refine⟨cells.map At.den,CellsRel.map cells,?_⟩
  have hzc':z.cells=(cells.map At.den).toArray:=by rw[← hzc]
  simp only[execOp,hop,Instr.alloc,Sem.run_bind,hzr,Result.andThen_ok,newVar,newRow,hzc',run_newObj,Sem.run_pure]
  rfl
 ·rename_i T x hop
  simp only[Option.bind_eq_some_iff] at h
  obtain⟨⟨v,cs⟩,hx,h⟩:=h
  simp only[] at h
  split at h
  ·rename_i hfit
   refine nQ hg hd h (fun _=>trivial) (fun _=>rfl) (fun hs=>gK hs hx) ?_
   intro F H O a w hc hcs hgl
   subst hgl
   refine⟨v.cells.map At.den,CellsRel.map v.cells,?_⟩
   have e:=gy hc hx hcs trivial
   simp only[execOp,hop,e,Instr.box,Sem.run_bind,Result.andThen_ok,newVar,newRow,zU hfit (gK hc.ok hx),run_newObj,Sem.run_pure]
   rfl
  ·simp at h
 ·rename_i T parts hop;exact IC hop hg hd h
 ·rename_i T len parts hop;exact yf hop hg hd h
 ·rename_i t x hop
  simp only[Option.bind_eq_some_iff] at h
  obtain⟨⟨x',cs⟩,hx,h⟩:=h
  exact F9 hop hx hg hd h
 ·rename_i t x y' hop
  split at h
  ·rename_i hcond
   simp only[Bool.and_eq_true,List.isEmpty_iff,Option.isNone_iff_eq_none] at hcond
   obtain⟨rfl,hdst⟩:=hcond
   simp only[Option.bind_eq_some_iff] at h
   obtain⟨⟨x',cs⟩,hx,⟨y1,cs'⟩,hy,h⟩:=h
   exact Do hop hdst hx hy hg h
  ·simp at h
 ·rename_i x hop
  simp only[Option.bind_eq_some_iff] at h
  obtain⟨⟨x',cs⟩,hx,h⟩:=h
  exact MH hop hx hg hd h
 ·rename_i op t x y' yt hop;exact Og hop hg hd h
 ·rename_i op t x hop
  simp only[Option.bind_eq_some_iff] at h
  obtain⟨⟨x',cs⟩,hx,h⟩:=h
  exact OJ hop hx hg hd h
 ·rename_i a b x hop
  simp only[Option.bind_eq_some_iff] at h
  obtain⟨⟨x',cs⟩,hx,h⟩:=h
  exact KC hop hx hg hd h
 ·rename_i t x hop;exact HZ hop hg hd h
 ·rename_i f first caps hop
  split at h
  ·rename_i hf
   simp only[Option.bind_eq_some_iff] at h
   obtain⟨⟨as,cs⟩,hx,l,hl,h⟩:=h
   exact Ky hop hf hx hl hg hd h
  ·simp at h
 ·rename_i t x f hop
  simp only[Option.bind_eq_some_iff] at h
  obtain⟨fd,hfd,m,hm,h⟩:=h
  split at h
  ·simp at h
  ·rename_i hm0
   simp only[Option.bind_eq_some_iff] at h
   obtain⟨⟨x',cs⟩,hx,⟨a',c⟩,hmv,h⟩:=h
   obtain⟨h1,h2⟩:=zj hmv
   refine aX hg hd h (fun hs hcs=>gq (h1 (AllCk.append.1 hcs).1 (y9 hs hx))) ?_
   intro F H O a w hc hcs hon
   rw[AllCk.append] at hcs
   have e:=aP hc hx hcs.2 hon
   obtain⟨ad,hxd,had⟩:=h2 hcs.1 hon
   simp only[execOp,hop,e,hxd,Sem.run_bind,Hz hfd hm hm0,Result.andThen_ok,Sem.run_pure,S1.den,had]
 ·rename_i t x f hop
  simp only[Option.bind_eq_some_iff] at h
  obtain⟨fd,hfd,⟨x',cs⟩,hx,v,hv,h⟩:=h
  split at h
  ·rename_i hagg
   obtain⟨m,hm⟩:=y7 hv
   refine aX hg hd h (fun hs _ a ha=>gK hs hx a (BS hv a ha)) ?_
   intro F H O a w hc hcs hon
   have e:=gy hc hx hcs hon
   obtain⟨fs,hu,hfs⟩:=wj hfd
   rcases x' with a' | l
   ·simp[S1.isAgg] at hagg
   ·have e':a.eval x=.agg (l.map At.den).toArray:=e
    have hp:=IW hv w hm
    simp only[execOp,hop,e',Instr.field,Sem.run_bind,ar hu,Result.andThen_ok,hfs,asAgg,Sem.run_pure]
    simp only[S1.cells] at hp
    rw[hp];rfl
  ·simp at h
 ·rename_i t x i hop
  simp only[Option.bind_eq_some_iff] at h
  obtain⟨⟨as,cs⟩,hx,⟨x',i'⟩,h2,h⟩:=h
  have:=tc h2
  subst this
  exact zC hop hx hg hd h
 ·rename_i t x i hop
  simp only[Option.bind_eq_some_iff] at h
  obtain⟨⟨x',cs⟩,hx,⟨i',cs'⟩,hi,h⟩:=h
  exact HW hop hx hi hg hd h
 ·rename_i t x lo hi mx hop
  simp only[Option.bind_eq_some_iff] at h
  obtain⟨⟨x',c0⟩,h0,⟨l,c1⟩,h1,⟨h',c2⟩,h2,⟨m,c3⟩,h3,h⟩:=h
  exact Ht hop h0 h1 h2 h3 hg hd h
 ·rename_i x i hop;exact Et hop hg hd h
 ·rename_i c hop
  split at h
  ·rename_i b hcal;exact EL hop hcal hg hd h
  ·rename_i f hcal
   split at h
   ·rename_i hgl
    have:gl=[]:=by simpa using hgl
    subst this
    simp only[Option.bind_eq_some_iff] at h
    obtain⟨⟨f',cf⟩,hf,⟨as,ca⟩,ha,h⟩:=h
    exact KG hokf hop hcal hf ha hg hd h
   ·simp at h
  ·rename_i x m hcal
   split at h
   ·rename_i hgl
    have:gl=[]:=by simpa using hgl
    subst this
    simp only[Option.bind_eq_some_iff] at h
    obtain⟨⟨x',cx⟩,hx,⟨as,ca⟩,ha,h⟩:=h
    exact Kq hop hcal hx ha hg hd h
   ·simp at h
 ·rename_i t l c hop
  cases hl:rl l with
  | none =>
   unfold gQ at h
   simp only[hl] at h
   refine gY hg hd h ?_
   rintro a vs w rfl
   simp only[execOp,hop,PrimOp.sem,List.map_cons,List.map_nil]
  | some n =>
   cases hc:rl c with
   | none =>
    unfold gQ at h
    simp only[hl,hc] at h
    refine gY hg hd h ?_
    rintro a vs w rfl
    simp only[execOp,hop,PrimOp.sem,List.map_cons,List.map_nil]
   | some m =>
    by_cases hu:∃ e,P.underlying t=some (.slice e)
    ·obtain⟨e,hu⟩:=hu
     exact zm hop hg hd hl hc hu h
    ·unfold gQ at h
     split at h
     ·rename_i e1 e2 hu'
      exact absurd ⟨_,hu'⟩ hu
     ·refine gY hg hd h ?_
      rintro a vs w rfl
      simp only[execOp,hop,PrimOp.sem,List.map_cons,List.map_nil]
 ·rename_i t r hop
  refine gY hg hd h ?_
  rintro a vs w rfl
  cases r <;> simp only[execOp,hop,PrimOp.sem,Option.toList,List.map_cons,List.map_nil,Option.isSome_none,Option.isSome_some,Option.map_none,Option.map_some]
 ·rename_i t x i ok hop
  refine gY hg hd h ?_
  rintro a vs w rfl
  simp only[execOp,hop,PrimOp.sem,List.map_cons,List.map_nil]
 ·rename_i t m k x hop
  split at h
  ·rename_i hdst
   exact pB (by simpa using hdst) (.inl hop) hg hd h
  ·simp at h
 ·rename_i t m k x hop
  split at h
  ·rename_i hdst
   exact pB (by simpa using hdst) (.inr hop) hg hd h
  ·simp at h
 ·rename_i t x hop
  refine gY hg hd h ?_
  rintro a vs w rfl
  simp only[execOp,hop,PrimOp.sem,List.map_cons,List.map_nil]
 ·rename_i x hop
  refine gY hg hd h ?_
  rintro a vs w rfl
  simp only[execOp,hop,PrimOp.sem,List.map_cons,List.map_nil]
 ·rename_i x str hop
  refine gY hg hd h ?_
  rintro a vs w rfl
  simp only[execOp,hop,PrimOp.sem,List.map_cons,List.map_nil]
 ·simp at h
theorem tP {okf:FuncId→Bool} {rules:FuncId→Option (List Nat)} {sp:Bool} {name:Nat} {y:NF} {fp:FP} (hokf:∀ f,okf f=true→mc P f)
  (h:nf P okf rules (bo ops) sp name o s=some (y,fp)):Sound P ops o s y:=by
 unfold nf at h
 split at h
 ·simp at h
 ·rename_i hdst
  have hd:∀ d,o.dst=some d→d < s.sz:=by
   intro d hd
   simp only[hd,xZ,Bool.not_eq_true',decide_eq_false_iff_not,Decidable.not_not] at hdst
   exact hdst
  split at h
  ·simp at h
  ·rename_i hg
   simp only[Option.some.injEq,Prod.mk.injEq] at h
   obtain⟨rfl,_⟩:=h
   exact JO hg hd
  ·rename_i gl hg
   exact J8 hokf hg hd h
variable {P:Program} {s s':SS} {gl:List (At × Bool)}
def Ea (s s':SS) (x:Operand):Prop:=∀ t,x=.tmp t→s'.tmps t=s.tmps t
theorem eA {x:Operand} (h:Ea s s' x):qL s' gl x=qL s gl x:=by
 cases x with
 | tmp t=>simp only[qL,h t rfl]
 | _=>rfl
theorem aR {x:Operand} (h:Ea s s' x):jq s' gl x=jq s gl x:=by
 simp only[jq,eA h]
theorem bp:∀ {xs:List Operand},(∀ x ∈ xs,Ea s s' x)→eO s' gl xs=eO s gl xs
 | [],_=>rfl
 | x::r,h=>by simp only[eO,aR (h x (by simp)),bp (xs:=r) (fun y hy=>h y (by simp[hy]))]
theorem km:∀ {xs:List Operand},(∀ x ∈ xs,Ea s s' x)→oM s' gl xs=oM s gl xs
 | [],_=>rfl
 | x::r,h=>by simp only[oM,eA (h x (by simp)),km (xs:=r) (fun y hy=>h y (by simp[hy]))]
theorem kn {place:Nat→Option (Nat × Nat)}:∀ {parts:List (Nat × Operand)} {cells:List At},(∀ p ∈ parts,Ea s s' p.2) →
  eD s' gl place parts cells=eD s gl place parts cells
 | [],_,_=>rfl
 | (i,x)::r,cells,h=>by
  have h1:=eA (gl:=gl) (h (i,x) (by simp))
  simp only[] at h1
  simp only[eD,h1]
  split
  ·split
   ·rw[kn (fun p hp=>h p (by simp[hp]))]
   ·rfl
  ·rfl
theorem kj:∀ (fuel:Nat) (r acc:List Nat),(∀ n ∈ acc,n ∈ fk s fuel r acc)
 | 0,r,acc,n,h=>by cases r <;> simp[fk,h]
 | fuel + 1,[],acc,n,h=>by simpa [fk] using h
 | fuel + 1,m::r,acc,n,h=>by
  simp only[fk]
  split
  ·exact kj fuel _ _ n h
  ·split
   ·exact kj fuel _ _ n (by simp[h])
   ·exact kj fuel _ _ n (by simp[h])
theorem jN:∀ (fuel:Nat) (r acc:List Nat),(∀ n ∈ fk s fuel r acc,s'.mem n=s.mem n)→fk s' fuel r acc=fk s fuel r acc
 | 0,r,acc,_=>by cases r <;> simp[fk]
 | fuel + 1,[],acc,_=>by simp[fk]
 | fuel + 1,m::r,acc,h=>by
  simp only[fk] at h ⊢
  split
  ·rename_i hc
   simp only[hc,if_true] at h
   exact jN fuel _ _ h
  ·rename_i hc
   simp only[hc] at h
   have hm:s'.mem m=s.mem m:=by
    apply h
    simp only[Bool.false_eq_true,if_false]
    split
    ·exact kj fuel _ _ m (by simp)
    ·exact kj fuel _ _ m (by simp)
   rw[hm]
   cases hs:s.mem m with
   | none=>simp only[hs,Bool.false_eq_true,if_false] at h;exact jN fuel _ _ h
   | some b=>simp only[hs,Bool.false_eq_true,if_false] at h;exact jN fuel _ _ h
theorem mA:∀ (fuel:Nat) (r acc:List Nat),(∀ n ∈ acc,n ∈ gn s fuel r acc)
 | 0,r,acc,n,h=>by cases r <;> simp[gn,h]
 | fuel + 1,[],acc,n,h=>by simpa [gn] using h
 | fuel + 1,m::r,acc,n,h=>by
  simp only[gn]
  split
  ·exact mA fuel _ _ n h
  ·split
   ·exact mA fuel _ _ n (by simp[h])
   ·exact mA fuel _ _ n (by simp[h])
theorem kT:∀ (fuel:Nat) (r acc:List Nat),(∀ n ∈ gn s fuel r acc,s'.mem n=s.mem n)→gn s' fuel r acc=gn s fuel r acc
 | 0,r,acc,_=>by cases r <;> simp[gn]
 | fuel + 1,[],acc,_=>by simp[gn]
 | fuel + 1,m::r,acc,h=>by
  simp only[gn] at h ⊢
  split
  ·rename_i hc
   simp only[hc,if_true] at h
   exact kT fuel _ _ h
  ·rename_i hc
   simp only[hc] at h
   have hm:s'.mem m=s.mem m:=by
    apply h
    simp only[Bool.false_eq_true,if_false]
    split
    ·exact mA fuel _ _ m (by simp)
    ·exact mA fuel _ _ m (by simp)
   rw[hm]
   cases hs:s.mem m with
   | none=>simp only[hs,Bool.false_eq_true,if_false] at h;exact kT fuel _ _ h
   | some b=>simp only[hs,Bool.false_eq_true,if_false] at h;exact kT fuel _ _ h
theorem oV:∀ (l acc:List Nat),(∀ n ∈ l,s'.mem n=s.mem n)→je s' l acc=je s l acc
 | [],_,_=>rfl
 | n::r,acc,h=>by
  simp only[je,h n (by simp)]
  exact oV r _ (fun m hm=>h m (by simp[hm]))
theorem pC {l:List Nat} (h:∀ n ∈ l,s'.mem n=s.mem n):ig s' l=ig s l:=by
 unfold ig
 induction l with
 | nil=>rfl
 | cons n r ih=>simp only[List.filterMap_cons,h n (by simp),ih (fun m hm=>h m (by simp[hm]))]
theorem bR {dst:Option Tmp} {shp:Shp} {hk:HK} {atoms:List At} {cs:List Ck} {y:NF} {fp:FP} (h:dF s dst shp hk atoms cs=some (y,fp))
  (hm:∀ n ∈ fp.reads,s'.mem n=s.mem n):dF s' dst shp hk atoms cs=some (y,fp):=by
 have hr:fp.reads=gn s 50 (ie atoms []) []++fk s 50 (je s (gn s 50 (ie atoms []) []) (gP atoms [])) []:=by
  unfold dF at h
  simp only[] at h
  split at h
  ·simp only[Option.some.injEq,Prod.mk.injEq] at h;rw[← h.2]
  ·simp at h
 rw[hr] at hm
 have h1:gn s' 50 (ie atoms []) []=gn s 50 (ie atoms []) []:=kT _ _ _ (fun n hn=>hm n (by simp[hn]))
 have h2:=oV (s:=s) (s':=s') (gn s 50 (ie atoms []) []) (gP atoms []) (fun n hn=>hm n (by simp[hn]))
 have h3:=jN (s:=s) (s':=s') 50 (je s (gn s 50 (ie atoms []) []) (gP atoms [])) [] (fun n hn=>hm n (by simp[hn]))
 rw[← h]
 unfold dF
 simp only[h1,h2,h3]
 rw[pC (s:=s) (s':=s') (l:=fk s 50 (je s (gn s 50 (ie atoms []) []) (gP atoms [])) []) (fun n hn=>hm n (by simp[hn]))]
 rw[pC (s:=s) (s':=s') (l:=List.filter _ _) (fun n hn=>hm n (by simp only[List.mem_append];exact .inl (List.mem_filter.1 hn).1))]
theorem Ge {dst:Option Tmp} {t:TypeId} {x:At} {cs:List Ck} {y:NF} {fp:FP} (h:wa P s gl dst t x cs=some (y,fp))
  (hm:∀ n ∈ fp.reads,s'.mem n=s.mem n):wa P s' gl dst t x cs=some (y,fp):=by
 cases x with
 | p n r off =>
  have hn:s'.mem n=s.mem n:=by
   apply hm
   unfold wa at h
   simp only[Option.bind_eq_some_iff] at h
   obtain⟨m,_,h⟩:=h
   split at h
   ·split at h
    ·simp only[Option.map_eq_some_iff,Prod.mk.injEq] at h
     obtain⟨_,_,_,rfl⟩:=h
     simp
    ·simp at h
   ·split at h
    ·simp at h
    ·simp only[Option.some.injEq,Prod.mk.injEq] at h
     obtain⟨_,rfl⟩:=h
     simp[LP]
  rw[← h];simp only[wa,hn]
 | _=>rw[← h];simp only[wa]
theorem Dp {t:TypeId} {x:At} {z:S1} {cs:List Ck} {y:NF} {fp:FP} (h:oS P s t x z cs=some (y,fp))
  (hm:∀ n ∈ fp.reads,s'.mem n=s.mem n):oS P s' t x z cs=some (y,fp):=by
 cases x with
 | p n r off =>
  have hn:s'.mem n=s.mem n:=by
   apply hm
   unfold oS at h
   simp only[Option.bind_eq_some_iff] at h
   obtain⟨m,_,h⟩:=h
   split at h
   ·simp at h
   ·split at h
    ·split at h
     ·simp only[Option.some.injEq,Prod.mk.injEq] at h
      obtain⟨_,rfl⟩:=h
      simp
     ·simp at h
    ·simp at h
  rw[← h];simp only[oS,hn]
 | _=>rw[← h];simp only[oS]
theorem jS {dst:Option Tmp} {name:Nat} {T:TypeId} {cells:List At} {val:Nat→At} {cs:List Ck} {y:NF} {fp:FP} (h:ma s gl dst name T cells val cs=some (y,fp))
  (hm:∀ n ∈ fp.reads,s'.mem n=s.mem n):ma s' gl dst name T cells val cs=some (y,fp):=by
 have hn:s'.mem name=s.mem name:=by
  apply hm
  unfold ma at h
  split at h
  ·simp only[Option.some.injEq,Prod.mk.injEq] at h;rw[← h.2];simp
  ·simp at h
 rw[← h];simp only[ma,hn]
theorem eH {dst:Option Tmp} {shp:Shp} {op:PrimOp} {xs:List Operand} {y:NF} {fp:FP} (hx:∀ x ∈ xs,Ea s s' x) (h:kl s gl dst shp op xs=some (y,fp))
  (hm:∀ n ∈ fp.reads,s'.mem n=s.mem n):kl s' gl dst shp op xs=some (y,fp):=by
 unfold kl at h ⊢
 split at h
 ·rename_i hg
  rw[if_pos hg,bp hx]
  simp only[Option.bind_eq_some_iff] at h ⊢
  obtain⟨a,ha,h⟩:=h
  exact⟨a,ha,bR h hm⟩
 ·simp at h
theorem aB {α β:Type} {x x':Option α} {f f':α→Option β} {y:β} (h:x.bind f=some y) (hx:x'=x) (hf:∀ a,x=some a→f a=some y→f' a=some y):x'.bind f'=some y:=by
 subst hx
 simp only[Option.bind_eq_some_iff] at h ⊢
 obtain⟨a,ha,h⟩:=h
 exact⟨a,ha,hf a ha h⟩
theorem vZ {dst:Option Tmp} {sp:Bool} {x:Operand} (hx:Ea s s' x):tQ s' gl dst sp x=tQ s gl dst sp x:=by
 unfold tQ
 rw[aR hx,eA hx]
 cases x with
 | tmp t=>simp only[hx t rfl]
 | _=>rfl
theorem FQ {dst:Option Tmp} {c a b:Operand} (hc:Ea s s' c) (ha:Ea s s' a) (hb:Ea s s' b):BR s' gl dst c a b=BR s gl dst c a b:=by
 unfold BR
 rw[aR hc]
 simp only[aR ha,aR hb,eA ha,eA hb]
theorem zJ {dst:Option Tmp} {x:Operand} {i:Nat} (hx:Ea s s' x):ii s' gl dst x i=ii s gl dst x i:=by
 unfold ii
 cases x with
 | tmp t=>simp only[hx t rfl]
 | _=>rfl
theorem HT {dst:Option Tmp} {ty t:TypeId} {x:At} {cs:List Ck} {y:NF} {fp:FP} (h:MR P s gl dst ty t x cs=some (y,fp))
    (hm:∀ n ∈ fp.reads,s'.mem n=s.mem n):MR P s' gl dst ty t x cs=some (y,fp):=by
  unfold MR at h ⊢
  split at h <;> first
    | exact h
    | (split at h
       · exact h
       · exact h)
    | (split at h
       · rename_i hg;rw[if_pos hg];exact bR h hm
       · simp at h;done)
    | (simp at h;done)
theorem Ad {dst:Option Tmp} {ty:TypeId} {b:Builtin} {ats:Array TypeId} {args:List Operand} {y:NF} {fp:FP} (hx:∀ x ∈ args,Ea s s' x)
    (h:mN P s gl dst ty b ats args=some (y,fp)) (hm:∀ n ∈ fp.reads,s'.mem n=s.mem n):mN P s' gl dst ty b ats args=some (y,fp):=by
  have heavy:∀ (b:Builtin) (sh:Shp),(if gl.isEmpty then (eO s gl args).bind fun (as,cs)=>dF s dst sh (.prim (.bi b ats ty) (as.map At.den)) as cs else none)=some (y,fp) →
      (if gl.isEmpty then (eO s' gl args).bind fun (as,cs)=>dF s' dst sh (.prim (.bi b ats ty) (as.map At.den)) as cs else none)=some (y,fp):=by
    intro b sh h
    split at h
    · rename_i hg
      rw[if_pos hg]
      exact aB h (bp hx) fun _ _ h=>bR h hm
    · simp at h
  cases b <;> simp only[mN] at h ⊢ <;> first
    | exact heavy _ _ h
    | (simp at h;done)
    | (refine aB h rfl fun t _ h=>aB h rfl fun x hx' h=>?_
       have:args=[x]:=mB hx'
       subst this
       refine aB h (aR (hx x (by simp))) fun a _ h=>?_
       first
         | exact HT h hm
         | exact h)
    | (refine aB h rfl fun p hp h=>?_
       obtain⟨x,y⟩:=p
       have:args=[x,y]:=tc hp
       subst this
       exact aB h (bp hx) fun a _ h=>h)
theorem GN {okf:FuncId→Bool} {rules:FuncId→Option (List Nat)} {dst:Option Tmp} {ty:TypeId} {f:At} {as:List S1} {cs:List Ck} {y:NF} {fp:FP}
  (h:CJ P okf rules s dst ty f as cs=some (y,fp)) (hm:∀ n ∈ fp.reads,s'.mem n=s.mem n):CJ P okf rules s' dst ty f as cs=some (y,fp):=by
 unfold CJ at h ⊢
 refine aB h rfl fun shp _ h=>?_
 cases f with
 | clo n caps =>
  simp only[] at h ⊢
  split at h
  ·rename_i hok
   rw[if_pos hok]
   split at h
   ·rename_i hc;rw[if_pos hc];exact bR h hm
   ·simp at h
  ·rename_i hok
   rw[if_neg hok]
   split at h
   ·exact h
   ·exact bR h hm
 | v x=>exact bR h hm
 | k x=>exact bR h hm
 | _=>simp at h
theorem F6 {dst:Option Tmp} {ty:TypeId} {m:String} {x:At} {as:List S1} {cs:List Ck} {y:NF} {fp:FP}
  (h:B2 P s dst ty m x as cs=some (y,fp)) (hm:∀ n ∈ fp.reads,s'.mem n=s.mem n):B2 P s' dst ty m x as cs=some (y,fp):=by
 unfold B2 at h ⊢
 refine aB h rfl fun shp _ h=>?_
 cases x with
 | v x=>exact bR h hm
 | k x=>exact bR h hm
 | _=>simp at h
theorem IG {dst:Option Tmp} {op:BinOp} {t:TypeId} {x z:Operand} {y:NF} {fp:FP} (hx:∀ u ∈ [x,z],Ea s s' u) (h:IH P s gl dst op t x z=some (y,fp)):IH P s' gl dst op t x z=some (y,fp):=by
 rw[← h]
 simp only[IH,bp hx,km hx]
theorem GA {dst:Option Tmp} {a b:TypeId} {x:At} {cs:List Ck} {y:NF} {fp:FP} (h:CG P s gl dst a b x cs=some (y,fp))
  (hm:∀ n ∈ fp.reads,s'.mem n=s.mem n):CG P s' gl dst a b x cs=some (y,fp):=by
 unfold CG at h ⊢
 split at h
 ·exact h
 ·split at h
  ·rename_i hg;rw[if_pos hg];exact bR h hm
  ·simp at h
theorem Ej {dst:Option Tmp} {t:TypeId} {x:Operand} {y:NF} {fp:FP} (hx:Ea s s' x) (h:vv P s gl dst t x=some (y,fp)) (hm:∀ n ∈ fp.reads,s'.mem n=s.mem n):vv P s' gl dst t x=some (y,fp):=by
 unfold vv at h ⊢
 split at h
 ·simp at h
 ·simp at h
 ·refine aB h (eA hx) fun v _ h=>?_
  obtain⟨v,cs⟩:=v
  simp only at h ⊢
  by_cases hc:(ie v.cells (gP v.cells [])).isEmpty=true
  ·rw[if_pos hc] at h ⊢;exact h
  ·rw[if_neg hc] at h ⊢
   by_cases hg:gl.isEmpty=true
   ·rw[if_pos hg] at h ⊢;exact bR h hm
   ·rw[if_neg hg] at h;cases h
theorem EM {dst:Option Tmp} {T:TypeId} {parts:List (Nat × Operand)} (hx:∀ p ∈ parts,Ea s s' p.2):vL P s' gl dst T parts=vL P s gl dst T parts:=by
 simp only[vL,kn hx]
theorem ul {dst:Option Tmp} {name len:Nat} {T:TypeId} {parts:List (Nat × Operand)} {y:NF} {fp:FP} (hx:∀ p ∈ parts,Ea s s' p.2) (h:hU P s gl dst name T len parts=some (y,fp))
  (hm:∀ n ∈ fp.reads,s'.mem n=s.mem n):hU P s' gl dst name T len parts=some (y,fp):=by
 unfold hU at h ⊢
 split at h
 ·refine aB h rfl fun size _ h=>aB h rfl fun zero _ h=>?_
  split at h
  ·rename_i hc
   rw[if_pos hc]
   exact aB h (kn hx) fun _ _ h=>jS h hm
  ·simp at h
 ·simp at h
theorem J9 {okf:FuncId→Bool} {rules:FuncId→Option (List Nat)} {sp:Bool} {name:Nat} {o:Oper} {y:NF} {fp:FP} (h:Oz P okf rules sp name o gl s=some (y,fp))
  (hx:∀ x ∈ o.op.operands.toList,Ea s s' x) (hm:∀ n ∈ fp.reads,s'.mem n=s.mem n):Oz P okf rules sp name o gl s'=some (y,fp):=by
 unfold Oz at h ⊢
 cases hop:o.op <;> simp only[hop,Op.operands] at h hx ⊢
 all_goals try (simp at h;done)
 case move x=>rw[vZ (hx x (by simp))];exact h
 case assign x=>rw[vZ (hx x (by simp))];exact h
 case pick c a b=>rw[FQ (hx c (by simp)) (hx a (by simp)) (hx b (by simp))];exact h
 case alloc T=>exact aB h rfl fun _ _ h=>jS h hm
 case box T x =>
  refine aB h (eA (hx x (by simp))) fun a _ h=>?_
  obtain⟨v,cs⟩:=a
  simp only[] at h ⊢
  split at h
  ·rename_i hc;rw[if_pos hc];exact jS h hm
  ·simp at h
 case build T parts=>rw[EM (fun p hp=>hx p.2 (List.mem_map_of_mem hp))];exact h
 case buildSlice T len parts=>exact ul (fun p hp=>hx p.2 (List.mem_map_of_mem hp)) h hm
 case load t x=>exact aB h (aR (hx x (by simp))) fun _ _ h=>Ge h hm
 case store t x z =>
  split at h
  ·rename_i hc
   rw[if_pos hc]
   exact aB h (aR (hx x (by simp))) fun _ _ h=>aB h (eA (hx z (by simp))) fun _ _ h=>Dp h hm
  ·simp at h
 case nilCheck x=>exact aB h (aR (hx x (by simp))) fun _ _ h=>h
 case binOp op t x z _=>exact IG (fun u hu=>hx u (by simpa using hu)) h
 case unOp op t x=>exact aB h (aR (hx x (by simp))) fun _ _ h=>h
 case convert a b x=>exact aB h (aR (hx x (by simp))) fun _ _ h=>GA h hm
 case makeInterface t x=>exact Ej (hx x (by simp)) h hm
 case makeFunc f first caps =>
  cases f with
  | func f =>
   simp only[] at h ⊢
   split at h
   ·rename_i hc
    rw[if_pos hc]
    exact aB h (bp (fun x hx'=>hx x (by simp at hx' ⊢;exact .inr hx'))) fun _ _ h=>h
   ·simp at h
  | _=>simp at h
 case fieldAddr t x f =>
  refine aB h rfl fun _ _ h=>aB h rfl fun m _ h=>?_
  split at h
  ·simp at h
  ·rename_i hc
   rw[if_neg hc]
   exact aB h (aR (hx x (by simp))) fun _ _ h=>h
 case field t x f=>exact aB h rfl fun _ _ h=>aB h (eA (hx x (by simp))) fun _ _ h=>h
 case indexAddr t x i=>exact aB h (bp (fun u hu=>hx u (by simpa using hu))) fun _ _ h=>h
 case index t x i=>exact aB h (eA (hx x (by simp))) fun _ _ h=>aB h (aR (hx i (by simp))) fun _ _ h=>h
 case slice t x lo hi mx =>
  refine aB h (aR (hx x (by simp))) fun _ _ h=>aB h (bp (fun u hu=>hx u (by simp at hu ⊢;simp[hu]))) fun _ _ h =>
   aB h (bp (fun u hu=>hx u (by simp at hu ⊢;simp[hu]))) fun _ _ h=>aB h (bp (fun u hu=>hx u (by simp at hu ⊢;simp[hu]))) fun _ _ h=>h
 case extract x i=>rw[zJ (hx x (by simp))];exact h
 case call c =>
  cases hc:c.callee with
  | builtin b =>
   simp only[hc] at h ⊢
   exact Ad (fun x hx'=>hx x (by simp only[Call.operands,hc];simp at hx' ⊢;simp[hx'])) h hm
  | value f =>
   simp only[hc] at h ⊢
   split at h
   ·rename_i hg
    rw[if_pos hg]
    exact aB h (aR (hx f (by simp[Call.operands,hc]))) fun _ _ h=>aB h (km (fun x hx'=>hx x (by simp only[Call.operands,hc];simp at hx' ⊢;simp[hx']))) fun _ _ h=>GN h hm
   ·simp at h
  | invoke f m =>
   simp only[hc] at h ⊢
   split at h
   ·rename_i hg
    rw[if_pos hg]
    exact aB h (aR (hx f (by simp[Call.operands,hc]))) fun _ _ h=>aB h (km (fun x hx'=>hx x (by simp only[Call.operands,hc];simp at hx' ⊢;simp[hx']))) fun _ _ h=>F6 h hm
   ·simp at h
 case makeSlice t l c =>
  unfold gQ at h ⊢
  split at h
  ·refine aB h rfl fun size _ h=>aB h rfl fun zero _ h=>?_
   split at h
   ·rename_i hc
    rw[if_pos hc]
    exact jS h hm
   ·simp at h
  ·exact eH (fun x hx'=>hx x (by simpa using hx')) h hm
 case makeMap t r=>exact eH (fun x hx'=>hx x (by simpa using hx')) h hm
 case lookup t x i ok=>exact eH (fun u hu=>hx u (by simpa using hu)) h hm
 case mapUpdate t m k x =>
  split at h
  ·rename_i hc;rw[if_pos hc];exact eH (fun u hu=>hx u (by simpa using hu)) h hm
  ·simp at h
 case insert t m k x =>
  split at h
  ·rename_i hc;rw[if_pos hc];exact eH (fun u hu=>hx u (by simpa using hu)) h hm
  ·simp at h
 case range t x=>exact eH (fun u hu=>hx u (by simpa using hu)) h hm
 case entry x=>exact eH (fun u hu=>hx u (by simpa using hu)) h hm
 case next x str=>exact eH (fun u hu=>hx u (by simpa using hu)) h hm
theorem tV {tgt:Nat→Option Tmp} {o:Oper} (h:∀ j want t,o.guard=some (j,want)→tgt j=some t→s'.tmps t=s.tmps t):aI tgt s' o=aI tgt s o:=by
 unfold aI
 cases hg:o.guard with
 | none=>rfl
 | some p =>
  obtain⟨j,want⟩:=p
  simp only[]
  cases ht:tgt j with
  | none=>rfl
  | some t=>simp only[h j want t hg ht]
theorem D9 {ops:Array Oper} {okf:FuncId→Bool} {rules:FuncId→Option (List Nat)} {sp:Bool} {name:Nat} {o:Oper} {y:NF} {fp:FP} (h:nf P okf rules (bo ops) sp name o s=some (y,fp))
  (hz:s'.sz=s.sz) (ht:∀ t ∈ o.looksAt ops,s'.tmps t=s.tmps t) (hm:∀ n ∈ fp.reads,s'.mem n=s.mem n):nf P okf rules (bo ops) sp name o s'=some (y,fp):=by
 have hg:aI (bo ops) s' o=aI (bo ops) s o:=by
  refine tV fun j want t h1 h2=>ht t ?_
  simp only[Oper.looksAt,h1,List.mem_append]
  right
  unfold bo at h2
  simp[h2]
 have hx:∀ x ∈ o.op.operands.toList,Ea s s' x:=by
  rintro x hx t rfl
  refine ht t ?_
  simp only[Oper.looksAt,List.mem_append]
  left
  exact List.mem_filterMap.2 ⟨_,hx,rfl⟩
 unfold nf at h ⊢
 have hd:xZ s' o.dst=xZ s o.dst:=by unfold xZ;rw[hz]
 rw[hd,hg]
 split at h
 ·simp at h
 ·rename_i hc
  rw[if_neg hc]
  split at h
  ·simp at h
  ·exact h
  ·exact J9 h hx hm
theorem SS.set_comm {s:SS} {a b:Option Nat} (h:∀ d,a=some d→b ≠ some d) (x y:SV):(s.set a x).set b y=(s.set b y).set a x:=by
 cases a with
 | none=>rfl
 | some i =>
  cases b with
  | none=>rfl
  | some j =>
   have hij:i ≠ j:=fun e=>h i rfl (by rw[e])
   simp only[SS.set,SS.mk.injEq,true_and,and_true]
   funext t
   by_cases e:t=i
   ·subst e;simp[hij]
   ·simp[e]
theorem SS.set_setBox {s:SS} {a:Option Nat} {n:Nat} {b:Option Bx} {x:SV}:(s.set a x).setBox n b=(s.setBox n b).set a x:=by
 cases a <;> rfl
theorem SS.setBox_comm {s:SS} {n m:Nat} (h:n ≠ m) (b c:Option Bx):(s.setBox n b).setBox m c=(s.setBox m c).setBox n b:=by
 simp only[SS.setBox,SS.mk.injEq,true_and,and_true]
 funext k
 by_cases e:k=n
 ·subst e;simp[h]
 ·simp[e]
theorem SS.set_tmps {s:SS} {a:Option Nat} {x:SV} {t:Nat} (h:∀ d,a=some d→t ≠ d):(s.set a x).tmps t=s.tmps t:=by
 cases a with
 | none=>rfl
 | some d=>simp[SS.set,h d rfl]
theorem SS.set_mem {s:SS} {a:Option Nat} {x:SV}:(s.set a x).mem=s.mem:=by cases a <;> rfl
theorem SS.set_sz {s:SS} {a:Option Nat} {x:SV}:(s.set a x).sz=s.sz:=by cases a <;> rfl
theorem SS.setBox_mem {s:SS} {n m:Nat} {b:Option Bx} (h:m ≠ n):(s.setBox n b).mem m=s.mem m:=by simp[SS.setBox,h]
theorem wl:∀ {l:List Nat} {s:SS} {a:Option Nat} {x:SV},bS l (s.set a x)=(bS l s).set a x
 | [],_,_,_=>rfl
 | n::r,s,a,x=>by rw[bS,bS,SS.set_setBox,wl]
theorem I7:∀ {l:List (Nat × Bx)} {css:List (List Value)} {s:SS} {a:Option Nat} {x:SV} {i:Nat},EX i l css (s.set a x)=(EX i l css s).set a x
 | [],_,_,_,_,_=>rfl
 | (n,b)::r,css,s,a,x,i=>by rw[EX,EX,SS.set_setBox,I7]
theorem pQ:∀ {l:List Nat} {s:SS} {n:Nat} {b:Option Bx},n ∉ l→bS l (s.setBox n b)=(bS l s).setBox n b
 | [],_,_,_,_=>rfl
 | m::r,s,n,b,h=>by
  simp only[List.mem_cons,not_or] at h
  rw[bS,bS,SS.setBox_comm h.1,pQ h.2]
theorem y5:∀ {l:List (Nat × Bx)} {css:List (List Value)} {s:SS} {n:Nat} {b:Option Bx} {i:Nat},n ∉ l.map (·.1)→EX i l css (s.setBox n b)=(EX i l css s).setBox n b
 | [],_,_,_,_,_,_=>rfl
 | (m,b')::r,css,s,n,b,i,h=>by
  simp only[List.map_cons,List.mem_cons,not_or] at h
  rw[EX,EX,SS.setBox_comm h.1,y5 h.2]
theorem I8:∀ {l:List (Nat × Bx)} {css:List (List Value)} {s:SS} {n i:Nat},n ∉ l.map (·.1)→(EX i l css s).mem n=s.mem n
 | [],_,_,_,_,_=>rfl
 | (m,b')::r,css,s,n,i,h=>by
  simp only[List.map_cons,List.mem_cons,not_or] at h
  rw[EX,I8 h.2,SS.setBox_mem h.1]
section
variable {dst:Option Tmp} {frz own:List (Nat × Bx)} {sv:List Value→SV} {s:SS} {vs:List Value} {css:List (List Value)}
theorem Gm {a:Option Nat} {x:SV} (h:∀ d,a=some d→dst ≠ some d):nI dst frz own sv (s.set a x) vs css=(nI dst frz own sv s vs css).set a x:=by
 unfold nI
 rw[wl,I7,SS.set_comm h]
theorem wd {n:Nat} {b:Option Bx} (h:n ∉ (frz++own).map (·.1)):nI dst frz own sv (s.setBox n b) vs css=(nI dst frz own sv s vs css).setBox n b:=by
 unfold nI
 have h':n ∉ own.map (·.1):=fun hn=>h (by rw[List.map_append];exact List.mem_append.2 (.inr hn))
 rw[pQ h,y5 h',SS.set_setBox]
theorem Np {n:Nat} (h:n ∉ (frz++own).map (·.1)):(nI dst frz own sv s vs css).mem n=s.mem n:=by
 unfold nI
 have h':n ∉ own.map (·.1):=fun hn=>h (by rw[List.map_append];exact List.mem_append.2 (.inr hn))
 rw[SS.set_mem,I8 h',ll,if_neg h]
theorem Kv {t:Nat} (h:∀ d,dst=some d→t ≠ d):(nI dst frz own sv s vs css).tmps t=s.tmps t:=by
 unfold nI
 rw[SS.set_tmps h,y4.1,eQ.1]
theorem PV:(nI dst frz own sv s vs css).sz=s.sz:=by
 unfold nI
 rw[SS.set_sz,y4.2,eQ.2]
end
theorem kp {a b:List Nat} (h:Gw a b=true) {n:Nat} (ha:n ∈ a):n ∉ b:=by
 unfold Gw at h
 rw[List.all_eq_true] at h
 simpa using h n ha
theorem vG {a b:List Nat} (h:Gw a b=true) {n:Nat} (hb:n ∈ b):n ∉ a:=fun ha=>kp h ha hb
theorem NF.run_mono {P:Program} {d:Bool} {dst:Option Tmp} {x:NF} {s:SS} {K K':SS→Heap→Own→Prop} {H:Heap} {O:Own} (hk:∀ s H O,K s H O→K' s H O) (h:x.run P d dst s K H O) :
  x.run P d dst s K' H O:=by
 cases x with
 | fl cs k X=>obtain⟨h1,vs,h2,h3⟩:=h;exact⟨h1,vs,h2,hk _ _ _ h3⟩
 | box cs n T cells val=>exact⟨h.1,fun r=>hk _ _ _ (h.2 r)⟩
 | stb cs n b=>exact⟨h.1,hk _ _ _ h.2⟩
 | hv cs k frz own shp post sv=>exact⟨h.1,np (fun _ _ _ x=>x) (fun _ _ _ _ x=>⟨x.1,hk _ _ _ x.2⟩) h.2⟩
 | st cs p vs=>obtain⟨h1,O',h2,h3⟩:=h;exact⟨h1,O',h2,hk _ _ _ h3⟩
theorem QO {T:Heap→Own→(Value→Heap→Own→Prop)→Prop} {d d':Bool} (hd:d'=true→d=true) {frz own:List BV} {shp:Shp} {K:List Value→List (List Value)→Heap→Own→Prop} {H:Heap} {O:Own}
  (h:dc T d frz own shp K H O):dc T d' frz own shp K H O:=by
 cases d' with
 | true=>rw[hd rfl] at h;exact h
 | false =>
  cases d with
  | false=>exact h
  | true =>
   intro hcons
   obtain⟨H1,O1,O2,Q,hg,ht,hk⟩:=h hcons
   refine⟨H1,O1,O2,Q,?_,ht,hk⟩
   obtain⟨rfl,hg⟩:=hg
   show Ghost _ O _ (O1++O2)
   rcases hg with ⟨rfl,rfl⟩ | ⟨_,rfl,rfl,_⟩
   ·exact Ghost.refl _ _
   ·rw[List.append_nil];exact Ghost.refl _ _
theorem NF.run_le {P:Program} {d d':Bool} (hd:d'=true→d=true) {dst:Option Tmp} {x:NF} {s:SS} {K:SS→Heap→Own→Prop} {H:Heap} {O:Own} (h:x.run P d dst s K H O):x.run P d' dst s K H O:=by
 cases x with
 | hv cs k frz own shp post sv=>exact⟨h.1,QO (fun e=>by simp only[Bool.and_eq_true] at e ⊢;exact⟨hd e.1,e.2⟩) h.2⟩
 | _=>exact h
theorem FK.pre_unique {P:Program} {k:FK} {H:Heap} {O:Own} {vs us:List Value} (hc:k.ch=false) (h:k.pre P H O vs) (h':k.pre P H O us):vs=us:=by
 cases k with
 | sil=>rw[h,h']
 | pure gd op args =>
  have hg:gd=[]:=by simpa [FK.ch] using hc
  subst hg
  obtain⟨v,rfl,h1,_⟩:=h
  obtain⟨u,rfl,h2,_⟩:=h'
  have:=(h1 trivial).symm.trans (h2 trivial)
  simp only[Option.some.injEq] at this;rw[this]
 | raw gd op args =>
  have hg:gd=[]:=by simpa [FK.ch] using hc
  subst hg
  obtain⟨v,rfl,h1,_⟩:=h
  obtain⟨u,rfl,h2,_⟩:=h'
  have:=(h1 trivial default).symm.trans (h2 trivial default)
  simp only[Result.ok.injEq,Next.value.injEq,and_true] at this;rw[this]
 | load gd p m=>simp[FK.ch] at hc
 | split c =>
  obtain⟨b,h1,rfl⟩:=h
  obtain⟨b',h2,rfl⟩:=h'
  rw[h1] at h2;simp only[Value.bool.injEq] at h2;rw[h2]
 | isplit c n =>
  obtain⟨kd,i,h1,_,_,rfl⟩:=h
  obtain⟨kd',i',h2,_,_,rfl⟩:=h'
  rw[h1] at h2;simp only[Value.int.injEq] at h2;rw[h2.2]
theorem FK.pre_any {P:Program} {k:FK} {H H':Heap} {O O':Own} {vs:List Value} (hl:k.isLoad=false) (h:k.pre P H O vs):k.pre P H' O' vs:=by
 cases k <;> first | exact h | simp[FK.isLoad] at hl
theorem Reads.mono {H H':Heap} {O O':Own} {p:Value} {m:Nat} {vs:List Value} (hle:Heap.le H H') (hs:∀ x,x ∈ O→x ∈ O') (h:Reads H O p m vs):Reads H' O' p m vs:=by
 rcases h with h | ⟨a,cs,T,h1,h2,h3,h4,h5⟩
 ·exact .inl (hle.read h)
 ·exact .inr ⟨a,cs,T,h1,h2,hs _ h3,h4,h5⟩
theorem FK.pre_mono {P:Program} {k:FK} {H H':Heap} {O O':Own} {vs:List Value} (hle:Heap.le H H') (hs:∀ x,x ∈ O→x ∈ O') (h:k.pre P H O vs):k.pre P H' O' vs:=by
 cases k with
 | load gd p m=>exact⟨h.1,h.2.1,fun hg=>(h.2.2 hg).mono hle hs⟩
 | _=>exact h
structure Near (d:Option Tmp) (W:List Nat) (s s':SS):Prop where
 sz:s'.sz=s.sz
 tm:∀ t,(∀ e,d=some e→t ≠ e)→s'.tmps t=s.tmps t
 mm:∀ n,n ∉ W→s'.mem n=s.mem n
theorem Near.symm {d:Option Tmp} {W:List Nat} {s s':SS} (h:Near d W s s'):Near d W s' s :=
 ⟨h.sz.symm,fun t ht=>(h.tm t ht).symm,fun n hn=>(h.mm n hn).symm⟩
theorem nF (d:Option Tmp) (W:List Nat) (s:SS) (x:SV):Near d W s (s.set d x) :=
 ⟨SS.set_sz,fun _ ht=>SS.set_tmps ht,fun _ _=>by rw[SS.set_mem]⟩
theorem gz (d:Option Tmp) (s:SS) (n:Nat) (b:Option Bx) (x:SV):Near d [n] s ((s.setBox n b).set d x) :=
 ⟨SS.set_sz,fun _ ht=>SS.set_tmps ht,fun m hm=>by rw[SS.set_mem,SS.setBox_mem (by simpa using hm)]⟩
theorem nE (d:Option Tmp) (s:SS) (n:Nat) (b:Option Bx):Near d [n] s (s.setBox n b) :=
 ⟨rfl,fun _ _=>rfl,fun m hm=>by rw[SS.setBox_mem (by simpa using hm)]⟩
theorem zi (d:Option Tmp) (frz own:List (Nat × Bx)) (sv:List Value→SV) (s:SS) (vs:List Value) (css:List (List Value)):Near d ((frz++own).map (·.1)) s (nI d frz own sv s vs css) :=
 ⟨PV,fun _ ht=>Kv ht,fun _ hn=>Np hn⟩
theorem py (d:Option Tmp) (W:List Nat) (s:SS):Near d W s s:=⟨rfl,fun _ _=>rfl,fun _ _=>rfl⟩
def Cong (N:SS→Option (NF × FP)) (l:List Tmp):Prop :=
 ∀ s s' y fy,N s=some (y,fy)→s'.sz=s.sz→(∀ t ∈ l,s'.tmps t=s.tmps t)→(∀ n ∈ fy.reads,s'.mem n=s.mem n)→N s'=some (y,fy)
theorem Cong.near {N:SS→Option (NF × FP)} {l:List Tmp} (h:Cong N l) {d:Option Tmp} {W:List Nat} {s s':SS} {y:NF} {fy:FP} (hn:Near d W s s') (hd:∀ e,d=some e→e ∉ l)
  (hW:∀ n ∈ fy.reads,n ∉ W) (hs:N s=some (y,fy)):N s'=some (y,fy) :=
 h s s' y fy hs hn.sz (fun t ht=>hn.tm t fun e he het=>hd e he (het ▸ ht)) (fun n hr=>hn.mm n (hW n hr))
def NF.isHv:NF→Bool
 | .hv ..=>true
 | _=>false
theorem swap {P:Program} {da db:Option Tmp} {la lb:List Tmp} {Na Nb:SS→Option (NF × FP)} (Ca:Cong Na la) (Cb:Cong Nb lb)
  (h1:∀ d,da=some d→d ∉ lb) (h2:∀ d,da=some d→db ≠ some d) (h3:∀ d,db=some d→d ∉ la)
  {s:SS} {xa:NF} {fa:FP} (ha:Na s=some (xa,fa)) {dx dy:NF→Bool} (hdl:xa.isLd=true→∀ y,dy y=true) {C:NF→FP→Prop} {K:SS→Heap→Own→Prop} {H:Heap} {O:Own}
  (hst:xa.isHv=true→∃ y fy,Nb s=some (y,fy)∧sR xa fa y fy=true∧C y fy)
  (hb:xa.run P (dx xa) da s (fun s' H' O'=>∃ y fy,Nb s'=some (y,fy)∧sR xa fa y fy=true∧C y fy∧y.run P (dy y) db s' K H' O') H O) :
  ∃ y fy,Nb s=some (y,fy)∧sR xa fa y fy=true∧C y fy ∧
   y.run P (dy y) db s (fun s' H' O'=>Na s'=some (xa,fa)∧Near db y.writes s s'∧xa.run P (dx xa) da s' K H' O') H O:=by
 have back:∀ {s':SS} {y:NF} {fy:FP},Near da xa.writes s s'→Nb s'=some (y,fy)→sR xa fa y fy=true→Nb s=some (y,fy):=by
  intro s' y fy hn hy he
  simp only[sR,Bool.and_eq_true] at he
  exact Cb.near hn.symm h1 (fun n hr=>vG he.1.1.1 hr) hy
 have fwd:∀ {s':SS} {y:NF} {fy:FP},sR xa fa y fy=true→Near db y.writes s s'→Na s'=some (xa,fa):=by
  intro s' y fy he hn
  simp only[sR,Bool.and_eq_true] at he
  exact Ca.near hn h3 (fun n hr=>kp he.1.2 hr) ha
 have hww:∀ {y:NF} {fy:FP},sR xa fa y fy=true→∀ n,n ∈ xa.writes→n ∉ y.writes:=by
  intro y fy he n hn
  simp only[sR,Bool.and_eq_true] at he
  exact kp he.1.1.2 hn
 have kok:∀ {y:NF} {fy:FP},sR xa fa y fy=true→rj xa y=true:=by
  intro y fy he
  simp only[sR,Bool.and_eq_true] at he
  exact he.2
 cases xa with
 | fl cs k X =>
  obtain⟨hcs,vs,hp,y,fy,hy,he,hC,hr⟩:=hb
  refine⟨y,fy,back (nF da _ s (X vs)) hy he,he,hC,?_⟩
  have ko:=kok he
  cases y with
  | fl cs' k' Y =>
   obtain⟨hcs',us,hp',hk⟩:=hr
   refine⟨hcs',us,hp',fwd he (nF db _ s (Y us)),nF db _ s _,hcs,vs,hp,?_⟩
   rw[SS.set_comm h2] at hk;exact hk
  | box cs' n T cells val =>
   obtain⟨hcs',hk⟩:=hr
   refine⟨hcs',fun r=>⟨fwd he (gz db s n _ _),gz db s n _ _,hcs,vs,hp,?_⟩⟩
   have:=hk r
   rw[SS.set_setBox,SS.set_comm h2] at this;exact this
  | stb cs' n b =>
   obtain⟨hcs',hk⟩:=hr
   refine⟨hcs',fwd he (nE db s n _),nE db s n _,hcs,vs,hp,?_⟩
   rw[SS.set_setBox] at hk;exact hk
  | hv cs' hk' frz own shp post sv =>
   obtain⟨hcs',hr⟩:=hr
   refine⟨hcs',fun hcons=>?_⟩
   obtain⟨H1,O1,O2,R,hgh,hT,hk⟩:=hr hcons
   refine⟨H1,O1,O2,R,hgh,hT,fun v H' O' hR hle=>?_⟩
   obtain⟨us,css,O3,e1,e2,e3,e4,e5,e6⟩:=hk v H' O' hR hle
   refine⟨us,css,O3,e1,e2,e3,e4,e5,fwd he (zi db frz own sv s us css),zi db frz own sv s us css,hcs,vs,?_,?_⟩
   ·cases hl:k.isLoad with
    | false=>exact FK.pre_any hl hp
    | true =>
     have hcall:hk'.isCall'=true:=by simpa [rj,hl] using ko
     simp only[hcall,hdl (by simpa [NF.isLd] using hl),Bool.and_true,if_true] at hgh
     obtain⟨rfl,hgh⟩:=hgh
     rcases hgh with ⟨rfl,rfl⟩ | ⟨hown,rfl,rfl,hq⟩
     ·exact FK.pre_mono (Heap.le_trans (Heap.le_insAll _ _) hle) (fun x hx=>by simp[hx]) hp
     ·have hO':=hq v H' O' hR
      rw[e4,hown] at hO'
      simp only[kX,List.map_nil,List.nil_append] at hO'
      exact FK.pre_mono (Heap.le_trans (Heap.le_insAll _ _) hle) (fun x hx=>by simp[hO',hx]) hp
   ·rw[Gm h2] at e6;exact e6
  | st cs' p ws =>
   obtain⟨hcs',O',hst',hk⟩:=hr
   have hl:k.isLoad=false:=by simpa [rj] using ko
   exact⟨hcs',O',hst',fwd he (py db _ s),py db _ s,hcs,vs,FK.pre_any hl hp,hk⟩
 | box cs n T cells val =>
  obtain⟨hcs,hk0⟩:=hb
  obtain⟨y,fy,hy,he,hC,hr0⟩:=hk0 0
  have hys:=back (gz da s n _ _) hy he
  have hall:∀ r,y.run P (dy y) db ((s.setBox n (some ⟨r,T,cells⟩)).set da (.s (.at (val r)))) K H O:=by
   intro r
   obtain⟨y',fy',hy',he',_,hr'⟩:=hk0 r
   have:=(back (gz da s n _ _) hy' he').symm.trans hys
   simp only[Option.some.injEq,Prod.mk.injEq] at this
   rw[← this.1];exact hr'
  refine⟨y,fy,hys,he,hC,?_⟩
  have ko:=kok he
  have hn:∀ m,m ∈ y.writes→n ≠ m:=fun m hm e=>hww he n (by simp[NF.writes]) (e ▸ hm)
  cases y with
  | fl cs' k' Y =>
   have hch:k'.ch=false:=by simpa [rj,NF.ch] using ko
   obtain⟨hcs',us,hp',_⟩:=hr0
   refine⟨hcs',us,hp',fwd he (nF db _ s (Y us)),nF db _ s _,hcs,fun r=>?_⟩
   obtain⟨_,us',hp'',hk⟩:=hall r
   rw[← FK.pre_unique hch hp' hp'',SS.set_comm h2] at hk
   rw[SS.set_setBox];exact hk
  | box cs' m T' cells' val' =>
   obtain⟨hcs',_⟩:=hr0
   refine⟨hcs',fun r'=>⟨fwd he (gz db s m _ _),gz db s m _ _,hcs,fun r=>?_⟩⟩
   have:=(hall r).2 r'
   rw[SS.set_setBox,SS.set_comm h2,SS.setBox_comm (hn m (by simp[NF.writes]))] at this
   rw[SS.set_setBox];exact this
  | stb cs' m b =>
   obtain⟨hcs',_⟩:=hr0
   refine⟨hcs',fwd he (nE db s m _),nE db s m _,hcs,fun r=>?_⟩
   have:=(hall r).2
   rw[SS.set_setBox,SS.setBox_comm (hn m (by simp[NF.writes]))] at this
   exact this
  | hv _ _ _ _ _ _ _=>simp[rj] at ko
  | st _ _ _=>simp[rj] at ko
 | stb cs n b =>
  obtain⟨hcs,y,fy,hy,he,hC,hr⟩:=hb
  refine⟨y,fy,back (nE da s n _) hy he,he,hC,?_⟩
  have hn:∀ m,m ∈ y.writes→n ≠ m:=fun m hm e=>hww he n (by simp[NF.writes]) (e ▸ hm)
  cases y with
  | fl cs' k' Y =>
   obtain⟨hcs',us,hp',hk⟩:=hr
   refine⟨hcs',us,hp',fwd he (nF db _ s (Y us)),nF db _ s _,hcs,?_⟩
   rw[SS.set_setBox];exact hk
  | box cs' m T cells val =>
   obtain⟨hcs',hk⟩:=hr
   refine⟨hcs',fun r=>⟨fwd he (gz db s m _ _),gz db s m _ _,hcs,?_⟩⟩
   have:=hk r
   rw[SS.setBox_comm (hn m (by simp[NF.writes]))] at this
   rw[SS.set_setBox];exact this
  | stb cs' m b' =>
   obtain⟨hcs',hk⟩:=hr
   refine⟨hcs',fwd he (nE db s m _),nE db s m _,hcs,?_⟩
   rw[SS.setBox_comm (hn m (by simp[NF.writes]))] at hk;exact hk
  | hv cs' hk' frz own shp post sv =>
   obtain⟨hcs',hr⟩:=hr
   refine⟨hcs',fun hcons=>?_⟩
   obtain⟨H1,O1,O2,R,hgh,hT,hk⟩:=hr hcons
   refine⟨H1,O1,O2,R,hgh,hT,fun v H' O' hR hle=>?_⟩
   obtain⟨us,css,O3,e1,e2,e3,e4,e5,e6⟩:=hk v H' O' hR hle
   refine⟨us,css,O3,e1,e2,e3,e4,e5,fwd he (zi db frz own sv s us css),zi db frz own sv s us css,hcs,?_⟩
   rw[wd (fun hm=>hn n hm rfl)] at e6;exact e6
  | st cs' p ws =>
   obtain⟨hcs',O',hst',hk⟩:=hr
   exact⟨hcs',O',hst',fwd he (py db _ s),py db _ s,hcs,hk⟩
 | hv cs hk frz own shp post sv =>
  obtain⟨y,fy,hys,he,hC⟩:=hst rfl
  refine⟨y,fy,hys,he,hC,?_⟩
  have ko:=kok he
  cases y with
  | box cs' n T cells val =>
   have hcs':cs'=[]:=by simpa [rj] using ko
   subst hcs'
   obtain⟨hcs,hb⟩:=hb
   refine⟨trivial,fun r=>⟨fwd he (gz db s n _ _),gz db s n _ _,hcs,fun hcons=>?_⟩⟩
   obtain⟨H1,O1,O2,R,hgh,hT,hk'⟩:=hb hcons
   refine⟨H1,O1,O2,R,hgh,hT,fun v H' O' hR hle=>?_⟩
   obtain⟨us,css,O3,e1,e2,e3,e4,e5,y',fy',hy',he',_,hr'⟩:=hk' v H' O' hR hle
   have:=(back (zi da frz own sv s us css) hy' he').symm.trans hys
   simp only[Option.some.injEq,Prod.mk.injEq] at this
   obtain⟨rfl,rfl⟩:=this
   refine⟨us,css,O3,e1,e2,e3,e4,e5,?_⟩
   have hn:n ∉ (frz++own).map (·.1):=fun hm=>hww he n hm (by simp[NF.writes])
   rw[Gm (fun d hd hd'=>h2 d hd' hd),wd hn]
   exact hr'.2 r
  | _=>simp[rj] at ko
 | st cs p ws =>
  obtain⟨hcs,O',hst',y,fy,hy,he,hC,hr⟩:=hb
  refine⟨y,fy,back (py da _ s) hy he,he,hC,?_⟩
  have ko:=kok he
  cases y with
  | box cs' n T cells val =>
   obtain⟨hcs',hk⟩:=hr
   exact⟨hcs',fun r=>⟨fwd he (gz db s n _ _),gz db s n _ _,hcs,O',hst',hk r⟩⟩
  | _=>simp[rj] at ko
structure RC where
 P:Program
 okf:FuncId→Bool
 rules:FuncId→Option (List Nat)
 ops:Array Oper
 tab:List (Nat × Nat)
 sp:List Nat
 base:Nat
def RC.N (c:RC) (i:Nat) (o:Oper) (s:SS):Option (NF × FP):=nf c.P c.okf c.rules (bo c.ops) (c.sp.contains i) (c.base + i) o s
theorem RC.cong (c:RC) (i:Nat) (o:Oper):Cong (c.N i o) (o.looksAt c.ops):=fun _ _ _ _ h hz ht hm=>D9 h hz ht hm
def RR (c:RC) (d:Bool) (K:SS→Heap→Own→Prop):List (Nat × Oper)→List Ent→SS→Heap→Own→Prop
 | [],_,s,H,O=>K s H O
 | (i,o)::r,log,s,H,O=>∃ x fp,c.N i o s=some (x,fp) ∧
   (d=true→xX c.ops c.tab i o x fp log=true∧Q4 (fun k ok=>c.N k ok s) c.ops c.tab i o x fp log r=true) ∧
   x.run c.P (d && dAt c.tab i log) o.dst s (RR c d K r (if d then ⟨i,o,x,fp⟩::log else log)) H O
theorem Hk {c:RC} {d:Bool} {Q:Value→Heap→Own→Prop} {kk:SS→Tree}:∀ {l:List (Nat × Oper)} {log:List Ent} {s:SS} {H:Heap} {O:Own},
  (yZ c.P c.okf c.rules d c.ops c.tab c.sp c.base l log s kk).den c.P Q H O→RR c d (fun s H O=>(kk s).den c.P Q H O) l log s H O
 | [],_,_,_,_,h=>h
 | (i,o)::r,log,s,H,O,h=>by
  simp only[yZ] at h
  split at h
  ·exact h.elim
  ·rename_i x fp hx
   split at h
   ·exact h.elim
   ·rename_i hc
    refine⟨x,fp,hx,fun hd=>?_,NF.run_mono (fun _ _ _ hk=>Hk hk) (J7 h)⟩
    subst hd
    simp only[Bool.true_and,Bool.not_eq_true',Bool.not_eq_false,Bool.and_eq_true] at hc
    exact hc
theorem zb {ops:Array Oper} {tab:List (Nat × Nat)} {i:Nat} {o:Oper} {x:NF} {fp:FP} {log log':List Ent} (hs:∀ e,e ∈ log'→e ∈ log) (h:xX ops tab i o x fp log=true):xX ops tab i o x fp log'=true:=by
 unfold xX at *
 rw[List.all_eq_true] at *
 exact fun e he=>h e (hs e he)
theorem tU {nfi:Nat→Oper→Option (NF × FP)} {ops:Array Oper} {tab:List (Nat × Nat)} {a:Nat} {oa:Oper} {x:NF} {fp:FP} {log:List Ent} {r:List (Nat × Oper)} :
  Q4 nfi ops tab a oa x fp log r=true ↔ (x.isHv=true→∀ k ∈ r,Bo tab a k.1=false→∃ y fpy,nfi k.1 k.2=some (y,fpy)∧sR x fp y fpy=true∧Oper.apart ops oa k.2=true∧xX ops tab k.1 k.2 y fpy log=true ∧
   ∀ m ∈ r,Bo tab a m.1=false→m.1=k.1∨(Oper.apart ops m.2 k.2=true∧∃ z fz,nfi m.1 m.2=some (z,fz)∧Gw z.writes fpy.reads=true)):=by
 unfold Q4
 cases x with
 | hv cs hk frz own shp post sv =>
  simp only[NF.isHv,forall_const,List.all_eq_true,List.mem_filter,Bool.not_eq_true']
  constructor
  ·intro h k hk ho
   have:=h k ⟨hk,ho⟩
   split at this
   ·rename_i y fpy hy
    simp only[Bool.and_eq_true,List.all_eq_true,List.mem_filter,Bool.or_eq_true,beq_iff_eq,Bool.not_eq_true'] at this
    refine⟨y,fpy,hy,this.1.1.1,this.1.1.2,this.1.2,fun m hm hom=>?_⟩
    rcases this.2 m ⟨hm,hom⟩ with h | ⟨h1,h2⟩
    ·exact .inl h
    ·refine .inr ⟨h1,?_⟩
     split at h2
     ·rename_i z fz hz;exact⟨z,fz,hz,h2⟩
     ·cases h2
   ·cases this
  ·rintro h k ⟨hk,ho⟩
   obtain⟨y,fpy,hy,h1,h2,h3,h4⟩:=h k hk ho
   rw[hy]
   simp only[Bool.and_eq_true,List.all_eq_true,List.mem_filter,Bool.or_eq_true,beq_iff_eq,Bool.not_eq_true']
   refine⟨⟨⟨h1,h2⟩,h3⟩,?_⟩
   rintro m ⟨hm,hom⟩
   rcases h4 m hm hom with h | ⟨h5,z,fz,hz,h6⟩
   ·exact .inl h
   ·exact .inr ⟨h5,by rw[hz];exact h6⟩
 | _=>simp[NF.isHv]
theorem PW {nfi:Nat→Oper→Option (NF × FP)} {ops:Array Oper} {tab:List (Nat × Nat)} {a:Nat} {oa:Oper} {x:NF} {fp:FP} {log log':List Ent} {r r':List (Nat × Oper)}
  (hs:∀ e,e ∈ log'→e ∈ log) (hr:∀ e,e ∈ r'→e ∈ r) (h:Q4 nfi ops tab a oa x fp log r=true):Q4 nfi ops tab a oa x fp log' r'=true:=by
 rw[tU] at *
 intro hx k hk ho
 obtain⟨y,fpy,hy,h1,h2,h3,h4⟩:=h hx k (hr k hk) ho
 exact⟨y,fpy,hy,h1,h2,zb hs h3,fun m hm hom=>h4 m (hr m hm) hom⟩
theorem SK {tab:List (Nat × Nat)} {i:Nat} {log log':List Ent} (hs:∀ e,e ∈ log'→e ∈ log) (h:dAt tab i log'=true):dAt tab i log=true:=by
 unfold dAt at *
 rw[List.any_eq_true] at *
 obtain⟨e,he,h⟩:=h
 exact⟨e,hs e he,h⟩
theorem Q5 {tab:List (Nat × Nat)} {i:Nat} {log log':List Ent} (hs:∀ e,e ∈ log'→e ∈ log):(true && dAt tab i log')=true→(true && dAt tab i log)=true:=by
 rw[Bool.true_and,Bool.true_and];exact SK hs
theorem Hj {c:RC} {K:SS→Heap→Own→Prop}:∀ {l:List (Nat × Oper)} {log log':List Ent} {s:SS} {H:Heap} {O:Own},(∀ e,e ∈ log'→e ∈ log)→RR c true K l log s H O→RR c true K l log' s H O
 | [],_,_,_,_,_,_,h=>h
 | (i,o)::r,log,log',s,H,O,hs,⟨x,fp,hx,hc,hr⟩=>by
  refine⟨x,fp,hx,fun hd=>⟨zb hs (hc hd).1,PW hs (fun _ h=>h) (hc hd).2⟩,NF.run_le (Q5 hs) (NF.run_mono (fun _ _ _ hk=>Hj ?_ hk) hr)⟩
  intro e he
  simp only[if_true,List.mem_cons] at he ⊢
  exact he.imp id (hs e)
theorem Nq {c:RC} {a:Nat} {oa:Oper} {x:NF} {fp:FP} {log:List Ent} {r r':List (Nat × Oper)} {s s':SS} {i:Nat} {o:Oper} {y:NF} {fy:FP}
  (h:Q4 (fun k ok=>c.N k ok s) c.ops c.tab a oa x fp log r=true) (hi:(i,o) ∈ r) (ho:Bo c.tab a i=false) (hy:c.N i o s=some (y,fy)) (hn:Near o.dst y.writes s s')
  (hr:∀ e,e ∈ r'→e ∈ r∧e.1 ≠ i):Q4 (fun k ok=>c.N k ok s') c.ops c.tab a oa x fp log r'=true:=by
 rw[tU] at *
 intro hx k hk hok
 have key:∀ k,k ∈ r'→Bo c.tab a k.1=false→∀ z fz,c.N k.1 k.2 s=some (z,fz)→c.N k.1 k.2 s'=some (z,fz):=by
  intro k hk hok z fz hz
  obtain⟨y',fy',hy',_,_,_,h4⟩:=h hx k (hr k hk).1 hok
  have h5:=(h4 (i,o) hi ho).resolve_left (fun e=>(hr k hk).2 e.symm)
  obtain⟨hap,z',fz',hz',hd⟩:=h5
  have hz':c.N i o s=some (z',fz'):=hz'
  rw[hy] at hz'
  simp only[Option.some.injEq,Prod.mk.injEq] at hz'
  obtain⟨rfl,rfl⟩:=hz'
  have:(y',fy')=(z,fz):=by
   have e:some (y',fy')=some (z,fz):=hy'.symm.trans hz
   exact Option.some.inj e
  obtain⟨rfl,rfl⟩:=Prod.mk.inj this
  exact (c.cong k.1 k.2).near hn (Oper.apart_spec hap).1 (fun n hn'=>vG hd hn') hz
 obtain⟨y',fy',hy',h1,h2,h3,h4⟩:=h hx k (hr k hk).1 hok
 refine⟨y',fy',key k hk hok _ _ hy',h1,h2,h3,fun m hm hom=>?_⟩
 rcases h4 m (hr m hm).1 hom with h | ⟨h5,z,fz,hz,h6⟩
 ·exact .inl h
 ·exact .inr ⟨h5,z,fz,key m hm hom _ _ hz,h6⟩
theorem NF.run_any {P:Program} {d:Bool} {dst:Option Tmp} {x:NF} {s:SS} {K:SS→Heap→Own→Prop} {H:Heap} {O:Own} (hx:x.isHv=false) (h:x.run P d dst s K H O):∃ s' H' O',K s' H' O':=by
 cases x with
 | fl cs k X=>obtain⟨h1,vs,h2,h3⟩:=h;exact⟨_,_,_,h3⟩
 | box cs n T cells val=>exact⟨_,_,_,h.2 0⟩
 | stb cs n b=>exact⟨_,_,_,h.2⟩
 | hv cs k frz own shp post sv=>simp[NF.isHv] at hx
 | st cs p vs=>obtain⟨h1,O',h2,h3⟩:=h;exact⟨_,_,_,h3⟩
theorem JF {c:RC} {K:SS→Heap→Own→Prop} {i:Nat} {o:Oper} {l2:List (Nat × Oper)}:∀ {l1:List (Nat × Oper)} {log:List Ent} {s:SS} {H:Heap} {O:Own},
  RR c true K (l1++(i,o)::l2) log s H O→(∀ e ∈ l1,Bo c.tab e.1 i=false)→(∀ e ∈ l1++l2,e.1 ≠ i) →
  ∃ y fy,c.N i o s=some (y,fy)∧xX c.ops c.tab i o y fy log=true∧y.run c.P (true && dAt c.tab i log) o.dst s (RR c true K (l1++l2) log) H O
 | [],log,s,H,O,⟨x,fp,hx,hc,hr⟩,_,_ =>
  ⟨x,fp,hx,(hc rfl).1,NF.run_mono (fun _ _ _ hk=>Hj (fun e he=>by simp[he]) hk) hr⟩
 | (a,oa)::l1,log,s,H,O,⟨x,fp,hx,hc,hr⟩,ho,hne=>by
  obtain⟨hc1,hc2⟩:=hc rfl
  have hoa:Bo c.tab a i=false:=ho (a,oa) (by simp)
  have hr':=NF.run_mono (fun s' H' O' hk=>JF (l1:=l1) hk (fun e he=>ho e (by simp[he])) (fun e he=>hne e (by simp only[List.cons_append,List.mem_cons];exact .inr he))) hr
  have hlog:∀ {y:NF} {fy:FP},xX c.ops c.tab i o y fy (⟨a,oa,x,fp⟩::log)=true→sR x fp y fy=true∧Oper.apart c.ops oa o=true∧xX c.ops c.tab i o y fy log=true:=by
   intro y fy h
   refine⟨?_,?_,zb (fun e he=>by simp[he]) h⟩
   all_goals
    unfold xX at h
    rw[List.all_cons,Bool.and_eq_true] at h
    have:=h.1
    simp only[hoa,Bool.false_or,Bool.and_eq_true] at this
   ·exact this.1
   ·exact this.2
  have hmem:(i,o) ∈ l1++(i,o)::l2:=by simp
  have hap:Oper.apart c.ops oa o=true:=by
   cases hh:x.isHv with
   | true=>obtain⟨_,_,_,_,h2,_⟩:=(tU.1 hc2) hh (i,o) hmem hoa;exact h2
   | false=>obtain⟨_,_,_,y,fy,_,hl,_⟩:=NF.run_any hh hr';exact (hlog hl).2.1
  obtain⟨p1,p2,p3⟩:=Oper.apart_spec hap
  have:=swap (P:=c.P) (c.cong a oa) (c.cong i o) p1 p2 p3 hx (dx:=fun _=>true && dAt c.tab a log) (dy:=fun _=>true && dAt c.tab i (⟨a,oa,x,fp⟩::log)) (fun hl _=>by rw[Bool.true_and,dAt,List.any_cons];simp[hoa,hl]) (C:=fun y fy=>xX c.ops c.tab i o y fy log=true) (K:=RR c true K (l1++l2) (⟨a,oa,x,fp⟩::log)) (H:=H) (O:=O) ?_ ?_
  ·obtain⟨y,fy,hy,he,hC,hrun⟩:=this
   refine⟨y,fy,hy,hC,NF.run_le (Q5 fun e he=>List.mem_cons_of_mem _ he)<| NF.run_mono (fun s' H' O' ⟨h1,h2,h3⟩=>⟨x,fp,h1,fun _=>⟨hc1,?_⟩,h3⟩) hrun⟩
   refine Nq hc2 hmem hoa hy h2 (fun e he=>⟨?_,hne e (by simp only[List.cons_append,List.mem_cons];exact .inr he)⟩)
   exact List.mem_append.2 ((List.mem_append.1 he).imp id (List.mem_cons_of_mem _))
  ·intro hx'
   obtain⟨y,fy,hy,h1,_,h3,_⟩:=(tU.1 hc2) hx' (i,o) hmem hoa
   exact⟨y,fy,hy,h1,h3⟩
  ·exact NF.run_mono (fun s' H' O' ⟨y,fy,hy,hl,hrun⟩=>⟨y,fy,hy,(hlog hl).1,(hlog hl).2.2,hrun⟩) hr'
theorem FV {l1 l2:List Nat} {a:Nat}:(l1++a::l2).Nodup ↔ (a::(l1++l2)).Nodup:=List.perm_middle.nodup_iff
def TopoP (L:Nat→Prop):List (Nat × Oper)→Prop
 | []=>True
 | (i,o)::r=>(∀ p ∈ ic o,L p)∧TopoP (fun p=>L p∨p=i) r
theorem TopoP.mono:∀ {l:List (Nat × Oper)} {L L':Nat→Prop},(∀ p,L p→L' p)→TopoP L l→TopoP L' l
 | [],_,_,_,_=>trivial
 | (_,_)::_,_,_,h,⟨h1,h2⟩=>⟨fun p hp=>h p (h1 p hp),TopoP.mono (fun p hp=>hp.imp (h p) id) h2⟩
theorem TopoP.drop {i:Nat} {o:Oper} {l2:List (Nat × Oper)}:∀ {l1:List (Nat × Oper)} {L:Nat→Prop},TopoP L (l1++(i,o)::l2)→TopoP (fun p=>L p∨p=i) (l1++l2)
 | [],_,h=>h.2
 | (j,oj)::r,L,⟨h1,h2⟩=>⟨fun p hp=>.inl (h1 p hp),TopoP.mono (fun p hp=>by
   rcases hp with (h | h) | h
   ·exact .inl (.inl h)
   ·exact .inr h
   ·exact .inl (.inr h)) (TopoP.drop (l1:=r) h2)⟩
structure Inv (c:RC) (L:Array Bool) (l:List (Nat × Oper)):Prop where
 sz:L.size=c.ops.size
 pend:∀ i,L.getD i true=false ↔ ∃ o,(i,o) ∈ l
 op:∀ i o,(i,o) ∈ l→c.ops[i]?=some o
 nd:(l.map (·.1)).Nodup
 topo:TopoP (fun i=>L.getD i false=true) l
 closed:∀ i j,L.getD i false=true→Bo c.tab j i=true→L.getD j false=true
def TO (c:RC):Prop:=∀ i j o,Bo c.tab j i=true→c.ops[i]?=some o→j ∈ ic o∨∃ p ∈ ic o,Bo c.tab j p=true
theorem tR {o:Oper} {p:Nat}:p ∈ ic o ↔ ∃ e ∈ o.after,Region.binds .any e=true∧e.on=p:=by
 unfold ic
 simp only[List.mem_filterMap,Array.mem_toList_iff]
 constructor
 ·rintro ⟨e,he,h⟩
  split at h
  ·rename_i hb;exact⟨e,he,hb,by simpa using h⟩
  ·simp at h
 ·rintro ⟨e,he,hb,rfl⟩
  exact⟨e,he,by simp[hb]⟩
theorem Inv.step {c:RC} {L:Array Bool} {l1 l2:List (Nat × Oper)} {i:Nat} {o:Oper} (hT:TO c) (h:Inv c L (l1++(i,o)::l2)) (hr:∀ p ∈ ic o,L.getD p false=true) :
  Inv c (L.setIfInBounds i true) (l1++l2):=by
 have hi:c.ops[i]?=some o:=h.op i o (by simp)
 have hlt:i < L.size:=by rw[h.sz];exact (Array.getElem?_eq_some_iff.1 hi).1
 have hself:∀ d,(L.setIfInBounds i true).getD i d=true:=by intro d;simp[hlt]
 have hnd:=h.nd
 rw[List.map_append,List.map_cons,FV] at hnd
 obtain⟨hni,hnd⟩:=List.nodup_cons.1 hnd
 refine⟨by simp[h.sz],fun k=>?_,fun k o' hk=>?_,?_,?_,fun k j hk ho=>?_⟩
 ·by_cases e:i=k
  ·subst e
   rw[hself]
   constructor
   ·intro h;cases h
   ·rintro ⟨o',ho'⟩
    exact (hni (by rw[← List.map_append];exact List.mem_map.2 ⟨_,ho',rfl⟩)).elim
  ·rw[getD_set_ne true e,h.pend]
   constructor
   ·rintro ⟨o',ho'⟩
    refine⟨o',?_⟩
    simp only[List.mem_append,List.mem_cons,Prod.mk.injEq] at ho' ⊢
    rcases ho' with h | ⟨rfl,_⟩ | h
    ·exact .inl h
    ·exact (e rfl).elim
    ·exact .inr h
   ·rintro ⟨o',ho'⟩
    refine⟨o',?_⟩
    simp only[List.mem_append,List.mem_cons] at ho' ⊢
    exact ho'.imp id .inr
 ·refine h.op k o' ?_
  simp only[List.mem_append,List.mem_cons] at hk ⊢
  exact hk.imp id .inr
 ·rw[List.map_append];exact hnd
 ·refine TopoP.mono ?_ h.topo.drop
  rintro p (hp | rfl)
  ·exact getD_set_true hp
  ·exact hself _
 ·by_cases e:i=k
  ·subst e
   rcases hT i j o ho hi with h1 | ⟨p,hp,h1⟩
   ·exact getD_set_true (hr j h1)
   ·exact getD_set_true (h.closed p j (hr p hp) h1)
  ·rw[getD_set_ne false e] at hk
   exact getD_set_true (h.closed k j hk ho)
theorem Inv.unlisted {c:RC} {L:Array Bool} {l:List (Nat × Oper)} (h:Inv c L l) {i:Nat} {o:Oper} (hi:(i,o) ∈ l):L.getD i false=false:=by
 have h1:=(h.pend i).2 ⟨o,hi⟩
 have hlt:i < L.size:=by rw[h.sz];exact (Array.getElem?_eq_some_iff.1 (h.op i o hi)).1
 simpa [Array.getD,hlt] using h1
theorem Hg {c:RC} (hT:TO c) (hokf:∀ f,c.okf f=true→mc c.P f) {F:Own} {K:SS→Heap→Own→Prop} {Q:Exit→Act→World→Prop}:∀ (n:Nat) {l:List (Nat × Oper)} {fuel:Nat} {L:Array Bool} {s:SS} {H:Heap} {O:Own} {a:Act} {w:World},
  l.length=n→n≤fuel→Inv c L l→Conc F s H O a w→RR c true K l [] s H O →
  (∀ s' H' O' a' w',Conc F s' H' O' a' w'→Heap.le H H'→K s' H' O'→Q .normal a' w')→wpAny c.P .any c.ops Q fuel L a w:=by
 intro n
 induction n with
 | zero =>
  intro l fuel L s H O a w hl hf hI hC hR hK
  have:l=[]:=List.eq_nil_of_length_eq_zero hl
  subst this
  refine wpAny_done ?_ (hK s H O a w hC (Heap.le_refl H) hR) fuel
  refine List.eq_nil_iff_forall_not_mem.2 fun i hi=>?_
  obtain⟨o,ho⟩:=(hI.pend i).1 (mem_ready.1 hi).1
  simp at ho
 | succ n ih =>
  intro l fuel L s H O a w hl hf hI hC hR hK
  cases fuel with
  | zero=>omega
  | succ f =>
   refine⟨fun h0=>?_,fun i hi=>?_⟩
   ·exfalso
    match l,hl with
    | (i,o)::r,_ =>
     have:i ∈ Region.ready .any c.ops L:=by
      refine mem_ready.2 ⟨(hI.pend i).2 ⟨o,by simp⟩,o,hI.op i o (by simp),fun e he hb=>?_⟩
      exact hI.topo.1 e.on (tR.2 ⟨e,he,hb,rfl⟩)
     rw[h0] at this;simp at this
   ·obtain⟨hun,o,ho,hall⟩:=mem_ready.1 hi
    obtain⟨o',hmem⟩:=(hI.pend i).1 hun
    have:o'=o:=by have:=hI.op i o' hmem;rw[ho] at this;exact (Option.some.inj this).symm
    subst this
    obtain⟨l1,l2,rfl⟩:=List.append_of_mem hmem
    have hpr:∀ p ∈ ic o',L.getD p false=true:=by
     intro p hp
     obtain⟨e,he,hb,rfl⟩:=tR.1 hp
     exact hall e he hb
    have hnd:=hI.nd
    rw[List.map_append,List.map_cons,FV] at hnd
    have hni:=(List.nodup_cons.1 hnd).1
    obtain⟨y,fy,hy,_,hrun⟩:=JF hR (fun e he=>by
     cases hoe:Bo c.tab e.1 i with
     | false=>rfl
     | true =>
      exfalso
      have hu:L.getD e.1 false=false:=hI.unlisted (o:=e.2) (by simp[he])
      rcases hT i e.1 o' hoe ho with h1 | ⟨p,hp,h1⟩
      ·rw[hpr _ h1] at hu;cases hu
      ·rw[hI.closed p e.1 (hpr p hp) h1] at hu;cases hu) (fun e he hei=>hni (by rw[← List.map_append];exact List.mem_map.2 ⟨_,he,hei⟩))
    have hs:=tP hokf hy F H O a w _ _ Q hC hrun
    have hwp:wpOp c.P c.ops Q i (fun a' w'=>∃ s' H' O',Conc F s' H' O' a' w'∧Heap.le H H'∧RR c true K (l1++l2) [] s' H' O') a w:=by
     unfold wpOp
     rw[ho]
     exact hs
    refine wpOp_mono ?_ hwp
    rintro a' w' ⟨s',H',O',hC',hle,hR'⟩
    refine ih (l:=l1++l2) ?_ (by omega) (hI.step hT hpr) hC' hR' (fun s2 H2 O2 a2 w2 h1 h2 h3=>hK s2 H2 O2 a2 w2 h1 (Heap.le_trans hle h2) h3)
    simp only[List.length_append,List.length_cons] at hl ⊢;omega
theorem nu (d i k:Nat):(d ||| 1 <<< i).testBit k=(d.testBit k || decide (i=k)):=by
 rw[Nat.testBit_or,Nat.one_shiftLeft,Nat.testBit_two_pow]
theorem Gj {d:Nat} {o:Oper} (h:Ei d o=true):∀ p ∈ ic o,d.testBit p=true:=by
 unfold Ei at h;rw[List.all_eq_true] at h;exact h
theorem tj {n:Nat}:∀ {l:List (Nat × Oper)} {d:Nat},topo n d l=true →
  (∀ i,i < n ↔ (d.testBit i=true∨∃ o,(i,o) ∈ l))∧(l.map (·.1)).Nodup∧(∀ i o,(i,o) ∈ l→d.testBit i=false)∧TopoP (fun p=>d.testBit p=true) l
 | [],d,h=>by
  simp only[topo,beq_iff_eq] at h
  subst h
  refine⟨fun i=>?_,by simp,by simp,trivial⟩
  simp[Nat.testBit_two_pow_sub_one]
 | (i,o)::r,d,h=>by
  simp only[topo,Bool.and_eq_true,Bool.not_eq_true'] at h
  obtain⟨⟨h1,h2⟩,h3⟩:=h
  obtain⟨a,b,e,f⟩:=tj h3
  refine⟨fun k=>?_,?_,fun k o' hk=>?_,fun p hp=>Gj h2 p hp,f.mono fun p hp=>?_⟩
  ·rw[a k,nu]
   simp only[Bool.or_eq_true,decide_eq_true_eq,List.mem_cons,Prod.mk.injEq]
   constructor
   ·rintro ((h | rfl) | ⟨o',h⟩)
    ·exact .inl h
    ·exact .inr ⟨o,.inl ⟨rfl,rfl⟩⟩
    ·exact .inr ⟨o',.inr h⟩
   ·rintro (h | ⟨o',⟨rfl,_⟩ | h⟩)
    ·exact .inl (.inl h)
    ·exact .inl (.inr rfl)
    ·exact .inr ⟨o',h⟩
  ·rw[List.map_cons,List.nodup_cons]
   refine⟨fun hm=>?_,b⟩
   obtain⟨p,hp,hpi⟩:=List.mem_map.1 hm
   have:=e p.1 p.2 hp
   rw[nu] at this
   simp[hpi] at this
  ·rcases List.mem_cons.1 hk with hk | hk
   ·simp only[Prod.mk.injEq] at hk;rw[hk.1];exact h1
   ·have:=e k o' hk
    rw[nu] at this
    simp only[Bool.or_eq_false_iff] at this
    exact this.1
  ·rw[nu] at hp
   rw[Bool.or_eq_true,decide_eq_true_eq] at hp
   exact hp.imp id Eq.symm
theorem pu:∀ (n:Nat) (l:List Nat),l.Nodup→(∀ i ∈ l,i < n)→l.length≤n
 | 0,[],_,_=>by simp
 | 0,a::_,_,h=>by have:=h a (by simp);omega
 | n + 1,l,hn,h=>by
  by_cases hm:n ∈ l
  ·have h1:=pu n (l.erase n) (hn.erase n) fun i hi=>by
    obtain⟨h2,h3⟩:=(List.Nodup.mem_erase_iff hn).1 hi
    have:=h i h3;omega
   rw[List.length_erase_of_mem hm] at h1
   omega
  ·have:=pu n l hn fun i hi=>by
    have:=h i hi
    have:i ≠ n:=fun e=>hm (e ▸ hi)
    omega
   omega
theorem nL {d k:Nat}:∀ {l:List (Nat × Oper)} {e:Nat × Oper},nM d k l=some e→e ∈ l
 | [],_,h=>by simp[nM] at h
 | (i,o)::r,e,h=>by
  simp only[nM] at h
  split at h
  ·simp only[Option.some.injEq] at h;simp[h]
  ·exact List.mem_cons_of_mem _ (nL h)
theorem zN {i:Nat}:∀ {l:List (Nat × Oper)} {e:Nat × Oper},e ∈ zP i l→e ∈ l
 | [],_,h=>by simp[zP] at h
 | (j,o)::r,e,h=>by
  simp only[zP] at h
  split at h
  ·simp[h]
  ·rcases List.mem_cons.1 h with h | h
   ·simp[h]
   ·exact List.mem_cons_of_mem _ (zN h)
theorem nw:∀ {fuel d:Nat} {l:List (Nat × Oper)} {e:Nat × Oper},e ∈ eK fuel d l→e ∈ l
 | 0,_,_,_,h=>by simpa [eK] using h
 | fuel + 1,d,l,e,h=>by
  simp only[eK] at h
  split at h
  ·exact h
  ·rename_i i o hf
   rcases List.mem_cons.1 h with h | h
   ·subst h
    cases h0:nM d 0 l with
    | some x=>rw[h0] at hf;simp at hf;subst hf;exact nL h0
    | none =>
     cases h1:nM d 1 l with
     | some x=>rw[h0,h1] at hf;simp at hf;subst hf;exact nL h1
     | none=>rw[h0,h1] at hf;simp at hf;exact nL hf
   ·exact zN (nw h)
theorem lj {α:Type}:∀ {l:List α} {n:Nat} {e:Nat × α},e ∈ aL n l→n≤e.1∧l[e.1 - n]?=some e.2
 | [],_,_,h=>by simp[aL] at h
 | a::r,n,e,h=>by
  rcases List.mem_cons.1 h with h | h
  ·subst h;simp
  ·obtain⟨h1,h2⟩:=lj h
   refine⟨by omega,?_⟩
   rw[show e.1 - n=(e.1 - (n + 1)) + 1 by omega]
   simpa using h2
theorem zl {tab:List (Nat × Nat)} {j:Nat}:∀ {ps:List Nat},(B5 tab ps).testBit j=true→j ∈ ps∨∃ p ∈ ps,(iN tab p).testBit j=true
 | [],h=>by simp[B5] at h
 | p::r,h=>by
  simp only[B5,Nat.testBit_or,Bool.or_eq_true,Nat.one_shiftLeft,Nat.testBit_two_pow,decide_eq_true_eq] at h
  rcases h with (h | h) | h
  ·exact .inl (by simp[h])
  ·exact .inr ⟨p,by simp,h⟩
  ·rcases zl h with h | ⟨q,hq,h⟩
   ·exact .inl (by simp[h])
   ·exact .inr ⟨q,by simp[hq],h⟩
theorem lg:∀ {l:List (Nat × Oper)} {tab:List (Nat × Nat)} {L:Nat→Prop},(l.map (·.1)).Nodup→(∀ i o,(i,o) ∈ l→¬ L i)→TopoP L l →
  (∀ p,(∀ o,(p,o) ∉ l)→iN (fm l tab) p=iN tab p) ∧
  ∀ i o j,(i,o) ∈ l→(iN (fm l tab) i).testBit j=true→j ∈ ic o∨∃ p ∈ ic o,(iN (fm l tab) p).testBit j=true
 | [],tab,L,_,_,_=>⟨fun _ _=>rfl,fun i o j h=>by simp at h⟩
 | (i,o)::r,tab,L,hn,hL,hT=>by
  rw[List.map_cons,List.nodup_cons] at hn
  have hir:∀ o',(i,o') ∉ r:=fun o' ho=>hn.1 (List.mem_map.2 ⟨_,ho,rfl⟩)
  obtain⟨h1,h2⟩:=lg (l:=r) (tab:=(i,B5 tab (ic o))::tab) (L:=fun p=>L p∨p=i) hn.2 (fun k o' hk=>by
   rintro (h | rfl)
   ·exact hL k o' (by simp[hk]) h
   ·exact hir o' hk) hT.2
  have hnot:∀ p,L p→∀ o',(p,o') ∉ (i,o)::r:=fun p hp o' ho=>hL p o' ho hp
  have hl:∀ p,L p→iN (fm ((i,o)::r) tab) p=iN tab p:=by
   intro p hp
   have hpi:i ≠ p:=fun e=>hnot p hp o (by simp[e])
   have:=h1 p (fun o' ho=>hnot p hp o' (by simp[ho]))
   simp only[fm]
   rw[this]
   simp[iN,hpi]
  refine⟨fun p hp=>?_,fun k o' j hk hb=>?_⟩
  ·have hpi:i ≠ p:=fun e=>hp o (by simp[e])
   have:=h1 p (fun o' ho=>hp o' (by simp[ho]))
   simp only[fm]
   rw[this]
   simp[iN,hpi]
  ·rcases List.mem_cons.1 hk with hk | hk
   ·simp only[Prod.mk.injEq] at hk
    obtain⟨rfl,rfl⟩:=hk
    have:=h1 k hir
    simp only[fm] at hb
    rw[this] at hb
    simp only[iN,if_true] at hb
    rcases zl hb with h | ⟨p,hp,h⟩
    ·exact .inl h
    ·exact .inr ⟨p,hp,by rw[hl p (hT.1 p hp)];exact h⟩
   ·simp only[fm] at hb ⊢
    exact h2 k o' j hk hb
theorem sg {c:RC} (hokf:∀ f,c.okf f=true→mc c.P f) {F:Own} {K:SS→Heap→Own→Prop} {Q:Exit→Act→World→Prop}:∀ (l:List (Nat × Oper)) {log:List Ent} {s:SS} {H:Heap} {O:Own} {a:Act} {w:World},
  (∀ e ∈ l,c.ops[e.1]?=some e.2)→Conc F s H O a w→RR c false K l log s H O →
  (∀ s' H' O' a' w',Conc F s' H' O' a' w'→Heap.le H H'→K s' H' O'→Q .normal a' w')→wpOps c.P c.ops Q (l.map (·.1)) a w
 | [],_,s,H,O,a,w,_,hC,hR,hK=>hK s H O a w hC (Heap.le_refl H) hR
 | (i,o)::r,log,s,H,O,a,w,ho,hC,⟨y,fy,hy,_,hrun⟩,hK=>by
  have hs:=tP hokf hy F H O a w _ _ Q hC hrun
  rw[List.map_cons,wpOps_cons]
  have hwp:wpOp c.P c.ops Q i (fun a' w'=>∃ s' H' O',Conc F s' H' O' a' w'∧Heap.le H H'∧RR c false K r log s' H' O') a w:=by
   unfold wpOp
   rw[ho (i,o) (by simp)]
   exact hs
  refine wpOp_mono ?_ hwp
  rintro a' w' ⟨s',H',O',hC',hle,hR'⟩
  exact sg hokf r (fun e he=>ho e (by simp[he])) hC' hR' (fun s2 H2 O2 a2 w2 h1 h2 h3=>hK s2 H2 O2 a2 w2 h1 (Heap.le_trans hle h2) h3)
theorem lk {α:Type}:∀ (l:List α) (n:Nat),(aL n l).map (·.1)=(List.range' n l.length)
 | [],_=>rfl
 | a::r,n=>by rw[aL,List.map_cons,lk r (n + 1),List.length_cons,List.range'_succ]
theorem Conc.drew {F:Own} {s:SS} {H:Heap} {O:Own} {a:Act} {w:World} (h:Conc F s H O a w) (n:Nat):Conc F s H O a { w with drawn:=n } :=
 ⟨h.ok,h.df,h.sz,h.tm,let ⟨L,h1,h2⟩:=h.mm;⟨L,h1,h2.same rfl rfl⟩⟩
theorem Conc.next {F:Own} {s:SS} {H:Heap} {O:Own} {a:Act} {w:World} (h:Conc F s H O a w) (n:Nat):Conc F { s with next:=n } H O a w :=
 ⟨h.ok,h.df,h.sz,h.tm,h.mm⟩
theorem FH {P:Program} (hm:P.follows .mixedOrders=true) {okf:FuncId→Bool} (hokf:∀ f,okf f=true→mc P f) {rules:FuncId→Option (List Nat)} {id:Nat} {ops:Array Oper} {draw:Bool} {s:SS} {kk:SS→Tree}
  {QT:Value→Heap→Own→Prop} {F:Own} {H:Heap} {O:Own} {a:Act} {w:World} {Q:Exit→Act→World→Prop}
  (h:(mz P okf rules ops draw s kk).den P QT H O) (hC:Conc F s H O a w)
  (hK:∀ s' H' O' a' w',Conc F s' H' O' a' w'→Heap.le H H'→(kk s').den P QT H' O'→Q .normal a' w'):(Code.region id ops draw).wp P Q a w:=by
 unfold mz at h
 simp only[] at h
 have hops:∀ e ∈ aL 0 ops.toList,ops[e.1]?=some e.2:=by
  intro e he
  have:=(lj he).2
  simpa using this
 cases draw with
 | true =>
  simp only[if_true] at h
  split at h
  ·rename_i ht
   have hR:=Hk (c:=⟨P,okf,rules,ops,fm (eK ops.size 0 (aL 0 ops.toList)) [],fD (aL 0 ops.toList),s.next⟩) h
   obtain⟨t1,t2,t3,t4⟩:=tj ht
   have hop:∀ i o,(i,o) ∈ eK ops.size 0 (aL 0 ops.toList)→ops[i]?=some o:=fun i o hi=>hops (i,o) (nw hi)
   refine wp_region_any hm ?_
   refine Hg (c:=⟨P,okf,rules,ops,fm (eK ops.size 0 (aL 0 ops.toList)) [],fD (aL 0 ops.toList),s.next⟩) ?_ hokf (eK ops.size 0 (aL 0 ops.toList)).length rfl ?_ ?_ (hC.drew _) hR ?_
   ·intro i j o ho hi
    have hlt:i < ops.size:=(Array.getElem?_eq_some_iff.1 hi).1
    obtain⟨o',ho'⟩:=((t1 i).1 hlt).resolve_left (by simp)
    have:o'=o:=by have:=hop i o' ho';simp only[] at hi;rw[hi] at this;exact (Option.some.inj this).symm
    subst this
    exact (lg (tab:=[]) t2 (fun _ _ h=>by simp[t3 _ _ h]) t4).2 i o' j ho' ho
   ·have:=pu ops.size _ t2 (fun i hi=>by
     obtain⟨e,he,rfl⟩:=List.mem_map.1 hi
     exact (t1 e.1).2 (.inr ⟨e.2,he⟩))
    simpa using this
   ·refine⟨by simp,fun i=>?_,hop,t2,t4.mono (by simp),fun i j hi=>?_⟩
    ·rw[show ((Array.replicate ops.size false).getD i true=false) ↔ i < ops.size by
      by_cases hlt:i < ops.size <;> simp[Array.getD,hlt]]
     rw[t1];simp
    ·exfalso
     by_cases hlt:i < ops.size <;> simp[Array.getD,hlt] at hi
   ·intro s' H' O' a' w' h1 h2 h3
    exact hK _ H' O' a' w' (h1.next _) h2 h3
  ·exact h.elim
 | false =>
  simp only[Bool.false_eq_true,if_false] at h
  have hR:=Hk (c:=⟨P,okf,rules,ops,[],fD (aL 0 ops.toList),s.next⟩) h
  refine wp_region ?_
  have:=sg (c:=⟨P,okf,rules,ops,[],fD (aL 0 ops.toList),s.next⟩) (Q:=Q) hokf (aL 0 ops.toList) hops hC hR (fun s' H' O' a' w' h1 h2 h3=>hK _ H' O' a' w' (h1.next _) h2 h3)
  rw[lk] at this
  rw[List.range_eq_range']
  simpa using this
theorem PR {G:Type} (I:G→Prop) (μ:G→Nat):∀ (n:Nat) (g:G),I g→μ g≤n→∃ m,(∃ g,I g∧μ g=m)∧∀ g,I g→m≤μ g
 | 0,g,h,hn=>⟨0,⟨g,h,by omega⟩,fun _ _=>Nat.zero_le _⟩
 | n + 1,g,h,hn=>by
  by_cases hx:∃ g',I g'∧μ g'≤n
  ·obtain⟨g',h1,h2⟩:=hx
   exact PR I μ n g' h1 h2
  ·refine⟨μ g,⟨g,h,rfl⟩,fun g' hg'=>?_⟩
   have:¬ μ g'≤n:=fun hl=>hx ⟨g',hg',hl⟩
   omega
theorem nq {P:Program} {c:Code} {Q:Exit→Act→World→Prop} {G:Type} (I:G→Act→World→Prop) (μ:G→Nat) {g0:G} {a:Act} {w:World} (h0:I g0 a w)
  (round:∀ g a w,I g a w→c.wp P (Exit.then (fun a' w'=>∃ g',I g' a' w'∧μ g' < μ g) Q) a w):(Code.loop c).wp P Q a w:=by
 let m:Act→World→Nat:=fun a w=>Classical.epsilon fun n=>(∃ g,I g a w∧μ g=n)∧∀ g,I g a w→n≤μ g
 have hm:∀ a w,(∃ g,I g a w)→(∃ g,I g a w∧μ g=m a w)∧∀ g,I g a w→m a w≤μ g:=by
  rintro a w ⟨g,hg⟩
  exact Classical.epsilon_spec (PR (fun g=>I g a w) μ (μ g) g hg (Nat.le_refl _))
 refine wp_loop (fun a w=>∃ g,I g a w) m ⟨g0,h0⟩ fun a w hI=>?_
 obtain⟨⟨g,hg,hgm⟩,_⟩:=hm a w hI
 refine wp_mono (round g a w hg) fun e a' w' hq=>?_
 cases e with
 | normal =>
  obtain⟨g',hg',hlt⟩:=hq
  refine⟨⟨g',hg'⟩,?_⟩
  have:=(hm a' w' ⟨g',hg'⟩).2 g' hg'
  show m a' w' < m a w
  omega
 | _=>exact hq
theorem Conc.cons {F:Own} {s:SS} {H:Heap} {O:Own} {a:Act} {w:World} (h:Conc F s H O a w):Cons H O :=
 let ⟨L,_,hm⟩:=h.mm;⟨w,L++F,hm.perm (List.perm_append_comm_assoc _ _ _)⟩
theorem Conc.ghost {F:Own} {s:SS} {H H':Heap} {O O':Own} {a:Act} {w:World} (h:Conc F s H O a w) (hg:Ghost H O H' O'):Conc F s H' O' a w∧Heap.le H H':=by
 obtain⟨L,hL,hm⟩:=h.mm
 have h1:Models w H (O++(L++F)):=hm.perm (List.perm_append_comm_assoc _ _ _)
 obtain⟨h2,hle⟩:=hg w _ h1
 exact⟨⟨h.ok,h.df,h.sz,h.tm,L,hL,h2.perm (List.perm_append_comm_assoc _ _ _)⟩,hle⟩
end Go.Sx
