/- The library's contracts at this program, laid: printed by the kit's tool. -/
import Derived.Shelf.Strings.Trim
import Derived.Shelf.Small.Utf8
import Derived.Shelf.Small.Bits
import Derived.Shelf.Small.Strs
import Derived.Shelf.Strconv.Itoa0
import Derived.Shelf.Strings.Search1
import Derived.Shelf.Strings.Runes
import Derived.Shelf.Strings.AsciiSet
import Derived.Shelf.Unicode.DecodeSlow
import Derived.Ground.SlgcProg
import Derived.Shelf.SlicesG.Cmp
import Derived.Ground.SlgmProg
import Derived.Shelf.SortM.Plain
import Derived.Shelf.SortM.SortNone
import Derived.Test.YteakpllehopodaaGreatDoorProg
import Derived.Test.YteakpllehopodaaGreatDoorD4
import Derived.Test.YteakpllehopodaaGreatDoorBTW
import Derived.Lib.ConvBytes
import Derived.Shelf.SlGeneric
import Derived.Test.YteakpllehopodaaGreatDoorFw2
import Derived.RangeFuncNested
import Derived.RangeFuncBound
import Derived.Shelf.Abstract
import Derived.Shelf.RegionOpen
import Derived.OwnWalkIn
import Derived.TacticsInMore
import Derived.LoopNIn
import Derived.LoopIn
import Derived.Shelf.GgSortFunc.InsertionK
import Derived.Test.YteakpllehopodaaGreatDoorBT6
import Derived.Test.YteakpllehopodaaGreatDoorFw2
import Derived.Test.YteakpllehopodaaGreatDoorM
import Derived.Test.YteakpllehopodaaGreatDoorFw2
namespace Go.Proofs
open Go.Shelf
def Tryz.lays160_ren:Go.Shelf.Ren:=⟨fun | 160=>295 | 232=>318 | 231=>317 | 227=>319 | 234=>321 | 233=>320 | 236=>323 | 235=>322 | 228=>336 | 271=>339 | 151=>338 | 197=>337 | 120=>346 | 152=>345 | 260=>344 | 137=>348 | 119=>349 | 224=>350 | 225=>351 | 217=>352 | 266=>353 | n=>n,fun | 9=>9 | 4=>4 | 3=>3 | 5=>5 | 117=>404 | 116=>403 | 0=>0 | 124=>407 | 21=>21 | 105=>420 | 46=>292 | 119=>428 | 139=>431 | 138=>430 | n=>n,fun | 3=>2 | 4=>3 | n=>n⟩
theorem Tryz.lays160:Go.Proofs.Lays.n160 Tryz.prog Tryz.lays160_ren:={
 mixed:=by kernel_rfl
 f119:=Tryz.func349.trans (congrArg some (by kernel_rfl))
 f120:=Tryz.func346.trans (congrArg some (by kernel_rfl))
 f137:=Tryz.func348.trans (congrArg some (by kernel_rfl))
 f151:=Tryz.func338.trans (congrArg some (by kernel_rfl))
 f152:=Tryz.func345.trans (congrArg some (by kernel_rfl))
 f160:=Tryz.func295.trans (congrArg some (by kernel_rfl))
 f197:=Tryz.func337.trans (congrArg some (by kernel_rfl))
 f217:=Tryz.func352.trans (congrArg some (by kernel_rfl))
 f224:=Tryz.func350.trans (congrArg some (by kernel_rfl))
 f225:=Tryz.func351.trans (congrArg some (by kernel_rfl))
 f227:=Tryz.func319.trans (congrArg some (by kernel_rfl))
 f228:=Tryz.func336.trans (congrArg some (by kernel_rfl))
 f231:=Tryz.func317.trans (congrArg some (by kernel_rfl))
 f232:=Tryz.func318.trans (congrArg some (by kernel_rfl))
 f233:=Tryz.func320.trans (congrArg some (by kernel_rfl))
 f234:=Tryz.func321.trans (congrArg some (by kernel_rfl))
 f235:=Tryz.func322.trans (congrArg some (by kernel_rfl))
 f236:=Tryz.func323.trans (congrArg some (by kernel_rfl))
 f260:=Tryz.func344.trans (congrArg some (by kernel_rfl))
 f266:=Tryz.func353.trans (congrArg some (by kernel_rfl))
 f271:=Tryz.func339.trans (congrArg some (by kernel_rfl))
 t0:=Tryz.underlying0
 a0:=Tryz.isAgg0
 z0:=Tryz.sizeOf0
 v0:=Tryz.zeroValue0
 t3:=Tryz.underlying3
 a3:=Tryz.isAgg3
 z3:=Tryz.sizeOf3
 v3:=Tryz.zeroValue3
 t4:=Tryz.underlying4
 a4:=Tryz.isAgg4
 z4:=Tryz.sizeOf4
 v4:=Tryz.zeroValue4
 t5:=Tryz.underlying5
 a5:=Tryz.isAgg5
 z5:=Tryz.sizeOf5
 v5:=Tryz.zeroValue5
 t9:=Tryz.underlying9
 a9:=Tryz.isAgg9
 z9:=Tryz.sizeOf9
 v9:=Tryz.zeroValue9
 t21:=Tryz.underlying21
 a21:=Tryz.isAgg21
 z21:=Tryz.sizeOf21
 v21:=Tryz.zeroValue21
 t46:=Tryz.underlying292
 a46:=Tryz.isAgg292
 z46:=Tryz.sizeOf292
 v46:=Tryz.zeroValue292
 t105:=Tryz.underlying420
 a105:=Tryz.isAgg420
 z105:=Tryz.sizeOf420
 v105:=Tryz.zeroValue420
 t116:=Tryz.underlying403
 a116:=Tryz.isAgg403
 z116:=Tryz.sizeOf403
 t117:=Tryz.underlying404
 a117:=Tryz.isAgg404
 z117:=Tryz.sizeOf404
 v117:=Tryz.zeroValue404
 t119:=Tryz.underlying428
 a119:=Tryz.isAgg428
 z119:=Tryz.sizeOf428
 t124:=Tryz.underlying407
 a124:=Tryz.isAgg407
 z124:=Tryz.sizeOf407
 v124:=Tryz.zeroValue407
 t138:=Tryz.underlying430
 a138:=Tryz.isAgg430
 z138:=Tryz.sizeOf430
 v138:=Tryz.zeroValue430
 t139:=Tryz.underlying431
 a139:=Tryz.isAgg431
 z139:=Tryz.sizeOf431
 v139:=Tryz.zeroValue431
 g3:=by kernel_rfl
 g4:=by kernel_rfl }
open Go.RowKit in
theorem Tryz.strings_Trim_one (s:ByteArray) (c:UInt8) (hc:c.toNat < 128) (w:World) (hs:s.size≤9223372036854775807) :
  Calls Tryz.prog 295 #[.string s,.string ⟨#[c]⟩] w fun e w'=>e=.returned (.string ⟨(Lib.trimB s.data.toList c).toArray⟩)∧(w'=w∨w'=w.drew):=Any.strings_Trim_one Tryz.lays160 s c hc w hs
end Go.Proofs
namespace Go.Proofs.YteakpllehopodaaGreatDoor
open Go Go.Sx
set_option maxRecDepth 100000
set_option maxHeartbeats 1000000
theorem Uj {w w':World} {H:Heap} {O:Go.Sx.Own} (hm:Models w H O) (ho:∀ j,j < w.heap.size→w'.heap[j]?=w.heap[j]?) (he:gR w'=gR w):Models w' H O:=by
 have hlt:∀ b (o:Obj),w.heap[b]?=some o→b < w.heap.size:=fun b o hb=>(Array.getElem?_eq_some_iff.1 hb).1
 exact⟨fun b o hb=>(ho b (hlt b o (hm.pers b o hb))).trans (hm.pers b o hb),fun p hp=>⟨(ho _ (hlt _ _ (hm.own p hp).1)).trans (hm.own p hp).1,(hm.own p hp).2⟩,hm.nodup,he.trans hm.env⟩
theorem Vy {w w':World} {H:Heap} {O:Go.Sx.Own} (hm:Models w H O) (ho:∀ j,j < w.heap.size→w'.heap[j]?=w.heap[j]?) (he:gR w'=gR w) {r:Nat} {o:Obj} (hr:w.heap.size≤r) (hn:w'.heap[r]?=some o):Models w' H ((r,o)::O):=by
 have hlt:∀ b (o:Obj),w.heap[b]?=some o→b < w.heap.size:=fun b o hb=>(Array.getElem?_eq_some_iff.1 hb).1
 have h:=Uj hm ho he
 refine⟨h.pers,fun p hp=>?_,?_,h.env⟩
 ·rcases List.mem_cons.1 hp with rfl | hp
  ·refine⟨hn,?_⟩
   cases hH:H r with
   | none=>rfl
   | some x=>have:=hlt _ _ (hm.pers _ _ hH);omega
  ·exact h.own p hp
 ·rw[List.map_cons,List.nodup_cons]
  refine⟨fun hx=>?_,h.nodup⟩
  obtain⟨p,hp,e⟩:=List.mem_map.1 hx
  have:=hlt _ _ (hm.own p hp).1
  have:p.1=r:=e
  omega
theorem FC {P:Program} {f:FuncId} {args:List Value} {v:Value} {H:Heap} {O:Go.Sx.Own} (h:∀ w F,Models w H (O++F)→Calls P f args.toArray w fun e w'=>e=.returned v∧(∀ j,j < w.heap.size→w'.heap[j]?=w.heap[j]?)∧gR w'=gR w):RetO P f args H O v:=by
 intro w F hm
 refine (h w F hm).mono ?_
 rintro e w' ⟨rfl,h1,h2⟩
 exact⟨v,H,O,rfl,⟨rfl,rfl⟩,Heap.le_refl H,Uj hm h1 h2⟩
theorem OY {H:Heap} {r:Nat} {c:Array Value} {T:TypeId} {mk:Nat × Nat} (h:H r=some (.cells c T mk)) {i:Nat} {v:Value} (hi:c[i]?=some v):H.read (.pointer (some ⟨r,i,none⟩)) 1=some [v]:=by
 simp[Heap.read,Heap.cell?,bK,h,hi]
def qT (l:List UInt8):List (List Value):=l.map fun b=>[Value.int .u8 (b.toNat:Int)]
theorem lp (l:List UInt8):(qT l).length=l.length:=by simp[qT]
theorem wA {l:List UInt8} {i:Nat} (h:i < l.length):(qT l)[i]?=some [Value.int .u8 (l[i].toNat:Int)]:=by simp[qT,h]
theorem Wh:PP.underlying 9=some .string:=by kernel_rfl
theorem Vj:PP.underlying 379=some (.slice 5):=by kernel_rfl
theorem Wi:PP.underlying 5=some (.int .u8):=by kernel_rfl
theorem GK {l:List UInt8} {H:Heap} {O:Go.Sx.Own} {K:List Value→List (List Value)→Heap→Go.Sx.Own→Prop} (hl:l.length < 2 ^ 62)
  (hk:∀ v H',Heap.le H H'→Sl H' 1 v (qT l)→K [v] [] H' O):dc (fun H1 O1 R=>ba PP ((PrimOp.convert 9 379).sem [Str l]) H1 O1 R) false [] [] .one K H O:=by
 intro _
 refine⟨H,[],O,fun v H' O'=>Sl H' 1 v (qT l)∧O'=[],Ghost.refl _ _,fun w F hm=>?_,?_⟩
 ·have hr:=Go.Lib.run_convert_string_bytes (P:=PP) w 9 379 5 ⟨l.toArray⟩ Wh Vj Wi
  have hn:=Go.Lib.bytesWorld_at_new w 5 ⟨l.toArray⟩
  have hm':Models w H F:=by simpa using hm
  have hm2:=Vy hm' (w':=Go.Lib.bytesWorld w 5 ⟨l.toArray⟩) (fun j hj=>Go.Lib.bytesWorld_at_old w _ _ j hj) rfl (Nat.le_refl _) hn
  have hH:H w.heap.size=none:=(hm2.own _ List.mem_cons_self).2
  have hr2:((PrimOp.convert 9 379).sem [Str l]).run PP w=.ok (.value (.slice (some ⟨w.heap.size,0,none⟩) (⟨l.toArray⟩:ByteArray).size (grownCap w (⟨l.toArray⟩:ByteArray).size 0 5))) (Go.Lib.bytesWorld w 5 ⟨l.toArray⟩):=by
   simp only[PrimOp.sem,Sem.run_bind,hr,Result.andThen_ok];rfl
  refine⟨_,_,H.ins w.heap.size _,[],hr2,⟨?_,rfl⟩,Heap.le_ins H _ _,by simpa using hm2.freeze⟩
  have hsz:(⟨l.toArray⟩:ByteArray).size=l.length:=by simp[ByteArray.size]
  have hcap:l.length≤grownCap w (⟨l.toArray⟩:ByteArray).size 0 5∧grownCap w (⟨l.toArray⟩:ByteArray).size 0 5 < 2 ^ 63:=by
   rw[hsz]
   have h1:=grownCap_ge w l.length 0 5
   have h2:=grownCap_le_maxLen w l.length 0 5 (by simp only[maxLen];omega)
   simp only[maxLen] at h2
   exact⟨h1,by omega⟩
  refine⟨_,_,by rw[hsz,lp],by rw[lp];exact hcap.1,hcap.2,fun _=>⟨_,rfl,fun i row hrow=>?_⟩⟩
  have hi:i < l.length:=by have:=(List.getElem?_eq_some_iff.1 hrow).1;rwa [lp] at this
  rw[wA hi,Option.some.injEq] at hrow
  subst hrow
  refine⟨?_,rfl,rfl,trivial⟩
  rw[bK,Nat.zero_add,Nat.mul_one]
  refine OY (c:=Go.Lib.bytesCells w 5 ⟨l.toArray⟩) (by simp only[Heap.ins,hH,if_true];rfl) ?_
  simp[Go.Lib.bytesCells,Array.getElem?_append,hi]
 ·rintro v H' O' ⟨hs,rfl⟩ hle
  exact⟨[v],[],[],rfl,⟨hs.one,trivial⟩,trivial,rfl,hk v H' hle hs⟩
theorem Oj (l:List UInt8):(⟨l.toArray⟩:ByteArray).size=l.length:=by simp[ByteArray.size]
theorem Tt {l:List UInt8} (hl:l.length < 2 ^ 62) (H:Heap) (O:Go.Sx.Own):RetO PP 295 [Str l,.string ⟨#[32]⟩] H O (Str (Go.Lib.trimB l 32)):=by
 refine FC fun w F hm=>?_
 have h:=Tryz.strings_Trim_one ⟨l.toArray⟩ 32 (by decide) w (by rw[Oj];omega)
 refine h.mono ?_
 rintro e w' ⟨rfl,rfl | rfl⟩
 ·exact⟨rfl,fun _ _=>rfl,rfl⟩
 ·exact⟨rfl,fun _ _=>rfl,rfl⟩
def wi (n a b:Int):Bool:=decide (n ≥ a) && decide (n≤b)
theorem ky (n a b:Int) (H:Heap) (O:Go.Sx.Own):RetO PP uJ [iV n,iV a,iV b] H O (.bool (wi n a b)):=by
 refine yO (vs:=[iV n,iV a,iV b]) (by kernel_rfl) ⟨rfl,rfl,rfl,trivial⟩ ?_
 simp only[uw]
 refine ab _ (eC _ _) ?_
 refine ai (ai ?_)
 refine ab _ (rh _ _) ?_
 refine ai ?_
 refine ab _ (bu _ _) ?_
 exact af ⟨rfl,rfl⟩
theorem Ul (a b:Int):al (.bin .lss .int) [.int .u8 a,.int .u8 b]=some (.bool (decide (a < b))):=by simp[al,bA,bq]
theorem Ur (a b:Int):al (.bin .gtr .int) [.int .u8 a,.int .u8 b]=some (.bool (decide (a > b))):=by simp[al,bA,bq]
def GG (b:UInt8):Bool:=wi b.toNat 32 126
def F3 (l:List UInt8):Bool:=wi l.length 1 32 && (Go.Lib.trimB l 32 == l && l.all GG)
theorem S8 (l:List UInt8) (H:Heap) (O:Go.Sx.Own):RetO PP xy [Str l] H O (.bool (F3 l)):=by
 refine A9 (vs:=[Str l]) (by kernel_rfl) ⟨rfl,trivial⟩ ?_
 simp only[wU]
 refine ab _ (RB l) ?_
 refine am (ky l.length 1 32 _ _) rfl ⟨rfl,trivial⟩ fun H1 l1=>?_
 refine ab _ (aC _) (aj (fun hd=>?_) (fun hd=>?_))
 ·exact af ⟨by rw[F3,Pl hd];rfl,rfl⟩
 have hw:wi l.length 1 32=true:=Pm hd
 have hl:l.length≤32:=by
  have:=hw
  simp only[wi,Bool.and_eq_true,decide_eq_true_eq] at this
  omega
 refine am (Tt (by omega) _ _) rfl ⟨rfl,trivial⟩ fun H2 l2=>?_
 refine ab _ (RA _ _) (aj (fun hd=>?_) (fun hd=>?_))
 ·exact af ⟨by rw[F3,Pl hd,hw];rfl,rfl⟩
 have ht:(Go.Lib.trimB l 32 == l)=true:=Pm hd
 have hv:F3 l=l.all GG:=by rw[F3,hw,ht];rfl
 refine GK (by omega) fun v H3 l3 hs=>?_
 have hlen:=hs.len
 rw[lp] at hlen
 refine ab _ hlen ?_
 refine aY l.length (fun i H' O'=>O'=O∧Heap.le H3 H'∧l.all GG=(l.drop i).all GG) ⟨rfl,Heap.le_refl _,by simp⟩ ?_
 rintro i H4 O4 hi - ⟨rfl,l4,hor⟩
 refine ab _ (aG _ _) (aj (fun hb=>?_) (fun hb=>?_))
 ·have hlt:i < l.length:=by have:=of_decide_eq_true hb;omega
  obtain⟨a,k1,k2,_,k3,k4⟩:=((hs.le l4).rsl O4).idx .i64 i _ (wA hlt)
  refine ab _ k1 (aA k2 k3 k4 ?_)
  refine ab _ (Ul _ _) ?_
  refine ai ?_
  refine ab _ (Ur _ _) ?_
  refine ai ?_
  refine ab _ (aO _ _) (aj (fun hd=>?_) (fun hd=>?_))
  ·have hc:GG l[i]=false:=by
    simp only[Bool.or_eq_true,decide_eq_true_eq] at hd
    simp only[GG,wi,Bool.and_eq_false_iff,decide_eq_false_iff_not]
    omega
   exact af ⟨by rw[hv,hor,List.drop_eq_getElem_cons hlt,List.all_cons,hc];rfl,rfl⟩
  ·have hc:GG l[i]=true:=by
    simp only[Bool.or_eq_false_iff,decide_eq_false_iff_not] at hd
    simp only[GG,wi,Bool.and_eq_true,decide_eq_true_eq]
    omega
   refine ab _ (aD (by omega)) (aN (by simp[Eqs,E]) hlt ⟨rfl,l4,?_⟩)
   rw[hor,List.drop_eq_getElem_cons hlt,List.all_cons,hc,Bool.true_and]
 ·have hge:l.length≤i:=by have:=of_decide_eq_false hb;omega
  exact af ⟨by rw[hv,hor,List.drop_of_length_le hge];rfl,rfl⟩
theorem EI {H:Heap} {O:Go.Sx.Own} {v fv:Value} {l:List Eff} {p:Eff→Bool} (h:Sl H 5 v (fX l)) {f:FuncId} {caps:Array Value} (hf:fv=.func (.func f) #[] caps) (hok:mc PP f)
  (hp:∀ H',Heap.le H H'→∀ x ∈ l,RetO PP f ([.agg x.row.toArray]++caps.toList) H' O (.bool (p x))):RetO PP cC [v,fv] H O (iV (mJ p l 0)):=by
 subst hf
 refine eX (vs:=[v,.func (.func f) #[] caps]) (by kernel_rfl) ⟨h.one,rfl,trivial⟩ ?_
 simp only[cz]
 obtain⟨e1,e2⟩:=tY h
 refine ab _ e1 ?_
 refine aY l.length (fun i H' O'=>O'=O∧Heap.le H H'∧mJ p l 0=mJ p (l.drop i) i) ⟨rfl,Heap.le_refl H,by simp⟩ ?_
 rintro i H' O' hi - ⟨rfl,hle,hor⟩
 refine ab _ (aG _ _) (aj (fun hb=>?_) (fun hb=>?_))
 ·have hlt:i < l.length:=by simpa using hb
  obtain⟨a,h1,h2,_,h3,h4⟩:=((h.le hle).rsl O').idx .i64 i _ (vE hlt)
  refine ab _ h1 (aA h2 h3 h4 (dU rfl hok (hp H' hle l[i] (List.getElem_mem hlt)) rfl ⟨rfl,trivial⟩ fun H2 hle2=>aj (fun hb=>?_) (fun hb=>?_)))
  ·refine af ⟨?_,rfl⟩
   rw[hor,List.drop_eq_getElem_cons hlt,mJ,if_pos hb];rfl
  ·refine ab _ (aD (by omega)) (aN (by simp[Eqs,E]) hlt ⟨rfl,Heap.le_trans hle hle2,?_⟩)
   rw[hor,List.drop_eq_getElem_cons hlt,mJ,if_neg (by rw[hb];simp)];rfl
 ·have hge:l.length≤i:=by simpa using hb
  refine af ⟨?_,rfl⟩
  rw[hor,List.drop_of_length_le hge];rfl
theorem ju {H:Heap} {O:Go.Sx.Own} {v fv:Value} {l:List Eff} {p:Eff→Bool} (h:Sl H 5 v (fX l)) {f:FuncId} {caps:Array Value} (hf:fv=.func (.func f) #[] caps) (hok:mc PP f)
  (hp:∀ H',Heap.le H H'→∀ x ∈ l,RetO PP f ([.agg x.row.toArray]++caps.toList) H' O (.bool (p x))):RetO PP bW [v,fv] H O (.bool (l.any p)):=by
 have hone:fv.oneCell'=true:=by subst hf;rfl
 refine ez (vs:=[v,fv]) (by kernel_rfl) ⟨h.one,hone,trivial⟩ ?_
 simp only[bU]
 refine am (EI h hf hok hp) rfl ⟨rfl,trivial⟩ fun H1 _=>ab _ (eC _ _) (af ⟨?_,rfl⟩)
 rw[← vw p l 0 (by omega)]
theorem U1 (e:Eff) (H:Heap):RetO PP rY ([.agg e.row.toArray]++[]) H [] (.bool (!(Qd e))):=by
 refine xQ (vs:=e.row) (by kernel_rfl) (sQ e) ?_
 simp only[rF]
 refine ah fun r0=>?_
 refine ae ?_
 refine am (Iw e _) rfl ⟨rfl,trivial⟩ fun H1 l1=>?_
 exact ab _ (aC _) (af ⟨rfl,rfl⟩)
def U6 (l:List Eff):Bool:=decide (l.length≤4) && !(l.any fun e=>!(Qd e))
theorem U2 {H:Heap} {v:Value} {l:List Eff} (h:Sl H 5 v (fX l)):RetO PP xt [v] H [] (.bool (U6 l)):=by
 refine A5 (vs:=[v]) (by kernel_rfl) ⟨h.one,trivial⟩ ?_
 simp only[wQ]
 obtain⟨e1,e2⟩:=tY h
 refine ab _ e1 ?_
 refine ab _ (rh _ _) (aj (fun hd=>?_) (fun hd=>?_))
 ·refine am (ju h rfl (dE fc (by decide)) fun H' _ x _=>U1 x H') rfl ⟨rfl,trivial⟩ fun H1 l1=>?_
  refine ab _ (aC _) (af ⟨?_,rfl⟩)
  have:decide (l.length≤4)=true:=by have:=of_decide_eq_true hd;exact decide_eq_true (by omega)
  rw[U6,this];rfl
 ·refine af ⟨?_,rfl⟩
  have:decide (l.length≤4)=false:=by have:=of_decide_eq_false hd;exact decide_eq_false (by omega)
  rw[U6,this];rfl
def Un (e:Eff):Bool:=e.target == 0 && (e.code == 8 || e.code == 9)
theorem Jw (e:Eff) (H:Heap):RetO PP uK ([.agg e.row.toArray]++[]) H [] (.bool (Un e)):=by
 refine yP (vs:=e.row) (by kernel_rfl) (sQ e) ?_
 simp only[ux]
 refine ah fun r0=>?_
 refine ae ?_
 refine ab _ (aw _ _) ?_
 refine ae (ai (ai ?_))
 refine ab _ (aw _ _) ?_
 refine ai (ae (ai (ai (ai (ai ?_)))))
 refine ab _ (aw _ _) ?_
 refine ai (ai (ai ?_))
 refine ab _ (aO _ _) ?_
 refine ai ?_
 refine ab _ (bu _ _) ?_
 exact af ⟨rfl,rfl⟩
theorem KR {H:Heap} {v:Value} {l:List Eff} (h:Sl H 5 v (fX l)):Triple PP jy [v] H [] fun x _ O'=>(∃ n,x=iV n)∧O'=[]:=by
 refine kR (vs:=[v]) (by kernel_rfl) ⟨h.one,trivial⟩ ?_
 simp only[jv]
 obtain⟨e1,e2⟩:=tY h
 refine ab _ e1 ?_
 refine zT l.length (fun _ x H' O'=>(∃ n,x=iV n)∧O'=[]∧Heap.le H H') ⟨⟨0,rfl⟩,rfl,Heap.le_refl _⟩ ?_
 rintro i x H1 O1 hi - ⟨⟨n,rfl⟩,rfl,l1⟩
 refine ab _ (aG _ _) (aj (fun hb=>?_) (fun hb=>?_))
 ·have hlt:i < l.length:=by simpa using hb
  obtain⟨a,h1,h2,_,h3,h4⟩:=((h.le l1).rsl []).idx .i64 i _ (vE hlt)
  refine ab _ h1 (aA h2 h3 h4 (ah fun r0=>?_))
  refine ae (ae ?_)
  refine ab _ (fx _ _) (aj (fun hb=>?_) (fun hb=>?_))
  ·refine ab _ (show al (.bin .add .int) [iV n,iV 1]=some (iV (IntKind.i64.wrap (n + 1))) from rfl) ?_
   exact ab _ (aD (by omega)) (pT (by simp[Eqs,E]) hlt ⟨⟨_,rfl⟩,rfl,l1⟩)
  ·exact ab _ (aD (by omega)) (pT (by simp[Eqs,E]) hlt ⟨⟨_,rfl⟩,rfl,l1⟩)
 ·exact af ⟨⟨n,rfl⟩,rfl⟩
theorem zY {P:Program} {f:FuncId} {args:List Value} {H:Heap} {p:Value→Prop} {K:List Value→List (List Value)→Heap→Go.Sx.Own→Prop}
  (h:Triple P f args H [] fun x _ O'=>p x∧O'=[]) (h1:∀ x,p x→x.oneCell'=true) (hk:∀ x H',p x→Heap.le H H'→K [x] [] H' []) :
  dc (fun H1 O1 R=>Triple P f args H1 O1 R) false [] [] .one K H []:=by
 refine az h ?_
 rintro r H1 _ ⟨hr,rfl⟩ l1
 exact⟨[r],rfl,⟨h1 r hr,trivial⟩,hk r H1 hr l1⟩
theorem S4 {H:Heap} {v:Value} {l:List Eff} (h:Sl H 5 v (fX l)):Triple PP xx [v] H [] fun x _ O'=>(∃ b,x=.bool b)∧O'=[]:=by
 refine A8 (vs:=[v]) (by kernel_rfl) ⟨h.one,trivial⟩ ?_
 simp only[wT]
 refine zY (KR h) (by rintro _ ⟨n,rfl⟩;rfl) ?_
 rintro _ H1 ⟨n,rfl⟩ l1
 exact ab _ (aw _ _) (af ⟨⟨_,rfl⟩,rfl⟩)
theorem SR (w:Int) (s:Value) (hs:s.oneCell'=true) (r:Nat) (H:Heap) (b:BV) (hb:b.r=r) {n:Int} {s':Value} (hv:b.vs=[iV n,s']):RetO PP dA ([.agg #[iV w,s]]++[.pointer (some ⟨r,0,none⟩)]) H [b.obj] (.bool (w == n)):=by
 obtain⟨r',T,vs⟩:=b
 simp only at hb hv
 subst hb;subst hv
 refine sC (vs:=[iV w,s,.pointer (some ⟨r',0,none⟩)]) (by kernel_rfl) ⟨rfl,hs,rfl,trivial⟩ ?_
 simp only[mY]
 refine ah fun r0=>?_
 refine ae (ak rfl ?_)
 refine aA (vs:=[iV n]) (.inr ⟨⟨r',0,none⟩,#[iV n,s'],T,rfl,rfl,List.mem_singleton.2 rfl,rfl,by simp⟩) rfl ⟨rfl,trivial⟩ ?_
 exact ab _ (aw _ _) (af ⟨rfl,rfl⟩)
theorem U0 {H:Heap} {v:Value} {l:List (Int × List Eff)} {rows:List (List Value)} (h:Sl H 2 v rows) (hlen:rows.length≤l.length) (hr:∀ (i:Nat) (r:List Value) (t:Int × List Eff),rows[i]?=some r→l[i]?=some t→TrR H r t) (bx:BV) {n:Int} {s':Value} (hv:bx.vs=[iV n,s']) :
  Triple PP bJ [v,.func (.func dA) #[] #[.pointer (some ⟨bx.r,0,none⟩)]] H [bx.obj] fun x _ O'=>(∃ b,x=.bool b)∧O'=[bx.obj]:=by
 refine d6 (vs:=[v,.func (.func dA) #[] #[.pointer (some ⟨bx.r,0,none⟩)]]) (by kernel_rfl) ⟨h.one,rfl,trivial⟩ ?_
 simp only[bI]
 have hI:Triple PP bZ [v,.func (.func dA) #[] #[.pointer (some ⟨bx.r,0,none⟩)]] H [bx.obj] fun x _ O'=>(∃ k,x=iV k)∧O'=[bx.obj]:=by
  refine eG (vs:=[v,.func (.func dA) #[] #[.pointer (some ⟨bx.r,0,none⟩)]]) (by kernel_rfl) ⟨h.one,rfl,trivial⟩ ?_
  simp only[bX]
  refine ab _ h.len ?_
  refine aY rows.length (fun i H' O'=>O'=[bx.obj]∧Heap.le H H') ⟨rfl,Heap.le_refl H⟩ ?_
  rintro i H' O' hi - ⟨rfl,hle⟩
  refine ab _ (aG _ _) (aj (fun hb=>?_) (fun hb=>?_))
  ·have hlt:i < rows.length:=by simpa using hb
   obtain⟨a,h1,h2,_,h3,h4⟩:=((h.le hle).rsl [bx.obj]).idx .i64 i rows[i] (by simp[hlt])
   obtain⟨s,e,hs⟩:=hr i rows[i] (l[i]'(by omega)) (by simp[hlt]) (by simp)
   rw[e] at h2 h3 h4
   refine ab _ h1 (aA h2 h3 h4 (dU rfl (dE fc (by decide)) (SR (l[i]'(by omega)).1 s hs.one bx.r H' bx rfl hv) rfl ⟨rfl,trivial⟩ fun H2 hle2=>aj (fun hb=>?_) (fun hb=>?_)))
   ·exact af ⟨⟨_,rfl⟩,rfl⟩
   ·exact ab _ (aD (by have:=h.lenB;omega)) (aN (by simp[Eqs,E]) hlt ⟨rfl,Heap.le_trans hle hle2⟩)
  ·exact af ⟨⟨_,rfl⟩,rfl⟩
 refine ik (O1:=[bx.obj]) (O2:=[]) (by simp) hI ?_
 rintro _ H1 _ ⟨⟨k,rfl⟩,rfl⟩ l1
 refine⟨[iV k],rfl,⟨rfl,trivial⟩,?_⟩
 exact ab _ (eC _ _) (af ⟨⟨_,rfl⟩,by simp⟩)
theorem JE {l:List Value} {i:Nat} {v:Value} (h:l[i]?=some v):al .aidx (iV i::l)=some v:=by
 have hlt:=(List.getElem?_eq_some_iff.1 h).1
 simp only[al,nO]
 rw[if_pos ⟨by omega,by omega⟩]
 simpa using h
theorem BE (a b c d m:Int) (H:Heap) (O:Go.Sx.Own):RetO PP nY [.agg #[iV a,iV b,iV c,iV d],iV m] H O (.bool ([a,b,c,d].all fun n=>ay n 0 m)):=by
 refine o5 (vs:=[iV a,iV b,iV c,iV d,iV m]) (by kernel_rfl) ⟨rfl,rfl,rfl,rfl,rfl,trivial⟩ ?_
 simp only[nS]
 refine fun r0=>ae (aY 4 (fun i H' O'=>O'=O∧([a,b,c,d].all fun n=>ay n 0 m)=(([a,b,c,d].drop i).all fun n=>ay n 0 m)) ⟨rfl,rfl⟩ ?_)
 rintro i H' O' hi - ⟨rfl,hor⟩
 refine ab _ (aG _ _) (aj (fun hb=>?_) (fun hb=>?_))
 ·have hlt:i < 4:=by have:=of_decide_eq_true hb;omega
  have hlt':i < [a,b,c,d].length:=hlt
  have hv:[iV a,iV b,iV c,iV d][i]?=some (iV [a,b,c,d][i]):=by
   have:[iV a,iV b,iV c,iV d]=[a,b,c,d].map iV:=rfl
   rw[this,List.getElem?_map,List.getElem?_eq_getElem hlt'];rfl
  refine ab _ (JE hv) (ab _ (aG _ _) (ai (ai (ab _ (bG _ _) (ai (ab _ (aO _ _) (aj (fun hb=>af ⟨?_,rfl⟩) (fun hb=>ab _ (aD (by omega)) (aN (by simp[Eqs,E]) hlt ⟨rfl,?_⟩)))))))))
  ·rw[hor,List.drop_eq_getElem_cons hlt',List.all_cons]
   have:ay [a,b,c,d][i] 0 m=false:=by simp[ay] at hb ⊢;omega
   rw[this];rfl
  ·rw[hor,List.drop_eq_getElem_cons hlt',List.all_cons]
   have:ay [a,b,c,d][i] 0 m=true:=by simp[ay] at hb ⊢;omega
   rw[this];rfl
 ·have:i=4:=by have:=of_decide_eq_false hb;omega
  subst this
  exact af ⟨by rw[hor];rfl,rfl⟩
def Ig (a b c d e:Int):Bool:=(([a,b,c,d].all fun n=>ay n 0 20) && decide (e ≥ 0)) && decide (e≤20)
theorem sW (a b c d e:Int) (H:Heap) (O:Go.Sx.Own):RetO PP oD [.agg #[iV a,iV b,iV c,iV d,iV e]] H O (.bool (Ig a b c d e)):=by
 refine tA (vs:=[iV a,iV b,iV c,iV d,iV e]) (by kernel_rfl) ⟨rfl,rfl,rfl,rfl,rfl,trivial⟩ ?_
 simp only[ox]
 refine ah fun r0=>?_
 refine ae ?_
 refine am (BE a b c d 20 _ _) rfl ⟨rfl,trivial⟩ fun H1 l1=>?_
 refine ae (ai (ai ?_))
 refine ab _ (eC _ _) ?_
 refine ai ?_
 refine ab _ (bu _ _) ?_
 refine ae (ai (ai ?_))
 refine ab _ (rh _ _) ?_
 refine ai ?_
 refine ab _ (bu _ _) ?_
 exact af ⟨rfl,rfl⟩
theorem VH (a b c d:Int):∃ s,(∀ H O,RetO PP Dk [.agg #[iV a,iV b,iV c,iV d]] H O (iV s))∧(a=0→b=0→c=0→d=0→s=0):=by
 let st:Nat→Int:=fun i=>(([a,b,c,d].take i).foldl (fun s x=>IntKind.i64.wrap (s + x)) 0)
 refine⟨st 4,fun H O=>?_,?_⟩
 ·refine Ft (vs:=[iV a,iV b,iV c,iV d]) (by kernel_rfl) ⟨rfl,rfl,rfl,rfl,trivial⟩ ?_
  simp only[Db]
  refine ah fun r0=>?_
  refine ae ?_
  refine zT 4 (fun i x H' O'=>x=iV (st i)∧O'=O) ⟨rfl,rfl⟩ ?_
  rintro i _ H1 _ hi - ⟨rfl,rfl⟩
  refine ab _ (aG _ _) (aj (fun hb=>?_) (fun hb=>?_))
  ·have hlt:i < 4:=by have:=of_decide_eq_true hb;omega
   have hv:[iV a,iV b,iV c,iV d][i]?=some (iV ([a,b,c,d][i]'hlt)):=by
    have:[iV a,iV b,iV c,iV d]=[a,b,c,d].map iV:=rfl
    rw[this,List.getElem?_map,List.getElem?_eq_getElem hlt];rfl
   refine ab _ (JE hv) ?_
   refine ab _ (show al (.bin .add .int) [iV (st i),iV ([a,b,c,d][i]'hlt)]=some (iV (IntKind.i64.wrap (st i + ([a,b,c,d][i]'hlt)))) from rfl) ?_
   refine ab _ (aD (by omega)) (pT (by simp[Eqs,E]) hlt ⟨?_,rfl⟩)
   show _=iV (st (i + 1))
   simp only[st]
   rw[List.take_add_one,List.getElem?_eq_getElem (show i < [a,b,c,d].length from hlt),Option.toList_some,List.foldl_append];rfl
  ·have:i=4:=by have:=of_decide_eq_false hb;omega
   subst this
   exact af ⟨rfl,rfl⟩
 ·rintro rfl rfl rfl rfl
  decide
theorem Tq (a b c d e:Int):∃ s,(∀ H O,RetO PP xp [.agg #[iV a,iV b,iV c,iV d,iV e]] H O (iV s))∧(a=0→b=0→c=0→d=0→e=0→s=0):=by
 obtain⟨s,h1,h2⟩:=VH a b c d
 refine⟨if Ig a b c d e then IntKind.i64.wrap (s + e) else 0,fun H O=>?_,fun ha hb hc hd he=>?_⟩
 ·refine A3 (vs:=[iV a,iV b,iV c,iV d,iV e]) (by kernel_rfl) ⟨rfl,rfl,rfl,rfl,rfl,trivial⟩ ?_
  simp only[wO]
  refine ah fun r0=>?_
  refine ae ?_
  refine am (sW a b c d e _ _) rfl ⟨rfl,trivial⟩ fun H1 l1=>?_
  refine ab _ (aC _) (aj (fun hx=>?_) (fun hx=>?_))
  ·exact af ⟨by rw[show Ig a b c d e=false from Pl hx];rfl,rfl⟩
  ·refine ae (ae ?_)
   refine am (h1 _ _) rfl ⟨rfl,trivial⟩ fun H2 l2=>?_
   refine ab _ (show al (.bin .add .int) [iV s,iV e]=some (iV (IntKind.i64.wrap (s + e))) from rfl) (af ⟨?_,rfl⟩)
   rw[if_pos (show Ig a b c d e=true from Pm hx)]
 ·subst ha;subst hb;subst hc;subst hd;subst he
  rw[h2 rfl rfl rfl rfl]
  decide
def Lx (c:CdF):Bool:=((c.pw == 0 && c.tn == 0) && c.ks == 0) && (c.trs.length:Int) == 0
theorem Ir {H:Heap} {es ts:Value} {c:CdF} (h1:es.oneCell'=true) (h2:TrsF H ts c.trs) (O:Go.Sx.Own):RetO PP xw [.agg (zV c es ts).toArray] H O (.bool (Lx c)):=by
 refine A7 (vs:=zV c es ts) (by kernel_rfl) (ED h1 h2.len.2.1) ?_
 simp only[wS]
 refine ah fun r0=>?_
 refine ae ?_
 refine ab _ (aw _ _) ?_
 refine ae (ai (ai ?_))
 refine ab _ (aw _ _) ?_
 refine ai ?_
 refine ab _ (bu _ _) ?_
 refine ae (ai (ai ?_))
 refine ab _ (aw _ _) ?_
 refine ai ?_
 refine ab _ (bu _ _) ?_
 refine ae (ai (ai ?_))
 refine ab _ h2.len.1 ?_
 refine ai ?_
 refine ab _ (aw _ _) ?_
 refine ai ?_
 refine ab _ (bu _ _) ?_
 exact af ⟨rfl,rfl⟩
end Go.Proofs.YteakpllehopodaaGreatDoor
namespace Go.Proofs
open Go.Shelf
def Tryz.sortA_ren:Go.Shelf.Ren:=⟨fun | 5=>143 | 8=>207 | 7=>206 | 19=>271 | 20=>272 | 10=>263 | 11=>264 | 12=>265 | 13=>266 | 14=>267 | 15=>268 | 16=>227 | 17=>269 | 18=>270 | 30=>304 | 31=>305 | 32=>306 | 33=>307 | 34=>308 | 35=>185 | 40=>333 | n=>n,fun | 23=>25 | 25=>3 | 3=>3 | 32=>292 | 22=>25 | 0=>0 | 44=>348 | 46=>335 | 4=>4 | 36=>342 | 35=>341 | 41=>250 | 5=>5 | 9=>9 | 53=>386 | 57=>390 | 63=>414 | 64=>293 | n=>n,fun | n=>n⟩
theorem Tryz.sortA:Go.Proofs.SlLaysM.n5 Tryz.prog Tryz.sortA_ren:={
 mixed:=by kernel_rfl
 f5:=⟨Tryz.f143.name,by decide,Tryz.func143.trans (congrArg some (by kernel_rfl))⟩
 f7:=⟨Tryz.f206.name,by decide,Tryz.func206.trans (congrArg some (by kernel_rfl))⟩
 f8:=Tryz.func207.trans (congrArg some (by kernel_rfl))
 f10:=⟨Tryz.f263.name,by decide,Tryz.func263.trans (congrArg some (by kernel_rfl))⟩
 f11:=⟨Tryz.f264.name,by decide,Tryz.func264.trans (congrArg some (by kernel_rfl))⟩
 f12:=⟨Tryz.f265.name,by decide,Tryz.func265.trans (congrArg some (by kernel_rfl))⟩
 f13:=⟨Tryz.f266.name,by decide,Tryz.func266.trans (congrArg some (by kernel_rfl))⟩
 f14:=⟨Tryz.f267.name,by decide,Tryz.func267.trans (congrArg some (by kernel_rfl))⟩
 f15:=⟨Tryz.f268.name,by decide,Tryz.func268.trans (congrArg some (by kernel_rfl))⟩
 f16:=⟨Tryz.f227.name,by decide,Tryz.func227.trans (congrArg some (by kernel_rfl))⟩
 f17:=⟨Tryz.f269.name,by decide,Tryz.func269.trans (congrArg some (by kernel_rfl))⟩
 f18:=⟨Tryz.f270.name,by decide,Tryz.func270.trans (congrArg some (by kernel_rfl))⟩
 f19:=Tryz.func271.trans (congrArg some (by kernel_rfl))
 f20:=Tryz.func272.trans (congrArg some (by kernel_rfl))
 f30:=⟨Tryz.f304.name,by decide,Tryz.func304.trans (congrArg some (by kernel_rfl))⟩
 f31:=Tryz.func305.trans (congrArg some (by kernel_rfl))
 f32:=Tryz.func306.trans (congrArg some (by kernel_rfl))
 f33:=⟨Tryz.f307.name,by decide,Tryz.func307.trans (congrArg some (by kernel_rfl))⟩
 f34:=⟨Tryz.f308.name,by decide,Tryz.func308.trans (congrArg some (by kernel_rfl))⟩
 f35:=⟨Tryz.f185.name,by decide,Tryz.func185.trans (congrArg some (by kernel_rfl))⟩
 f40:=⟨Tryz.f333.name,by decide,Tryz.func333.trans (congrArg some (by kernel_rfl))⟩
 t0:=Tryz.underlying0
 a0:=Tryz.isAgg0
 z0:=Tryz.sizeOf0
 v0:=Tryz.zeroValue0
 t3:=Tryz.underlying3
 a3:=Tryz.isAgg3
 z3:=Tryz.sizeOf3
 v3:=Tryz.zeroValue3
 t4:=Tryz.underlying4
 a4:=Tryz.isAgg4
 z4:=Tryz.sizeOf4
 v4:=Tryz.zeroValue4
 t5:=Tryz.underlying5
 a5:=Tryz.isAgg5
 z5:=Tryz.sizeOf5
 v5:=Tryz.zeroValue5
 t9:=Tryz.underlying9
 a9:=Tryz.isAgg9
 z9:=Tryz.sizeOf9
 v9:=Tryz.zeroValue9
 t22:=Tryz.underlying25
 a22:=Tryz.isAgg25
 z22:=Tryz.sizeOf25
 v22:=Tryz.zeroValue25
 t23:=Tryz.underlying25
 a23:=Tryz.isAgg25
 z23:=Tryz.sizeOf25
 v23:=Tryz.zeroValue25
 t25:=Tryz.underlying3
 a25:=Tryz.isAgg3
 z25:=Tryz.sizeOf3
 v25:=Tryz.zeroValue3
 t32:=Tryz.underlying292
 a32:=Tryz.isAgg292
 z32:=Tryz.sizeOf292
 v32:=Tryz.zeroValue292
 t35:=Tryz.underlying341
 a35:=Tryz.isAgg341
 z35:=Tryz.sizeOf341
 v35:=Tryz.zeroValue341
 t36:=Tryz.underlying342
 a36:=Tryz.isAgg342
 z36:=Tryz.sizeOf342
 v36:=Tryz.zeroValue342
 t41:=Tryz.underlying250
 a41:=Tryz.isAgg250
 z41:=Tryz.sizeOf250
 v41:=Tryz.zeroValue250
 t44:=Tryz.underlying348
 a44:=Tryz.isAgg348
 z44:=Tryz.sizeOf348
 v44:=Tryz.zeroValue348
 t46:=Tryz.underlying335
 a46:=Tryz.isAgg335
 z46:=Tryz.sizeOf335
 v46:=Tryz.zeroValue335
 t53:=Tryz.underlying386
 a53:=Tryz.isAgg386
 z53:=Tryz.sizeOf386
 v53:=Tryz.zeroValue386
 t57:=Tryz.underlying390
 a57:=Tryz.isAgg390
 z57:=Tryz.sizeOf390
 v57:=Tryz.zeroValue390
 t63:=Tryz.underlying414
 a63:=Tryz.isAgg414
 z63:=Tryz.sizeOf414
 v63:=Tryz.zeroValue414
 t64:=Tryz.underlying293
 a64:=Tryz.isAgg293
 z64:=Tryz.sizeOf293
 v64:=Tryz.zeroValue293 }
end Go.Proofs
namespace Go.Proofs.YteakpllehopodaaGreatDoor
open Go Go.Sx
open Go.Sx (Own)
set_option maxRecDepth 100000
set_option maxHeartbeats 1000000
def JR:Code→Code | .seq x _=>x | c=>c
def Dt:Code→Code | .seq _ x=>x | c=>c
def Vf:Code→Code | .block _ c=>c | c=>c
def rfA:Code→Code | .rangeFunc _ _ a _=>a | c=>c
def rfB:Code→Code | .rangeFunc _ _ _ b=>b | c=>c
def rOf (s:SS) (t:Nat):Nat:=match s.tmps t with | .s (.at (.p _ r _))=>r | _=>0
abbrev opK:K9:=Jh okL [] [] []
theorem Jd:∀ f,opK.okf f=true→mc PP f:=zk fc _ _ _
noncomputable def Hn:Code:=(Tryz.f205.body).getD .skip
def TV (r:Nat) (fv:Value):SS:={ sz:=13,tmps:=fun t=>if t=2 then .s (.at (.p 0 r 0)) else if t=6 then .s (.at (.v fv)) else .s (.at .any),mem:=fun n=>if n=0 then some ⟨r,25,[.any]⟩ else none,next:=50 }
abbrev PX (r:Nat):List (Nat × Bx × List Nat × Nat):=[(0,⟨r,25,[.any]⟩,[0],0)]
noncomputable def QV (vs:List Value) (C:List Value→Heap→Go.Sx.Own→Prop):Tree:=sx PP opK (JR Hn) (nP PP Tryz.f205 vs) (fun s=>sx PP opK (JR (JR (Dt Hn))) s (fun s=>jT 0 C [] [2,6] (PX (rOf s 2)) (TV (rOf s 2) (g vs 1)) s) (fun _=>none) (fun _=>.stuck 1)) (fun _=>none) (fun _=>.stuck 1)
noncomputable def V9 (r:Nat) (fv:Value) (Rel:List Int→List Value→Heap→Go.Sx.Own→Prop):RangeLoop PP opK Int:={ h:=TV r fv,keep:=[2,6],hb:=PX r,p:=7,enc:=fun x=>.int .i64 x,assign:=rfA (Vf (Dt (JR (Dt Hn)))),body:=rfB (Vf (Dt (JR (Dt Hn)))),Rel,RelX:=fun _ _ _=>False }
noncomputable def L0 (r:Nat) (fv:Value) (v:List Value):Tree:=sx PP opK (Dt (Dt Hn)) (om (TV r fv) [] [2,6] (PX r) v) (sE PP Tryz.f205) (fun _=>none) (sE PP Tryz.f205)
theorem LZ (vs:List Value) (C:List Value→Heap→Go.Sx.Own→Prop):QV vs C=.newbox fun r=>.cont 0 C [g vs 0] [([.pointer (some ⟨r,0,none⟩)],[.pointer (some ⟨r,0,none⟩)]),([g vs 1],[g vs 1]),([.pointer (some ⟨r,0,none⟩),.tuple #[]],[.pointer (some ⟨r,0,none⟩),.tuple #[]])]:=by kernel_rfl
theorem HA (r:Nat) (fv:Value) (Rel:List Int→List Value→Heap→Go.Sx.Own→Prop) (pre:List Int) (x:Int) (v:List Value):(V9 r fv Rel).round pre x v=.chk (.eqN r r) (.newbox fun q=>.prim (.bi .append #[25,25] 25) [g v 0,.slice (some ⟨q,0,none⟩) 1 1] [⟨q,3,[iV x]⟩] [] .one fun l _ =>
  .chk (.eqN r r) (.cont 0 (fun vs H O=>Cons H O→∃ H3 O3,Ghost H O H3 O3∧Rel (pre++[x]) vs H3 O3) [g l 0] [([.pointer (some ⟨r,0,none⟩)],[.pointer (some ⟨r,0,none⟩)]),([fv],[fv]),([.pointer (some ⟨r,0,none⟩),.tuple #[]],[.pointer (some ⟨r,0,none⟩),.tuple #[]])])):=by kernel_rfl
theorem JX (r:Nat) (fv:Value) (v:List Value):L0 r fv v=.chk (.eqN r r) (.ret (g v 0) []):=by kernel_rfl
def SL:Code→Code→Code→Code→Code→Code:=fun A B ax bd post=>.seq A (.seq (.seq B (.block 0 (.rangeFunc (.tmp 6) #[7] ax bd))) post)
theorem TI:Hn=SL (JR Hn) (JR (JR (Dt Hn))) (rfA (Vf (Dt (JR (Dt Hn))))) (rfB (Vf (Dt (JR (Dt Hn))))) (Dt (Dt Hn)):=by kernel_rfl
section
open Go.RowKit Go.Shelf
attribute [local go_sem] Oper.semAt_some
theorem OO {H0:Heap} {sv:Value} {zs:List Int} (hs:Sl H0 1 sv (aJ zs)) (hne:zs ≠ []):∃ b off cap,sv=.slice (some ⟨b,off,none⟩) zs.length cap∧∀ k,k < zs.length→H0.cell? ⟨b,off + k,none⟩=some (.int .i64 (zs[k]?.getD 0)):=by
 obtain⟨a,cap,rfl,h1,h2,h3⟩:=hs
 have hl:(aJ zs).length=zs.length:=by simp[aJ]
 obtain⟨ad,rfl,hA⟩:=h3 (by intro e;apply hne;have:=congrArg List.length e;rw[hl] at this;exact List.eq_nil_of_length_eq_zero this)
 have key:∀ k,k < zs.length→H0.cell? (ad.add k)=some (.int .i64 (zs[k]?.getD 0)):=by
  intro k hk
  obtain⟨r1,_,_⟩:=hA k [iV zs[k]] (by simp[aJ,hk])
  rw[Nat.mul_one] at r1
  simp only[Heap.read] at r1
  obtain⟨j,hj,hc⟩:=qN r1 0 (iV zs[k]) rfl
  have:j=0:=by simpa using hj.symm
  subst this
  rw[vP,Nat.add_zero] at hc
  rw[hc];simp[hk]
 have h0:=key 0 (List.length_pos_iff.2 hne)
 obtain⟨b,off,sp⟩:=ad
 have hsp:sp=none:=by
  cases sp with
  | none=>rfl
  | some x =>
   exfalso
   simp only[Heap.cell?,Addr.add] at h0
   split at h0 <;> simp at h0
 subst hsp
 exact⟨b,off,cap,by rw[hl],fun k hk=>by have:=key k hk;rwa [bK] at this⟩
set_option maxHeartbeats 2000000 in
theorem OH (l k1 len cap b off:Nat) (f:Nat→Int) (h8:len * 8≤140737488351232) (K:Nat→World→Prop) (Kx:World→Prop)
  (hbox:∀ k W,K k W→W.cell? ⟨k1,0,none⟩=some (.slice (some ⟨b,off,none⟩) len cap)) (hc:∀ k0 W,K k0 W→∀ k,k < len→W.cell? ⟨b,off + k,none⟩=some (.int .i64 (f k)))
  (hY:∀ k W,k < len→K k W→YieldAt Fence.wide (1 - 1) Tryz.prog l #[.int .i64 (f k)] W fun e W'=>(e=.returned (.bool true)∧K (k + 1) W')∨(e=.returned (.bool false)∧Kx W')) (W:World) (h0:K 0 W) :
  CallsIn Fence.wide 1 Tryz.prog 144 #[.func (.yield l) #[] #[],.pointer (some ⟨k1,0,none⟩)] W fun e W'=>(∃ v,e=.returned v)∧(K len W'∨Kx W'):=by
 have hn:1≤1:=Nat.le_refl 1
 have hb0:=hbox 0 W h0
 refine callsIn_of_wp Tryz.func144 rfl trivial ?_ rfl
 simp only[Tryz.ntmps144,List.size_toArray,List.length_cons,List.length_nil,Nat.reduceAdd,Nat.reduceSub,Array.replicate_succ,Array.replicate_zero,List.push_toArray,List.append_toArray,List.nil_append,List.cons_append]
 gi_wp2
 gi_loopw [7] (fun i wr=>∃ k:Nat,k≤len∧i=.int .i64 k∧K k wr)
  (fun i _=>len - (intOf i).toNat)
 case atStart=>exact⟨0,Nat.zero_le _,rfl,h0⟩
 case round =>
  obtain⟨k,hk,rfl,hJs⟩:=hrel
  have hcx:k < len→wr.cell? ⟨b,off + k,none⟩=some (.int .i64 (f k)):=fun h=>hc _ wr hJs k h
  by_cases hlt:k < len
  ·obtain⟨fn,tmps,assign,body,hy,hR⟩:=hY k wr hlt hJs
   have hcx':=hcx hlt
   gi_wp2
   refine hR.mono ?_
   rintro e W3 (⟨rfl,hJ3⟩ | ⟨rfl,hJx3⟩)
   ·gi_wp2
    go_roundw
    case rel=>exact⟨k + 1,by omega,by simp,hJ3⟩
    case measure=>simp[intOf];omega
   ·gi_wp2
    refine bodyPost_ret (results_none rfl _ _ _) rfl ?_
    exact⟨⟨_,rfl⟩,.inr hJx3⟩
  ·obtain rfl:k=len:=by omega
   gi_wp2
   go_end0
   exact⟨⟨_,rfl⟩,.inl hJs⟩
set_option maxHeartbeats 2000000 in
theorem Lh (l k1 cap:Nat) (a:Option Addr) (K:Nat→World→Prop) (hbox:∀ k W,K k W→W.cell? ⟨k1,0,none⟩=some (.slice a 0 cap)) (W:World) (h0:K 0 W) :
  CallsIn Fence.wide 1 Tryz.prog 144 #[.func (.yield l) #[] #[],.pointer (some ⟨k1,0,none⟩)] W fun e W'=>(∃ v,e=.returned v)∧K 0 W':=by
 have hb0:=hbox 0 W h0
 refine callsIn_of_wp Tryz.func144 rfl trivial ?_ rfl
 simp only[Tryz.ntmps144,List.size_toArray,List.length_cons,List.length_nil,Nat.reduceAdd,Nat.reduceSub,Array.replicate_succ,Array.replicate_zero,List.push_toArray,List.append_toArray,List.nil_append,List.cons_append]
 gi_wp2
 gi_loopw [7] (fun i wr=>i=.int .i64 0∧K 0 wr) (fun _ _=>0)
 case atStart=>exact⟨rfl,h0⟩
 case round =>
  obtain⟨rfl,hJs⟩:=hrel
  gi_wp2
  go_end0
  exact⟨⟨_,rfl⟩,hJs⟩
end
theorem SN {H H':Heap} {a:Addr} {v:Value} (hl:Heap.le H H') (h:H.cell? a=some v):H'.cell? a=some v:=by
 simp only[Heap.cell?] at h ⊢
 split at h
 ·rename_i heq
  rw[hl.1 _ _ heq]
  exact h
 ·cases h
theorem Gz {f:FuncId} {args:Array Value} {w:World} {R:Ending→World→Prop} {n m:Nat} (h:CallsIn Fence.wide n PP f args w R):CallsIn (Fr none) m PP f args w R:=ud (callsIn_wide.1 h)
theorem IB {H0:Heap} {sv:Value} {zs:List Int} (hs:Sl H0 1 sv (aJ zs)) (hlen:zs.length≤1000) (k1:Nat) (T:TypeId) :
  Triple PP 205 [.slice none 0 0,.func (.func 144) #[] #[.pointer (some ⟨k1,0,none⟩)]] H0 [(k1,.cells #[sv] T (0,0))] fun r _ O'=>OSl aQ 1 r (aJ zs) O':=by
 intro w F hm
 refine (callsIn_wide (n:=0)).1 ?_
 let fv:Value:=.func (.func 144) #[] #[.pointer (some ⟨k1,0,none⟩)]
 let vs:List Value:=[.slice none 0 0,fv]
 let o0:Obj:=.cells #[sv] T (0,0)
 refine callsIn_of_wp_marks (F:=Fr none) Tryz.func205 (c:=Hn) rfl trivial ?_ rfl
 have hC:Conc F (nP PP Tryz.f205 vs) H0 [(k1,o0)] (Act.mk (vs.toArray++Array.replicate (Tryz.f205.ntmps - vs.toArray.size) undef) []) w:=CB (args:=vs) (vs:=vs) (by kernel_rfl) ⟨rfl,rfl,trivial⟩ hm
 have hpre:(QV vs fun v H O=>v=[.slice none 0 0]∧H=H0∧O=[(k1,o0)]).den PP (fun _ _ _=>True) H0 [(k1,o0)]:=by
  rw[LZ]
  exact fun r=>⟨by simp[Eqs],rfl,rfl,rfl⟩
 have hout:∀ a w',¬ bodyPostM (Fr none) 0 PP Tryz.f205 (fun e w'=>∃ v H' O',e=.returned v∧OSl aQ 1 v (aJ zs) O'∧Heap.le H0 H'∧Models w' H' (O'++F)) .outgrown a w':=by
  rintro a w' ⟨v,H',O',e,_⟩
  cases e
 rw[TI]
 refine wpIn_seq ?_
 rw[← yE (Act.mk _ _)]
 refine ml (ro:=none) (d:=[]) mixed Jd (JR Hn) (by kernel_rfl) (fun a w h=>hout a w h) hpre hC ⟨?_⟩ (fun id kx he=>by cases he) ⟨fun s' H' O' a' w' _ _ hd'=>hd'.elim⟩
 intro s1 H1 O1 a1 w1 hC1 l1 hd1
 refine wpIn_seq (wpIn_seq ?_)
 refine ml (ro:=none) (d:=[]) mixed Jd (JR (JR (Dt Hn))) (by kernel_rfl) (fun a w h=>hout a w h) hd1 hC1 ⟨?_⟩ (fun id kx he=>by cases he) ⟨fun s' H' O' a' w' _ _ hd'=>hd'.elim⟩
 intro s2 H2 O2 a2 w2 hC2 l2 hd2
 have hokh:∀ r,(TV r fv).Ok:=fun r=>⟨fun t=>by
   simp only[TV]
   split
   ·intro b hb;simp[S1.cells] at hb;subst hb;trivial
   ·split
    ·intro b hb;simp[S1.cells] at hb;subst hb;rfl
    ·intro b hb;simp[S1.cells] at hb;subst hb;trivial,fun n b hb a ha=>by
   simp only[TV] at hb
   split at hb
   ·cases hb;simp at ha;subst ha;trivial
   ·cases hb⟩
 obtain⟨⟨b1,rfl,rfl⟩,b2,b3,b4⟩:=kb hd2 hC2 (hokh _) (by
  intro n b cells i hmem
  simp only[List.mem_singleton,Prod.mk.injEq] at hmem
  obtain⟨rfl,rfl,rfl,rfl⟩:=hmem
  rfl)
 let r:=rOf s2 2
 have hrow1:∀ x:Int,Ones [iV x]:=fun _=>⟨rfl,trivial⟩
 rw[b1] at b2
 have hCL:=ND b2
 let R:=V9 r fv fun pre v H O=>∃ x,v=[x]∧OSl aQ 1 x (aJ pre) O
 have hg:a2.eval (.tmp 6)=fv:=by
  have h6:SV.rel (.s (.at (.v fv))) (a2.tmps.getD 6 undef):=hCL.tm 6
  exact h6
 rw[yE]
 refine wpIn_block (LU (opts:=opK) mixed Jd R (fun _ _ _=>True) (by kernel_rfl) (by kernel_rfl) (hokh r) ?_ (by show 7 < 13;omega) (fun _=>rfl) (F:=F) (k1:=k1) (o0:=o0) (H0:=H2) (O0:=[]) (v0:=[.slice none 0 0]) hCL ⟨_,rfl,OSl.nil _ _⟩ (Nx:=fun pre x=>∃ k,k < zs.length∧pre=zs.take k∧x=zs[k]?.getD 0) ?_ ⟨⟨rfl,trivial⟩,rfl⟩ hg (enters_of Tryz.func144 (by kernel_rfl) rfl) (S:=fun xs=>xs=zs) ?_ ?_ ?_)
 ·intro n b cells i hmem
  have hmem:(n,b,cells,i) ∈ PX r:=hmem
  simp only[List.mem_singleton,Prod.mk.injEq] at hmem
  obtain⟨rfl,rfl,rfl,rfl⟩:=hmem
  rfl
 ·
  rintro pre x v H O ⟨k,hk,rfl,rfl⟩ hv1 hv2 hle ⟨y,rfl,hy⟩
  rw[HA]
  have hkl:(aJ (zs.take k)).length=k:=by simp[aJ];omega
  refine ae (ah fun q=>?_)
  refine aH (rows:=aJ (zs.take k)) (news:=[[iV (zs[k]?.getD 0)]]) (O1:=O) (O2:=[]) (e:=aQ) (size:=1) (bytes:=8) (by kernel_rfl) (by simp) hy (fun Hf _ hf=>Sl.block19 (hf _ List.mem_cons_self) rfl ⟨rfl,trivial⟩) (by rw[hkl];simp;omega) (by rw[hkl];simp;omega) ?_
  intro v' O1' H' l' hO
  refine ae ⟨by simp[Eqs],fun _=>⟨H',O1'++[],Ghost.refl _ _,v',rfl,?_⟩⟩
  rw[List.append_nil]
  have e:aJ (zs.take k++[zs[k]?.getD 0])=aJ (zs.take k)++[[iV (zs[k]?.getD 0)]]:=by simp[aJ]
  rw[e];exact hO
 ·
  intro l K Kx hput hmod hY W hK0
  have hbox:∀ pre o W,K pre o W→W.heap[k1]?=some o:=fun pre o W hK=>by
   obtain⟨H,O,_,hm',hin⟩:=hmod pre o W hK
   exact (hm'.own _ hin).1
  by_cases hne:zs=[]
  ·subst hne
   obtain⟨a,cap,rfl,_⟩:=hs
   refine (Gz (Lh l k1 cap a (fun _ W=>K [] o0 W) (fun k W hK=>by simp[World.cell?,hbox _ _ _ hK,o0];rfl) W hK0)).mono ?_
   rintro e W' ⟨he,hK⟩
   exact⟨he,.inl ⟨_,_,rfl,hK⟩⟩
  ·obtain⟨b,off,cap,rfl,hcs⟩:=OO hs hne
   refine (Gz (OH l k1 zs.length cap b off (fun k=>zs[k]?.getD 0) (by omega) (fun k W=>K (zs.take k) o0 W) Kx (fun k W hK=>by simp[World.cell?,hbox _ _ _ hK,o0]) (fun k0 W hK k hk=>by
    obtain⟨H,O,hle,hm',_⟩:=hmod _ _ _ hK
    exact hm'.cell? (SN hle (hcs k hk))) (fun k W hk hK=>by
    obtain⟨fn,tmps,asg,bod,hy,hR⟩:=hY (zs.take k) (zs[k]?.getD 0) o0 W ⟨k,hk,rfl,rfl⟩ hK
    refine⟨fn,tmps,asg,bod,hy,RoundIn.mono hR ?_⟩
    have e:zs.take (k + 1)=zs.take k++[zs[k]?.getD 0]:=by rw[List.take_add_one,List.getElem?_eq_getElem hk];rfl
    rw[e]
    exact fun _ _ h=>h) W (by simpa using hK0))).mono ?_
   rintro e W' ⟨he,hK | hK⟩
   ·exact⟨he,.inl ⟨_,_,rfl,by simpa using hK⟩⟩
   ·exact⟨he,.inr hK⟩
 ·
  rintro D xs v H O W F' hS hv1 hv2 hle ⟨y,rfl,hy⟩ hCd
  rw[hS] at hy
  have hpost:(L0 r fv [y]).den PP (fun r _ O'=>OSl aQ 1 r (aJ zs) O') H O:=by
   rw[JX]
   exact ae (af hy)
  refine (show (Dt (Dt Hn)).wpIn (Fr none) 0 PP _ (shift [Go.Sx.mark D] a2) W from ?_)
  refine ml (ro:=none) (d:=[Go.Sx.mark D]) mixed Jd (Dt (Dt Hn)) (by kernel_rfl) hout hpost hCd ⟨?_⟩ (fun id kx he=>by cases he) ⟨?_⟩
  ·intro s' H' O' a' w' hC' hle' hd'
   refine zu hC' hd' ?_
   intro v H'' O'' w'' hq hl' hm'
   exact⟨v,H'',O'',rfl,hq,Heap.le_trans hle (Heap.le_trans hle' hl'),hm'.sub (List.Sublist.append_left (List.sublist_append_right _ _) _)⟩
  ·intro s' H' O' a' w' hC' hle' hd'
   refine zu hC' hd' ?_
   intro v H'' O'' w'' hq hl' hm'
   exact⟨v,H'',O'',rfl,hq,Heap.le_trans hle (Heap.le_trans hle' hl'),hm'.sub (List.Sublist.append_left (List.sublist_append_right _ _) _)⟩
 ·rintro D v H O W F' _ _ _ h
  exact h.elim
end Go.Proofs.YteakpllehopodaaGreatDoor
namespace Go.Sx
open Go
theorem Gq {w:World} {H:Heap} {O:Go.Sx.Own} (h:Models w H O) (os:Array Obj):Models (Sort.grow w os) H O:=by
 have keep:∀ b (x:Obj),w.heap[b]?=some x→(w.heap++os)[b]?=some x:=fun b x hb=>by
  have hlt:b < w.heap.size:=(Array.getElem?_eq_some_iff.1 hb).1
  rw[Array.getElem?_append_left hlt];exact hb
 exact⟨fun b x hb=>keep b x (h.pers b x hb),fun p hp=>⟨keep _ _ (h.own p hp).1,(h.own p hp).2⟩,h.nodup,h.env⟩
theorem zz (d:List Int):(d.map fun n=>[iV n]).flatten.length=d.length:=by
 have:=cV (rows:=d.map fun n=>[iV n]) (size:=1) (by simp)
 rwa [List.length_map,Nat.mul_one] at this
theorem Gl {d:List Int} {k:Nat} (h:k < d.length):(d.map fun n=>[iV n]).flatten[k]?=some (iV d[k]):=by
 have p:=fG (rows:=d.map fun n=>[iV n]) (size:=1) (i:=k) (row:=[iV d[k]]) (by simp) (by simp[h])
 rw[Nat.mul_one] at p
 have:=congrArg (fun l=>l[0]?) p
 simpa [List.getElem?_take,List.getElem?_drop] using this
theorem HF (d:List Int) (cs:List Value) (h:d.length≤cs.length):Sort.putCells (Value.int .i64) 0 d.toArray cs.toArray=((d.map fun n=>[iV n]).flatten++cs.drop d.length).toArray:=by
 refine Array.ext' (List.ext_getElem? fun k=>?_)
 have hl:=zz d
 simp only[Sort.putCells,Array.toList_mapIdx,List.getElem?_mapIdx,List.getElem?_append,List.size_toArray]
 by_cases hk:k < d.length
 ·rw[if_pos (by omega),List.getElem?_eq_getElem (by omega:k < cs.length),Gl hk]
  simp only[Option.map_some,Option.some.injEq]
  rw[if_pos ⟨Nat.zero_le _,by omega⟩,Nat.sub_zero,getElem!_pos _ k (by simpa using hk)]
  rfl
 ·rw[if_neg (by omega),List.getElem?_drop,show d.length + (k - (d.map fun n=>[iV n]).flatten.length)=k by omega]
  rcases Nat.lt_or_ge k cs.length with hc | hc
  ·rw[List.getElem?_eq_getElem hc,Option.map_some,if_neg (by omega)]
  ·rw[List.getElem?_eq_none hc];rfl
theorem Fb {w:World} {H:Heap} {r:Nat} {cs:List Value} {T:TypeId} {O:Go.Sx.Own} (hm:Models w H ((r,.cells cs.toArray T (0,0))::O)) {d:List Int} (hl:d.length≤cs.length) (n:Nat) (os:Array Obj) :
  Models (Sort.grow (Sort.putRow (Value.int .i64) (Sort.ahead w n) r 0 d.toArray) os) H ((r,.cells ((d.map fun n=>[iV n]).flatten++cs.drop d.length).toArray T (0,0))::O):=by
 have hrow:=(hm.own (r,.cells cs.toArray T (0,0)) (by simp)).1
 refine Gq (Models.update (w:=w) (w':=Sort.putRow (Value.int .i64) (Sort.ahead w n) r 0 d.toArray) (o':=.cells ((d.map fun n=>[iV n]).flatten++cs.drop d.length).toArray T (0,0)) hm (fun b hb=>?_) ?_ rfl) os
 ·simp[Sort.putRow,Sort.mapBlock,Sort.ahead,Array.getElem?_modify,Ne.symm hb]
 ·simp only[Sort.putRow,Sort.mapBlock,Sort.ahead,Array.getElem?_modify,if_true,hrow,Option.map_some,Sort.onCells]
  rw[HF _ _ hl]
theorem Hr {w:World} {H:Heap} {r:Nat} {cs:List Value} {T:TypeId} {O:Go.Sx.Own} (hm:Models w H ((r,.cells cs.toArray T (0,0))::O)) {d:List Int} (hd:(d.map fun n=>[iV n]).flatten=cs.take d.length) (hl:d.length≤cs.length) :
  Sort.Holds (Value.int .i64) w r 0 d.toArray∧r < w.heap.size:=by
 have hrow:=(hm.own (r,.cells cs.toArray T (0,0)) (by simp)).1
 have hlt:r < w.heap.size:=(Array.getElem?_eq_some_iff.1 hrow).1
 refine⟨fun j hj=>?_,hlt⟩
 have hj':j < d.length:=by simpa using hj
 have hv:cs[j]?=some (iV d[j]):=by
  have:=congrArg (fun l=>l[j]?) hd
  simp only[List.getElem?_take,if_pos hj'] at this
  rw[← this,Gl hj']
 constructor
 ·rw[getElem!_pos _ j hj]
  simp only[World.cell?,hrow,Nat.zero_add]
  simpa using hv
 ·rw[Nat.zero_add];exact frozen_of_row w r j _ T hrow
end Go.Sx
namespace Go.Proofs.YteakpllehopodaaGreatDoor
open Go Go.Sx
open Go.Sx (Own)
set_option maxRecDepth 100000
set_option maxHeartbeats 1000000
def qX (l:List Int):List Int:=l.mergeSort fun x y=>decide (x≤y)
theorem E9 (l:List Int):(qX l).length=l.length:=List.length_mergeSort l
theorem N2 {H:Heap} {v:Value} {l:List Int} {O:Go.Sx.Own} (h:OSl aQ 1 v (aJ l) O) (hlen:l.length≤4000000) :
  Triple PP 143 [v] H O fun r _ O'=>r=.tuple #[]∧OSl aQ 1 v (aJ (qX l)) O':=by
 have hil:(aJ l).length=l.length:=by simp[aJ]
 rcases h with ⟨⟨a,rfl⟩,hrows,rfl⟩ | ⟨r,cs,cap,rfl,rfl,hcl,hlc,hcap,hl,ho,ht⟩
 ·have hnil:l=[]:=by simpa [aJ] using hrows
  subst hnil
  intro w F hm
  have hcon:=AnyM.slices_Sort_int_none Tryz.sortA a 0 w
  change Calls PP 143 _ _ _ at hcon
  refine hcon.mono ?_
  rintro _ _ ⟨rfl,rfl⟩
  exact⟨_,H,[],rfl,⟨rfl,.inl ⟨⟨a,rfl⟩,by simp[qX,aJ],rfl⟩⟩,Heap.le_refl H,hm⟩
 ·intro w F hm
  rw[hil] at hlc ht ⊢
  have hfit:l.length≤cs.length:=by rw[hcl];omega
  have hm':Models w H ((r,.cells cs.toArray aQ (0,0))::F):=by simpa using hm
  obtain⟨hH,hblk⟩:=Hr hm' (d:=l) (by rw[Nat.mul_one] at ht;exact ht.symm) hfit
  have hcon:=AnyM.slices_Sort_int Tryz.sortA r 0 cap l w hH hblk (by omega)
  change Calls PP 143 _ _ _ at hcon
  refine hcon.mono ?_
  rintro _ _ ⟨rfl,n,os,rfl⟩
  have hsl:=E9 l
  have hmm:=Fb hm' (d:=qX l) (by rw[hsl];exact hfit) n os
  refine⟨_,H,[(r,.cells ((aJ (qX l)).flatten++cs.drop (qX l).length).toArray aQ (0,0))],rfl,⟨rfl,.inr ⟨r,(aJ (qX l)).flatten++cs.drop (qX l).length,cap,?_,rfl,?_,?_,hcap,?_,?_,?_⟩⟩,Heap.le_refl H,by rw[List.singleton_append];exact hmm⟩
  ·simp[aJ,hsl]
  ·rw[List.length_append,List.length_drop,show (aJ (qX l)).flatten.length=(qX l).length from zz _,hsl,hcl];omega
  ·simp[aJ,hsl];exact hlc
  ·intro x hx;obtain⟨y,_,rfl⟩:=List.mem_map.1 hx;rfl
  ·intro x hx;obtain⟨y,_,rfl⟩:=List.mem_map.1 hx;exact⟨rfl,trivial⟩
  ·have e:(aJ (qX l)).length * 1=(aJ (qX l)).flatten.length:=by rw[show (aJ (qX l)).flatten.length=(qX l).length from zz _];simp[aJ]
   rw[e,List.take_left]
theorem QA {H:Heap} {sv:Value} {zs:List Int} (hs:Sl H 1 sv (aJ zs)) (hlen:zs.length≤1000) (k1:Nat) (T:TypeId) :
  Triple PP kJ [.func (.func 144) #[] #[.pointer (some ⟨k1,0,none⟩)]] H [(k1,.cells #[sv] T (0,0))] fun r _ O'=>OSl aQ 1 r (aJ (qX zs)) O':=by
 refine oY (vs:=[.func (.func 144) #[] #[.pointer (some ⟨k1,0,none⟩)]]) (by kernel_rfl) ⟨rfl,trivial⟩ ?_
 simp only[kB]
 have hcol:Triple PP jG [.func (.func 144) #[] #[.pointer (some ⟨k1,0,none⟩)]] H [(k1,.cells #[sv] T (0,0))] fun r _ O'=>OSl aQ 1 r (aJ zs) O':=by
  refine oG (vs:=[.func (.func 144) #[] #[.pointer (some ⟨k1,0,none⟩)]]) (by kernel_rfl) ⟨rfl,trivial⟩ ?_
  simp only[jA]
  refine ik (O1:=[(k1,.cells #[sv] T (0,0))]) (O2:=[]) (by simp) (IB hs hlen k1 T) ?_
  intro v H1 O3 hr l1
  exact⟨[v],rfl,⟨hr.one,trivial⟩,af (by rw[List.append_nil];exact hr)⟩
 refine ik (O1:=[(k1,.cells #[sv] T (0,0))]) (O2:=[]) (by simp) hcol ?_
 intro v H1 O3 hr l1
 refine⟨[v],rfl,⟨hr.one,trivial⟩,?_⟩
 rw[List.append_nil]
 refine ik (O1:=O3) (O2:=[]) (by simp) (N2 hr (by omega)) ?_
 rintro _ H2 O4 ⟨rfl,hr2⟩ l2
 exact⟨[],rfl,trivial,af (by rw[List.append_nil];exact hr2)⟩
theorem Qz (v:Value) (h1:v.oneCell'=true) (H:Heap):Triple PP iu [v] H [] fun r _ O'=>∃ k,r=.func (.func 144) #[] #[.pointer (some ⟨k,0,none⟩)]∧O'=[(k,.cells #[v] 25 (0,0))]:=by
 refine lW (vs:=[v]) (by kernel_rfl) ⟨h1,trivial⟩ ?_
 simp only[io]
 intro r0 _
 exact⟨H,_,Ghost.refl _ _,r0,rfl,rfl⟩
end Go.Proofs.YteakpllehopodaaGreatDoor
namespace Go.Proofs.YteakpllehopodaaGreatDoor
open Go Go.Sx
set_option maxRecDepth 100000
set_option maxHeartbeats 1000000
abbrev I (n:Int):Value:=.int .i64 n
theorem cd (a lo hi:Int) (H:Heap) (O:Go.Sx.Own):RetO PP rZ [I a,I lo,I hi] H O (.bool (decide (lo≤a∧a≤hi))):=by
 refine xR (vs:=[I a,I lo,I hi]) (by kernel_rfl) ⟨rfl,rfl,rfl,trivial⟩ ?_
 unfold rG
 refine ab _ (eC _ _) (ai (ai (ab _ (rh _ _) (ai (ab _ (bu _ _) (af ⟨?_,rfl⟩))))))
 simp[Bool.decide_and]
def PU:List Int→Int→Int→Int
 | [],_,_=>-1
 | a::r,x,i=>if x == a then i else PU r x (i + 1)
theorem Nn:∀ (l:List Int) (x i:Int),0≤i→(decide (0≤PU l x i)=l.contains x)
 | [],x,i,_=>by simp[PU]
 | a::r,x,i,h=>by
  simp only[PU,List.contains_cons]
  by_cases hx:x=a
  ·simp[hx,h]
  ·simp only[beq_iff_eq,hx,if_false]
   rw[Nn r x (i + 1) (by omega)]
   simp[hx]
theorem Iz {H:Heap} {O:Go.Sx.Own} {v:Value} {l:List Int} (h:RSl H O 1 v (l.map fun n=>[I n])) (x:Int):RetO PP iI [v,I x] H O (I (PU l x 0)):=by
 refine mq (vs:=[v,I x]) (by kernel_rfl) ⟨h.one,rfl,trivial⟩ ?_
 simp only[iE]
 refine ab _ h.len ?_
 refine aY l.length (fun i H' O'=>O'=O∧Heap.le H H'∧PU l x 0=PU (l.drop i) x i) ⟨rfl,Heap.le_refl H,by simp⟩ ?_
 rintro i H' O' hi - ⟨rfl,hle,hor⟩
 refine ab _ (aG _ _) (aj (fun hb=>?_) (fun hb=>?_))
 ·have hlt:i < l.length:=by simpa using hb
  obtain⟨a,h1,h2,_,h3,h4⟩:=(h.le hle).idx .i64 i [I l[i]] (by simp[hlt])
  refine ab _ h1 (aA h2 h3 h4 (ab _ (aw _ _) (aj (fun hb=>?_) (fun hb=>?_))))
  ·refine af ⟨?_,rfl⟩
   rw[hor,List.drop_eq_getElem_cons hlt,PU,if_pos hb];rfl
  ·refine ab _ (aD (by have:=h.lenB;simp at this;omega)) (aN (by simp[Eqs]) hlt ⟨rfl,hle,?_⟩)
   rw[hor,List.drop_eq_getElem_cons hlt,PU,if_neg (by rw[hb];simp)];rfl
 ·have hge:l.length≤i:=by simpa using hb
  refine af ⟨?_,rfl⟩
  rw[hor,List.drop_of_length_le hge];rfl
theorem aZ {H:Heap} {O:Go.Sx.Own} {v:Value} {l:List Int} (h:RSl H O 1 v (l.map fun n=>[I n])) (x:Int):RetO PP bC [v,I x] H O (.bool (l.contains x)):=by
 refine kg (vs:=[v,I x]) (by kernel_rfl) ⟨h.one,rfl,trivial⟩ ?_
 simp only[gw]
 refine am (Iz h x) rfl ⟨rfl,trivial⟩ fun H1 _=>ab _ (eC _ _) (af ⟨?_,rfl⟩)
 rw[← Nn l x 0 (by omega)]
theorem ed {H:Heap} {v:Value} {l:List (List Value)} (h:Sl H 1 v l) (hb:l.length≤2 ^ 40):Triple PP iJ [v] H [] fun v' H' O'=>OSl aQ 1 v' l O':=by
 refine mr (vs:=[v]) (by kernel_rfl) ⟨h.one,trivial⟩ ?_
 simp only[iF]
 obtain⟨a,cap,rfl,h1,h2,h3⟩:=h
 have hev:al (.bin .eql .slice) [.slice a l.length cap,.slice none 0 0]=some (.bool a.isNone):=by cases a <;> rfl
 refine ab _ hev (aj (fun hn=>af ?_) (fun hn=>fun r0=>?_))
 ·have hl:l=[]:=by
   by_cases hl:l=[]
   ·exact hl
   ·obtain⟨ad,rfl,_⟩:=h3 hl;cases hn
  subst hl
  exact OSl.nil aQ 1
 ·refine aH (rows:=[]) (news:=l) (O1:=[]) (O2:=[]) (e:=aQ) (size:=1) (bytes:=8) (by kernel_rfl) (List.Perm.refl _) (.inl ⟨⟨_,rfl⟩,rfl,rfl⟩) (fun Hf hl _=>Sl.le hl ⟨a,cap,rfl,h1,h2,h3⟩) (by simp;omega) (by simp;omega) ?_
  intro v' O1' H' _ ho
  refine af ?_
  rw[List.append_nil]
  exact ho
theorem To (t:Tg) (H:Heap) (O:Go.Sx.Own):RetO PP uP [.agg #[iV t.id,iV t.player]] H O (.bool (Aj t)):=by
 refine yU (vs:=[iV t.id,iV t.player]) (by kernel_rfl) ⟨rfl,rfl,trivial⟩ ?_
 simp only[uC]
 refine fun r0=>ae (am (cd t.id 0 500 H O) rfl ⟨rfl,trivial⟩ fun H1 _=>aj (fun hb=>ae ?_) (fun hb=>af ⟨?_,rfl⟩))
 ·refine am (cd t.player 0 1 H1 O) rfl ⟨rfl,trivial⟩ fun H2 _=>?_
  refine ae (ai (ai (ab _ (aw _ _) (ai (ae (ai (ai (ai (ai (ab _ (aw _ _) (ai (ai (ai (ab _ (aO _ _) (ai (ab _ (bu _ _) ?_))))))))))))))))
  refine af ⟨?_,rfl⟩
  simp only[Aj,ay,hb,Bool.true_and]
 ·simp only[Aj,ay,hb,Bool.false_and]
theorem Qu (t:Tg) (H:Heap) (O:Go.Sx.Own):RetO PP se [.agg #[iV t.id,iV t.player]] H O (.bool (!Aj t)):=by
 refine xU (vs:=[iV t.id,iV t.player]) (by kernel_rfl) ⟨rfl,rfl,trivial⟩ ?_
 simp only[rI]
 exact fun r0=>ae (am (To t H O) rfl ⟨rfl,trivial⟩ fun H1 _=>ab _ (aC _) (af ⟨rfl,rfl⟩))
theorem ui {H:Heap} {O:Go.Sx.Own} {v fv:Value} {l:List Tg} {p:Tg→Bool} (h:RSl H O 2 v (l.map Tg.row)) {f:FuncId} (hf:fv=.func (.func f) #[] #[]) (hok:mc PP f)
  (hp:∀ H',Heap.le H H'→∀ t,RetO PP f [.agg #[iV t.id,iV t.player]] H' O (.bool (p t))):RetO PP cB [v,fv] H O (iV (mJ p l 0)):=by
 subst hf
 refine eW (vs:=[v,.func (.func f) #[] #[]]) (by kernel_rfl) ⟨h.one,rfl,trivial⟩ ?_
 simp only[cw]
 refine ab _ h.len ?_
 rw[List.length_map]
 refine aY l.length (fun i H' O'=>O'=O∧Heap.le H H'∧mJ p l 0=mJ p (l.drop i) i) ⟨rfl,Heap.le_refl H,by simp⟩ ?_
 rintro i H' O' hi - ⟨rfl,hle,hor⟩
 refine ab _ (aG _ _) (aj (fun hb=>?_) (fun hb=>?_))
 ·have hlt:i < l.length:=by simpa using hb
  obtain⟨a,h1,h2,_,h3,h4⟩:=(h.le hle).idx .i64 i (Tg.row l[i]) (by simp[hlt])
  refine ab _ h1 (aA h2 h3 h4 (dU rfl hok (hp H' hle l[i]) rfl ⟨rfl,trivial⟩ fun H2 hle2=>aj (fun hb=>?_) (fun hb=>?_)))
  ·refine af ⟨?_,rfl⟩
   rw[hor,List.drop_eq_getElem_cons hlt,mJ,if_pos hb];rfl
  ·refine ab _ (aD (by have:=h.lenB;simp at this;omega)) (aN (by simp[Eqs,E]) hlt ⟨rfl,Heap.le_trans hle hle2,?_⟩)
   rw[hor,List.drop_eq_getElem_cons hlt,mJ,if_neg (by rw[hb];simp)];rfl
 ·have hge:l.length≤i:=by simpa using hb
  refine af ⟨?_,rfl⟩
  rw[hor,List.drop_of_length_le hge];rfl
theorem pW {H:Heap} {O:Go.Sx.Own} {v fv:Value} {l:List Tg} {p:Tg→Bool} (h:RSl H O 2 v (l.map Tg.row)) {f:FuncId} (hf:fv=.func (.func f) #[] #[]) (hok:mc PP f)
  (hp:∀ H',Heap.le H H'→∀ t,RetO PP f [.agg #[iV t.id,iV t.player]] H' O (.bool (p t))):RetO PP bV [v,fv] H O (.bool (l.any p)):=by
 have hone:fv.oneCell'=true:=by subst hf;rfl
 refine ew (vs:=[v,fv]) (by kernel_rfl) ⟨h.one,hone,trivial⟩ ?_
 simp only[bT]
 refine am (ui h hf hok hp) rfl ⟨rfl,trivial⟩ fun H1 _=>ab _ (eC _ _) (af ⟨?_,rfl⟩)
 rw[← vw p l 0 (by omega)]
theorem Re {H:Heap} {O:Go.Sx.Own} {row:List Value} {x:It} (h:ItR H O row x) (q:Bool):RetO PP xA [.agg row.toArray,.bool q] H O (.bool (vz x q)):=by
 obtain⟨s,rfl,hs⟩:=h
 refine Be (vs:=[iV x.player,iV x.id,iV x.card,iV x.trig,s,.bool q]) (by kernel_rfl) ⟨rfl,rfl,rfl,rfl,hs.one,rfl,trivial⟩ ?_
 simp only[wX]
 have hlen:al .len [s]=some (iV x.tgs.length):=by have:=hs.len;rwa [List.length_map] at this
 refine fun r0=>ae (am (cd x.player 0 1 H O) rfl ⟨rfl,trivial⟩ fun H1 l1=>aj (fun h1=>ae ?_) (fun h1=>af ⟨by simp only[vz,ay,h1,Bool.false_and],rfl⟩))
 refine am (cd x.id 1 500 H1 O) rfl ⟨rfl,trivial⟩ fun H2 l2=>aj (fun h2=>ae ?_) (fun h2=>af ⟨by simp only[vz,ay,h1,h2,Bool.false_and,Bool.true_and],rfl⟩)
 refine am (cd x.card 0 399 H2 O) rfl ⟨rfl,trivial⟩ fun H3 l3=>aj (fun h3=>ae ?_) (fun h3=>af ⟨by simp only[vz,ay,h1,h2,h3,Bool.false_and,Bool.true_and],rfl⟩)
 refine am (cd x.trig (-1) 1 H3 O) rfl ⟨rfl,trivial⟩ fun H4 l4=>?_
 repeat (first | refine ae ?_ | refine ai ?_ | refine ab _ hlen ?_ | refine ab _ (aG _ _) ?_ | refine ab _ (bG _ _) ?_ | refine ab _ (eC _ _) ?_ | refine ab _ (bu _ _) ?_ | refine ab _ (aO _ _) ?_ | refine ab _ (aC _) ?_)
 have hle:=Heap.le_trans (Heap.le_trans (Heap.le_trans l1 l2) l3) l4
 have hfb:vz x q=(!(!decide (-1≤x.trig∧x.trig≤1) || decide ((x.tgs.length:Int) > 4) || (decide (x.trig ≥ 0) && decide ((x.tgs.length:Int) > 0)) || (q && decide (x.trig < 0))) && !x.tgs.any (fun t=>!Aj t)):=by
  simp only[vz,ay,h1,h2,h3,Bool.true_and]
  cases decide (-1≤x.trig∧x.trig≤1) <;> simp
 refine aj (fun hb=>af ⟨?_,rfl⟩) (fun hb=>ae ?_)
 ·rw[hfb,hb];simp
 ·refine am (pW (p:=fun t=>!Aj t) (hs.le hle) rfl (dE fc (by decide)) fun H' _ t=>Qu t H' O) rfl ⟨rfl,trivial⟩ fun H5 _=>ab _ (aC _) (af ⟨?_,rfl⟩)
  rw[hfb,hb];simp
theorem yc {H:Heap} {O:Go.Sx.Own} {v fv:Value} {l:List It} {p:It→Bool} (h:ItsR H O v l) {f:FuncId} {caps:Array Value} (hf:fv=.func (.func f) #[] caps) (hok:mc PP f)
  (hp:∀ H',Heap.le H H'→∀ row x,ItR H' O row x→RetO PP f ([.agg row.toArray]++caps.toList) H' O (.bool (p x))):RetO PP dr [v,fv] H O (iV (mJ p l 0)):=by
 subst hf
 obtain⟨rows,hr,hlen,hit⟩:=h
 refine fR (vs:=[v,.func (.func f) #[] caps]) (by kernel_rfl) ⟨hr.one,rfl,trivial⟩ ?_
 simp only[dm]
 refine ab _ hr.len ?_
 rw[hlen]
 refine aY l.length (fun i H' O'=>O'=O∧Heap.le H H'∧mJ p l 0=mJ p (l.drop i) i) ⟨rfl,Heap.le_refl H,by simp⟩ ?_
 rintro i H' O' hi - ⟨rfl,hle,hor⟩
 refine ab _ (aG _ _) (aj (fun hb=>?_) (fun hb=>?_))
 ·have hlt:i < l.length:=by simpa using hb
  have hlt':i < rows.length:=by omega
  obtain⟨a,h1,h2,_,h3,h4⟩:=(hr.le hle).idx .i64 i rows[i] (by simp[hlt'])
  have hx:=(hit i rows[i] l[i] (by simp[hlt']) (by simp[hlt])).le hle
  have hx':=hx
  obtain⟨s,hrow,hs⟩:=hx
  have hcall:=hp H' hle rows[i] l[i] hx'
  rw[hrow] at h2 h3 h4 hcall
  refine ab _ h1 (aA h2 h3 h4 (dU rfl hok hcall rfl ⟨rfl,trivial⟩ fun H2 hle2=>aj (fun hb=>?_) (fun hb=>?_)))
  ·refine af ⟨?_,rfl⟩
   rw[hor,List.drop_eq_getElem_cons hlt,mJ,if_pos hb];rfl
  ·refine ab _ (aD (by have:=hr.lenB;omega)) (aN (by simp[Eqs,E]) hlt ⟨rfl,Heap.le_trans hle hle2,?_⟩)
   rw[hor,List.drop_eq_getElem_cons hlt,mJ,if_neg (by rw[hb];simp)];rfl
 ·have hge:l.length≤i:=by simpa using hb
  refine af ⟨?_,rfl⟩
  rw[hor,List.drop_of_length_le hge];rfl
theorem ItsR.one {H:Heap} {O:Go.Sx.Own} {v:Value} {l:List It} (h:ItsR H O v l):v.oneCell'=true:=by
 obtain⟨_,h,_⟩:=h
 exact h.one
theorem ItsR.len {H:Heap} {O:Go.Sx.Own} {v:Value} {l:List It} (h:ItsR H O v l):al .len [v]=some (iV l.length):=by
 obtain⟨rows,h1,h2,_⟩:=h
 rw[h1.len,h2]
theorem kz {H:Heap} {O:Go.Sx.Own} {v fv:Value} {l:List It} {p:It→Bool} (h:ItsR H O v l) {f:FuncId} {caps:Array Value} (hf:fv=.func (.func f) #[] caps) (hok:mc PP f)
  (hp:∀ H',Heap.le H H'→∀ row x,ItR H' O row x→RetO PP f ([.agg row.toArray]++caps.toList) H' O (.bool (p x))):RetO PP cQ [v,fv] H O (.bool (l.any p)):=by
 have hone:fv.oneCell'=true:=by subst hf;rfl
 refine fj (vs:=[v,fv]) (by kernel_rfl) ⟨ItsR.one h,hone,trivial⟩ ?_
 simp only[cO]
 refine am (yc h hf hok hp) rfl ⟨rfl,trivial⟩ fun H1 _=>ab _ (eC _ _) (af ⟨?_,rfl⟩)
 rw[← vw p l 0 (by omega)]
theorem NZ {H:Heap} {O:Go.Sx.Own} {row:List Value} {x:It} (h:ItR H O row x):RetO PP qB [.agg row.toArray] H O (.bool (!vz x false)):=by
 have hf:=Re h false
 obtain⟨s,rfl,hs⟩:=h
 refine vk (vs:=[iV x.player,iV x.id,iV x.card,iV x.trig,s]) (by kernel_rfl) ⟨rfl,rfl,rfl,rfl,hs.one,trivial⟩ ?_
 simp only[qk]
 exact fun r0=>ae (am hf rfl ⟨rfl,trivial⟩ fun H1 _=>ab _ (aC _) (af ⟨rfl,rfl⟩))
theorem NY {H:Heap} {O:Go.Sx.Own} {row:List Value} {x:It} (h:ItR H O row x):RetO PP qA [.agg row.toArray] H O (.bool (!vz x true)):=by
 have hf:=Re h true
 obtain⟨s,rfl,hs⟩:=h
 refine vj (vs:=[iV x.player,iV x.id,iV x.card,iV x.trig,s]) (by kernel_rfl) ⟨rfl,rfl,rfl,rfl,hs.one,trivial⟩ ?_
 simp only[qj]
 exact fun r0=>ae (am hf rfl ⟨rfl,trivial⟩ fun H1 _=>ab _ (aC _) (af ⟨rfl,rfl⟩))
theorem ET {l:List Value} {i:Nat} {v:Value} (h:l[i]?=some v):al .aidx (iV i::l)=some v:=by
 have hlt:=(List.getElem?_eq_some_iff.1 h).1
 simp only[al,nO]
 rw[if_pos ⟨by omega,by omega⟩]
 simpa using h
theorem EE (a b c d m:Int) (H:Heap) (O:Go.Sx.Own):RetO PP nY [.agg #[iV a,iV b,iV c,iV d],iV m] H O (.bool ([a,b,c,d].all fun n=>ay n 0 m)):=by
 refine o5 (vs:=[iV a,iV b,iV c,iV d,iV m]) (by kernel_rfl) ⟨rfl,rfl,rfl,rfl,rfl,trivial⟩ ?_
 simp only[nS]
 refine fun r0=>ae (aY 4 (fun i H' O'=>O'=O∧([a,b,c,d].all fun n=>ay n 0 m)=(([a,b,c,d].drop i).all fun n=>ay n 0 m)) ⟨rfl,rfl⟩ ?_)
 rintro i H' O' hi - ⟨rfl,hor⟩
 refine ab _ (aG _ _) (aj (fun hb=>?_) (fun hb=>?_))
 ·have hlt:i < 4:=by have:=of_decide_eq_true hb;omega
  have hlt':i < [a,b,c,d].length:=hlt
  have hv:[iV a,iV b,iV c,iV d][i]?=some (iV [a,b,c,d][i]):=by
   have:[iV a,iV b,iV c,iV d]=[a,b,c,d].map iV:=rfl
   rw[this,List.getElem?_map,List.getElem?_eq_getElem hlt'];rfl
  refine ab _ (ET hv) (ab _ (aG _ _) (ai (ai (ab _ (bG _ _) (ai (ab _ (aO _ _) (aj (fun hb=>af ⟨?_,rfl⟩) (fun hb=>ab _ (aD (by omega)) (aN (by simp[Eqs,E]) hlt ⟨rfl,?_⟩)))))))))
  ·rw[hor,List.drop_eq_getElem_cons hlt',List.all_cons]
   have:ay [a,b,c,d][i] 0 m=false:=by simp[ay] at hb ⊢;omega
   rw[this];rfl
  ·rw[hor,List.drop_eq_getElem_cons hlt',List.all_cons]
   have:ay [a,b,c,d][i] 0 m=true:=by simp[ay] at hb ⊢;omega
   rw[this];rfl
 ·have:i=4:=by have:=of_decide_eq_false hb;omega
  subst this
  exact af ⟨by rw[hor];rfl,rfl⟩
theorem wx (a b c d:Int) (H:Heap) (O:Go.Sx.Own):RetO PP xr [.agg #[iV a,iV b,iV c,iV d]] H O (.bool ([a,b,c,d].all fun n=>ay n 0 99)):=by
 refine A4 (vs:=[iV a,iV b,iV c,iV d]) (by kernel_rfl) ⟨rfl,rfl,rfl,rfl,trivial⟩ ?_
 simp only[wP]
 exact fun r0=>ae (am (EE a b c d 99 H O) rfl ⟨rfl,trivial⟩ fun H1 _=>af ⟨rfl,rfl⟩)
def bF (o:Ob):Bool:=([o.power,o.tough,o.dmg,o.cnt,o.pp,o.pt].all fun n=>ay n 0 99) &&
 ((((((o.card == -1) || ((o.power == 0) && (o.tough == 0))) && decide (o.id ≥ 1)) && decide (o.id≤500)) && decide (o.card ≥ -1)) && decide (o.card < 400)) && ((o.owner == 0) || (o.owner == 1))
theorem BD (o:Ob) (H:Heap) (O:Go.Sx.Own):RetO PP rV [.agg o.row.toArray] H O (.bool (bF o)):=by
 refine xN (vs:=o.row) (by kernel_rfl) (by simp[Ob.row,Ones,Value.oneCell']) ?_
 simp only[rC]
 refine fun r0=>ae (ae (ae (ae (ae (ae (aY 6 (fun i H' O'=>O'=O∧([o.power,o.tough,o.dmg,o.cnt,o.pp,o.pt].all fun n=>ay n 0 99)=(([o.power,o.tough,o.dmg,o.cnt,o.pp,o.pt].drop i).all fun n=>ay n 0 99)) ⟨rfl,rfl⟩ ?_))))))
 rintro i H' O' hi - ⟨rfl,hor⟩
 refine ab _ (aG _ _) (aj (fun hb=>?_) (fun hb=>?_))
 ·have hlt:i < 6:=by have:=of_decide_eq_true hb;omega
  have hlt':i < [o.power,o.tough,o.dmg,o.cnt,o.pp,o.pt].length:=hlt
  have hv:[iV o.power,iV o.tough,iV o.dmg,iV o.cnt,iV o.pp,iV o.pt][i]?=some (iV [o.power,o.tough,o.dmg,o.cnt,o.pp,o.pt][i]):=by
   have:[iV o.power,iV o.tough,iV o.dmg,iV o.cnt,iV o.pp,iV o.pt]=[o.power,o.tough,o.dmg,o.cnt,o.pp,o.pt].map iV:=rfl
   rw[this,List.getElem?_map,List.getElem?_eq_getElem hlt'];rfl
  refine ab _ (ET hv) (ab _ (aG _ _) (ai (ab _ (bG _ _) (ai (ab _ (aO _ _) (aj (fun hb=>af ⟨?_,rfl⟩) (fun hb=>ab _ (aD (by omega)) (aN (by simp[Eqs,E]) hlt ⟨rfl,?_⟩))))))))
  ·have hf:([o.power,o.tough,o.dmg,o.cnt,o.pp,o.pt].all fun n=>ay n 0 99)=false:=by
    rw[hor,List.drop_eq_getElem_cons hlt',List.all_cons]
    have:ay [o.power,o.tough,o.dmg,o.cnt,o.pp,o.pt][i] 0 99=false:=by simp[ay] at hb ⊢;omega
    rw[this];rfl
   unfold bF;rw[hf];rfl
  ·rw[hor,List.drop_eq_getElem_cons hlt',List.all_cons]
   have:ay [o.power,o.tough,o.dmg,o.cnt,o.pp,o.pt][i] 0 99=true:=by simp[ay] at hb ⊢;omega
   rw[this];rfl
 ·have:i=6:=by have:=of_decide_eq_false hb;omega
  subst this
  repeat (first | refine ae ?_ | refine ai ?_ | refine ah fun _=>?_ | refine ab _ (aG _ _) ?_ | refine ab _ (bG _ _) ?_ | refine ab _ (rh _ _) ?_ | refine ab _ (eC _ _) ?_ | refine ab _ (aw _ _) ?_ | refine ab _ (fx _ _) ?_ | refine ab _ (bu _ _) ?_ | refine ab _ (aO _ _) ?_ | refine ab _ (aC _) ?_ | refine ab _ (Oh _ _) ?_ | refine ab _ (Of _ _) ?_)
  refine af ⟨?_,rfl⟩
  have hall:([o.power,o.tough,o.dmg,o.cnt,o.pp,o.pt].all fun n=>ay n 0 99)=true:=by rw[hor];rfl
  unfold bF;rw[hall,Bool.true_and]
theorem tK {P:Program} {gd:Gd} {op:PrimOp} {args:List Value} {k:Value→Tree} {H:Heap} {O:Go.Sx.Own} {Q:Value→Heap→Go.Sx.Own→Prop} {v:Value} (h:RQ P op args=some v) (hk:(k v).den P Q H O) :
  (Tree.raw gd op args k).den P Q H O:=⟨v,fun _ w=>(yi h w).1,(yi h default).2,hk⟩
theorem IT {H:Heap} {O:Go.Sx.Own} {vl vh vf vg:Value} {s:St} (h:StR H O vl vh vf vg s):vl.oneCell'=true∧vh.oneCell'=true∧vf.oneCell'=true∧vg.oneCell'=true:=⟨h.lib.one,h.hand.one,h.field.one,h.grave.one⟩
theorem ap {H:Heap} {O:Go.Sx.Own} {v:cI} {b:Bd} (h:BdR H O v b):Ones (ao v b):=by
 obtain⟨a1,a2,a3,a4⟩:=IT h.s0
 obtain⟨b1,b2,b3,b4⟩:=IT h.s1
 exact⟨h.objs.one,rfl,rfl,rfl,rfl,rfl,a1,a2,a3,a4,rfl,rfl,rfl,rfl,rfl,rfl,rfl,rfl,rfl,rfl,b1,b2,b3,b4,rfl,rfl,rfl,rfl,rfl,ItsR.one h.stack,ItsR.one h.queue,h.att.one,h.blocks.one,rfl,rfl,rfl,rfl,rfl,trivial⟩
theorem aK:∀ {a b:List Value},Ones a→Ones b→Ones (a++b)
 | [],_,_,h=>h
 | _::_,_,h,h'=>⟨h.1,aK h.2 h'⟩
abbrev IX (n:Nat) (R:Nat→List Value→Heap→Go.Sx.Own→Prop):List Value→Heap→Go.Sx.Own→Prop:=fun vs H O=>∃ (i:Nat) (xs:List Value),vs=iV i::xs∧i≤n∧R i xs H O
abbrev MX (n:Nat):List Value→Heap→Go.Sx.Own→Nat:=fun vs _ _=>match g vs 0 with | .int _ k=>n - k.toNat | _=>0
theorem qP {P:Program} {lab key:Nat} {init:List Value} {body:(List Value→Heap→Go.Sx.Own→Prop)→List Value→Tree} {H:Heap} {O:Go.Sx.Own} {Q:Value→Heap→Go.Sx.Own→Prop} (n:Nat) (R:Nat→List Value→Heap→Go.Sx.Own→Prop)
  (h0:R 0 init H O) (step:∀ i xs H' O',i≤n→xs.length=init.length→Ones xs→Heap.le H H'→R i xs H' O'→(body (K5 (IX n R) (MX n) (n - i)) (iV i::xs)).den P Q H' O') :
  (Tree.loop lab key (iV 0::init) body).den P Q H O:=by
 refine dG (IX n R) (MX n) ⟨0,init,rfl,Nat.zero_le _,h0⟩ ?_
 rintro vs H' O' hl ho hle ⟨i,xs,rfl,hi,hr⟩
 exact step i xs H' O' hi (by simpa using hl) ho.2 hle hr
theorem kq {P:Program} {lab n i:Nat} {R:Nat→List Value→Heap→Go.Sx.Own→Prop} {xs:List Value} {eqs:List (List Value × List Value)} {H:Heap} {O:Go.Sx.Own} {Q:Value→Heap→Go.Sx.Own→Prop} (he:Eqs eqs) (hi:i < n) (hr:R (i + 1) xs H O) :
  (Tree.cont lab (K5 (IX n R) (MX n) (n - i)) (iV ((i + 1:Nat):Int)::xs) eqs).den P Q H O:=by
 refine cU he ⟨i + 1,xs,rfl,hi,hr⟩ ?_
 show n - ((i + 1:Nat):Int).toNat < n - i
 simp;omega
theorem qJ {P:Program} {v:Value} {H:Heap} {O:Go.Sx.Own} {Q:Value→Heap→Go.Sx.Own→Prop} (h:Q v H []):(Tree.ret v []).den P Q H O:=fun _=>⟨H,[],Ghost.drop _ _,h⟩
theorem Sl.block1 {H:Heap} {r size:Nat} {row:List Value} {T:TypeId} (h:H r=some (.cells row.toArray T (0,0))) (hl:row.length=size) (ho:Ones row):Sl H size (.slice (some ⟨r,0,none⟩) 1 1) [row]:=by
 refine⟨_,_,rfl,Nat.le_refl _,by simp,fun _=>⟨_,rfl,?_⟩⟩
 intro i x hx
 cases i with
 | succ i=>simp at hx
 | zero =>
  simp at hx
  subst hx
  refine⟨?_,hl,ho⟩
  rw[bK,Nat.zero_mul,Nat.add_zero,j5 h (by omega)]
  simp[← hl]
def oN (id c ow:Int):Ob:=⟨id,c,ow,0,0,0,0,0,0,false,false,false⟩
theorem ww (id c ow:Int) (H:Heap) (O:Go.Sx.Own):RetO PP xn [iV id,iV c,iV ow] H O (.agg (oN id c ow).row.toArray):=by
 refine AZ (vs:=[iV id,iV c,iV ow]) (by kernel_rfl) ⟨rfl,rfl,rfl,trivial⟩ ?_
 simp only[wN]
 exact fun r0=>ae (ae (af ⟨rfl,rfl⟩))
def dK (k:Nat) (l:List Int) (ow:Int):List Ob:=l.mapIdx fun i c=>oN ((k + i + 1:Nat):Int) c ow
theorem eR (k:Nat) (l:List Int) (ow:Int):(dK k l ow).length=l.length:=by simp[dK]
theorem t6 {k:Nat} {l:List Int} {ow:Int} {i:Nat} (h:i < l.length):(dK k l ow).take (i + 1)=(dK k l ow).take i++[oN ((k + i + 1:Nat):Int) l[i] ow]:=by
 rw[List.take_add_one]
 congr 1
 simp[dK,h]
def zSt (life:Int) (lib:List Int):St:=⟨life,0,0,0,0,lib,[],[],[],false,false,false,0,0⟩
def zBd:Bd:=⟨[],zSt 0 [],zSt 0 [],[],[],[],[],0,0,0,0,0⟩
def vp (life:Int) (a c:List Int):Bd:=⟨dK 0 a 0++dK a.length c 1,zSt life ((dK 0 a 0).map (·.id)),zSt life ((dK a.length c 1).map (·.id)),[],[],[],[],0,0,0,-1,0⟩
def vo (life:Int) (a c:List Int):Bool:=(decide (1≤life∧life≤9999) && decide (a.length + c.length≤500)) && ((a++c).all fun x=>decide (0≤x∧x≤399))
def QZ (life:Int) (a c:List Int):Bd × Int:=if vo life a c then (vp life a c,0) else (zBd,2)
abbrev oi:Value:=.slice none 0 0
def QX:cI:=⟨oi,oi,oi,oi,oi,oi,oi,oi,oi,oi,oi,oi,oi⟩
theorem yn (H:Heap):ItsS H oi []:=⟨[],Sl.nil H 5,rfl,fun i r x h=>by simp at h⟩
theorem Vg (H:Heap):BdS H QX zBd :=
 ⟨Sl.nil _ _,⟨Sl.nil _ _,Sl.nil _ _,Sl.nil _ _,Sl.nil _ _⟩,⟨Sl.nil _ _,Sl.nil _ _,Sl.nil _ _,Sl.nil _ _⟩,yn _,yn _,Sl.nil _ _,Sl.nil _ _⟩
def VX (life:Int) (a c:List Int) (v:Value) (H':Heap) (O':Go.Sx.Own):Prop :=
 O'=[]∧∃ w,v=.tuple #[.agg (ao w (QZ life a c).1).toArray,iV (QZ life a c).2]∧BdS H' w (QZ life a c).1
theorem HI {life:Int} {a c:List Int} (h:vo life a c=false) (H:Heap):VX life a c (.tuple #[.agg (ao QX zBd).toArray,iV 2]) H []:=by
 refine⟨rfl,QX,?_,?_⟩
 ·simp only[QZ,h];rfl
 ·simp only[QZ,h];exact Vg H
theorem Po {life:Int} {a c:List Int} (h:vo life a c=true) {H:Heap} {o l0 l1:Value} {O O1 O2 O3:Go.Sx.Own} (hO:O.Perm (O1++(O2++O3))) (ho:OSl di 12 o ((dK 0 a 0++dK a.length c 1).map Ob.row) O1)
  (hl:OSl aQ 1 l0 (aJ ((dK 0 a 0).map (·.id))) O2) (hm:OSl aQ 1 l1 (aJ ((dK a.length c 1).map (·.id))) O3) {P:Program} :
  (Tree.ret (.tuple #[.agg (ao ⟨o,l0,oi,oi,oi,l1,oi,oi,oi,oi,oi,oi,oi⟩ (vp life a c)).toArray,iV 0]) []).den P (VX life a c) H O:=by
 intro hc0
 have hc:Cons H (O1++(O2++O3)):=let ⟨w,F,hm⟩:=hc0;⟨w,F,hm.perm (hO.append_right F)⟩
 obtain⟨H1,g1,s1,le1⟩:=ho.freeze hc
 have hc1:Cons H1 (O2++O3):=let ⟨w,F,hm⟩:=hc;⟨w,F,(g1 w F hm).1⟩
 obtain⟨H2,g2,s2,l2⟩:=hl.freeze hc1
 have hc2:Cons H2 (O3++[]):=by
  obtain⟨w,F,hm⟩:=hc1
  exact⟨w,F,by rw[List.append_nil];exact (g2 w F hm).1⟩
 obtain⟨H3,g3,s3,l3⟩:=hm.freeze hc2
 rw[List.append_nil] at g3
 refine⟨H3,[],(Ghost.perm hO).trans (g1.trans (g2.trans g3)),rfl,⟨o,l0,oi,oi,oi,l1,oi,oi,oi,oi,oi,oi,oi⟩,?_,?_⟩
 ·simp only[QZ,h];rfl
 ·simp only[QZ,h,if_true]
  exact⟨(s1.le l2).le l3,⟨s2.le l3,Sl.nil _ _,Sl.nil _ _,Sl.nil _ _⟩,⟨s3,Sl.nil _ _,Sl.nil _ _,Sl.nil _ _⟩,yn _,yn _,Sl.nil _ _,Sl.nil _ _⟩
theorem zy (l:List Int) (x:Int):aJ l++[[iV x]]=aJ (l++[x]):=by simp[aJ]
theorem FX {life:Int} {a c:List Int} {i:Nat} (h:i < (a++c).length) (hx:¬ (0≤(a++c)[i]∧(a++c)[i]≤399)):vo life a c=false:=by
 unfold vo
 have:((a++c).all fun x=>decide (0≤x∧x≤399))=false:=by
  rw[Bool.eq_false_iff]
  intro hall
  have:=List.all_eq_true.1 hall _ (List.getElem_mem h)
  exact hx (by simpa using this)
 rw[this,Bool.and_false]
theorem JD {l:List Int} {i:Nat} (h:i < l.length) (h1:∀ x ∈ l.take i,0≤x∧x≤399) (h2:0≤l[i]∧l[i]≤399):∀ x ∈ l.take (i + 1),0≤x∧x≤399:=by
 intro x hx
 rw[List.take_add_one,List.getElem?_eq_getElem h] at hx
 rcases List.mem_append.1 hx with hx | hx
 ·exact h1 x hx
 ·simp at hx;subst hx;exact h2
theorem VN {H:Heap} {va vc:Value} (life:Int) {a c:List Int} (ha:Sl H 1 va (aJ a)) (hc:Sl H 1 vc (aJ c)) (hla:a.length≤1000) (hlc:c.length≤1000) :
  Triple PP AM [iV life,.agg #[va,vc]] H [] (VX life a c):=by
 refine DK (vs:=[iV life,va,vc]) (by kernel_rfl) ⟨rfl,ha.one,hc.one,trivial⟩ ?_
 simp only[Aw]
 have la:=ha.len
 have lc:=hc.len
 rw[aJ,List.length_map] at la lc
 refine ah fun r0=>ah fun r1=>am (cd life 1 9999 H []) rfl ⟨rfl,trivial⟩ fun H1 l1=>ab _ (aC _) ?_
 replace ha:=ha.le l1
 replace hc:=hc.le l1
 repeat (first | refine ae ?_ | refine ai ?_ | refine ab _ la ?_ | refine ab _ lc ?_ | refine ab _ (EU (by omega)) ?_ | refine ab _ (bG _ _) ?_ | refine ab _ (aO _ _) ?_)
 refine aj (fun hb=>ae (ae (af (HI ?_ H1)))) (fun hb=>?_)
 ·unfold vo
  simp only[Bool.or_eq_true,Bool.not_eq_true',decide_eq_false_iff_not,decide_eq_true_eq] at hb
  rcases hb with hb | hb
  ·simp only[hb,decide_false,Bool.false_and]
  ·have:¬ (a.length + c.length≤500):=by omega
   simp only[this,decide_false,Bool.and_false,Bool.false_and]
 simp only[Bool.or_eq_false_iff,Bool.not_eq_false',decide_eq_true_eq,decide_eq_false_iff_not] at hb
 obtain⟨hlife,hsum⟩:=hb
 have hsum:a.length + c.length≤500:=by omega
 refine ah fun r2=>ae (ae (ae (ab _ la ?_)))
 refine qP a.length (fun i xs H' O'=>∃ o l O1 O2,xs=[o,l,oi]∧O'.Perm (O1++O2)∧Heap.le H1 H'∧OSl di 12 o (((dK 0 a 0).take i).map Ob.row) O1∧OSl aQ 1 l (aJ (((dK 0 a 0).take i).map (·.id))) O2∧∀ x ∈ a.take i,0≤x∧x≤399)
  ⟨oi,oi,[],[],rfl,List.Perm.refl _,Heap.le_refl _,OSl.nil _ _,OSl.nil _ _,by simp⟩ ?_
 rintro i xs H2 O2' hi - - - ⟨o,l,O1,O2,rfl,hO,l2,ho,hl,hall⟩
 refine ab _ (aG _ _) (aj (fun hb=>?_) (fun hb=>?_))
 ·have hlt:i < a.length:=by simpa using hb
  obtain⟨p,h1,h2,h3,h4⟩:=(ha.le l2).idx (k:=.i64) (i:=i) (r:=[iV a[i]]) (by simp[aJ,hlt])
  refine ab _ h1 (nH h2 h3 h4 (am (cd a[i] 0 399 H2 O2') rfl ⟨rfl,trivial⟩ fun H3 l3=>ab _ (aC _) (aj (fun hb=>ae (ae (qJ (HI ?_ H3)))) (fun hb=>?_))))
  ·refine FX (i:=i) (by simp;omega) ?_
   rw[List.getElem_append_left hlt]
   rintro ⟨q1,q2⟩
   simp at hb
   omega
  ·have hin:0≤a[i]∧a[i]≤399:=by simpa using hb
   have lno:=ho.len
   rw[List.length_map,List.length_take,eR,Nat.min_eq_left (by omega)] at lno
   refine ae (ab _ lno (ab _ (aD (by omega)) (ae (am (ww _ _ _ H3 O2') rfl (by simp[oN,Ob.row,Ones,Value.oneCell']) fun H4 l4=>ah fun r3=>?_))))
   refine aH (rows:=((dK 0 a 0).take i).map Ob.row) (news:=[(oN ((i + 1:Nat):Int) a[i] 0).row]) (O1:=O1) (O2:=O2) (e:=di) (size:=12) (bytes:=80) (by kernel_rfl) hO ho
    (fun Hf _ hf=>Sl.block1 (hf _ List.mem_cons_self) rfl (by simp[oN,Ob.row,Ones,Value.oneCell'])) ?_ ?_ ?_
   ·simp[eR];omega
   ·simp[eR];omega
   intro o' O1' H5 l5 ho'
   refine ae (ae (ah fun r4=>?_))
   refine aH (rows:=aJ (((dK 0 a 0).take i).map (·.id))) (news:=[[iV ((i + 1:Nat):Int)]]) (O1:=O2) (O2:=O1') (e:=aQ) (size:=1) (bytes:=8) (by kernel_rfl) List.perm_append_comm hl
    (fun Hf _ hf=>Sl.block1 (hf _ List.mem_cons_self) rfl ⟨rfl,trivial⟩) ?_ ?_ ?_
   ·simp[aJ,eR];omega
   ·simp[aJ,eR];omega
   intro l' O2'' H6 l6 hl'
   refine ae (ab _ (aD (by omega)) (kq (by simp[Eqs,E]) hlt ⟨o',l',O1',O2'',rfl,List.perm_append_comm,?_,?_,?_,JD hlt hall hin⟩))
   ·exact Heap.le_trans l2 (Heap.le_trans l3 (Heap.le_trans l4 (Heap.le_trans l5 l6)))
   ·rw[t6 hlt,List.map_append,Nat.zero_add];exact ho'
   ·rw[t6 hlt,List.map_append,Nat.zero_add,zy] at *
    exact hl'
 ·have hie:i=a.length:=by simp at hb;omega
  subst hie
  rw[List.take_of_length_le (by rw[eR];exact Nat.le_refl _)] at ho hl
  rw[List.take_length] at hall
  refine ae (ab _ lc ?_)
  refine qP c.length (fun i xs H' O'=>∃ o m O1 O3,xs=[o,l,m]∧O'.Perm (O1++(O2++O3))∧Heap.le H2 H'∧OSl di 12 o ((dK 0 a 0++(dK a.length c 1).take i).map Ob.row) O1∧OSl aQ 1 m (aJ (((dK a.length c 1).take i).map (·.id))) O3∧∀ x ∈ c.take i,0≤x∧x≤399)
   ⟨o,oi,O1,[],rfl,by simpa using hO,Heap.le_refl _,by simpa using ho,OSl.nil _ _,by simp⟩ ?_
  rintro i xs H3 O3' hi - - - ⟨o,m,O1,O3,rfl,hO,l3,ho,hm,hallc⟩
  refine ab _ (aG _ _) (aj (fun hb=>?_) (fun hb=>?_))
  ·have hlt:i < c.length:=by simpa using hb
   obtain⟨p,h1,h2,h3,h4⟩:=((hc.le l2).le l3).idx (k:=.i64) (i:=i) (r:=[iV c[i]]) (by simp[aJ,hlt])
   refine ab _ h1 (nH h2 h3 h4 (am (cd c[i] 0 399 H3 O3') rfl ⟨rfl,trivial⟩ fun H4 l4=>ab _ (aC _) (aj (fun hb=>ae (ae (qJ (HI ?_ H4)))) (fun hb=>?_))))
   ·refine FX (i:=a.length + i) (by simp;omega) ?_
    rw[List.getElem_append_right (by omega)]
    rintro ⟨q1,q2⟩
    simp at hb q1 q2
    omega
   ·have hin:0≤c[i]∧c[i]≤399:=by simpa using hb
    have lno:=ho.len
    rw[List.length_map,List.length_append,List.length_take,eR,eR,Nat.min_eq_left (by omega)] at lno
    refine ae (ab _ lno (ab _ (aD (by omega)) (ae (am (ww _ _ _ H4 O3') rfl (by simp[oN,Ob.row,Ones,Value.oneCell']) fun H5 l5=>ah fun r5=>?_))))
    refine aH (rows:=(dK 0 a 0++(dK a.length c 1).take i).map Ob.row) (news:=[(oN ((a.length + i + 1:Nat):Int) c[i] 1).row]) (O1:=O1) (O2:=O2++O3) (e:=di) (size:=12) (bytes:=80) (by kernel_rfl) hO ho
     (fun Hf _ hf=>Sl.block1 (hf _ List.mem_cons_self) rfl (by simp[oN,Ob.row,Ones,Value.oneCell'])) ?_ ?_ ?_
    ·simp[eR];omega
    ·simp[eR];omega
    intro o' O1' H6 l6 ho'
    refine ae (ae (ah fun r6=>?_))
    refine aH (rows:=aJ (((dK a.length c 1).take i).map (·.id))) (news:=[[iV ((a.length + i + 1:Nat):Int)]]) (O1:=O3) (O2:=O1'++O2) (e:=aQ) (size:=1) (bytes:=8) (by kernel_rfl)
     (by rw[← List.append_assoc];exact List.perm_append_comm) hm (fun Hf _ hf=>Sl.block1 (hf _ List.mem_cons_self) rfl ⟨rfl,trivial⟩) ?_ ?_ ?_
    ·simp[aJ,eR];omega
    ·simp[aJ,eR];omega
    intro m' O3'' H7 l7 hm'
    refine ae (ab _ (aD (by omega)) (kq (by simp[Eqs,E]) hlt ⟨o',m',O1',O3'',rfl,?_,?_,?_,?_,JD hlt hallc hin⟩))
    ·rw[← List.append_assoc O1'];exact List.perm_append_comm
    ·exact Heap.le_trans l3 (Heap.le_trans l4 (Heap.le_trans l5 (Heap.le_trans l6 l7)))
    ·rw[t6 hlt,← List.append_assoc,List.map_append];exact ho'
    ·rw[t6 hlt,List.map_append]
     rw[zy] at hm'
     exact hm'
  ·have hie:i=c.length:=by simp at hb;omega
   subst hie
   rw[List.take_of_length_le (by rw[eR];exact Nat.le_refl _)] at ho hm
   rw[List.take_length] at hallc
   refine ae (ae (ae (Po ?_ hO ho hl hm)))
   unfold vo
   simp only[Bool.and_eq_true,decide_eq_true_eq,List.all_eq_true]
   refine⟨⟨hlife,hsum⟩,fun x hx=>?_⟩
   rcases List.mem_append.1 hx with hx | hx
   ·exact hall x hx
   ·exact hallc x hx
end Go.Proofs.YteakpllehopodaaGreatDoor
