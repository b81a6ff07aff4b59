/- The arguments of BotNone and the words of the phases, out of the world. -/
import Derived.Test.YteakpllehopodaaGreatDoorG26
import Derived.Test.YteakpllehopodaaGreatDoorFw3
import Derived.Test.YteakpllehopodaaGreatDoorRows
import Derived.Test.YteakpllehopodaaGreatDoorTie
import Derived.Test.YteakpllehopodaaGreatDoorCards
import Derived.SevenTiedAt
import Derived.Carry
import Derived.Lay
import Derived.LaidMore
import Derived.ProofKit
import Derived.Stop.Joined
import Derived.Lib.LaidTab
import Derived.Shelf.Vars
namespace Go.Proofs.YteakpllehopodaaGreatDoor
open Go Go.Sx Go.ChangeShapes Go.WideShapes Go.ChangeAt Go.RowKit
set_option maxRecDepth 100000
set_option maxHeartbeats 1000000
theorem Wn:ownKnob Tryz.prog.godebug=none:=by kernel_rfl
theorem PS:laidOutB Tryz.prog=true:=by kernel_rfl
theorem V4:gk Tryz.prog=true:=by kernel_rfl
abbrev zw:List (String × DataW Unit):=[("math/bits.deBruijn64tab",Rows.laid_math_bits_deBruijn64tab),("unicode/utf8.acceptRanges",Rows.laid_unicode_utf8_acceptRanges),("zeitnot/turn.words",Rows.laid_zeitnot_turn_words),("unicode/utf8.first",Rows.laid_unicode_utf8_first)]
theorem Jk {P:Program} {w:World} {n:String} {d:DataW Unit}:∀ {l:List (String × DataW Unit)} {ps:List MemPlace},DataW.LaidVars P w l ps→(n,d) ∈ l →
  ∃ g t cs fuel p,P.globalNamed n=some g∧(P.globals[g]?).map (·.type)=some t∧w.var? P n=some cs∧DataW.trod (fun _=>()) P w 0 (fun _=>true) false fuel t cs.toList=some (d,p)
 | [],_,_,h=>by cases h
 | (n',d')::l,ps,h,hm=>by
  obtain⟨g,t,cs,fuel,p,q,h1,h2,h3,h4,h5,_⟩:=h
  rcases List.mem_cons.1 hm with e | hm
  ·cases e;exact⟨g,t,cs,fuel,p,h1,h2,h3,h4⟩
  ·exact Jk h5 hm
theorem E7 {X:Type} {enc:TypeId × Value→X} {P:Program} {w:World} {base:Nat} {sp:Nat→Bool} {held:Bool} {fuel:Nat} {t e:TypeId} {n:Nat} {cs:List Value} {ds:List (DataW X)} {p:List MemPlace}
  (ht:P.underlying t=some (.array n e)) (he:P.underlying e=some .string) (hce:P.cellsOf e=1) (h:DataW.trod enc P w base sp held fuel t cs=some (.agg ds,p)) :
  ∀ i,i < n→∃ s:ByteArray,cs[i]?=some (.string s)∧ds[i]?=some (.lit (.string s.data.toList)):=by
 cases fuel with
 | zero=>simp[DataW.trod] at h
 | succ fuel =>
  simp only[DataW.trod,ht,hce,Nat.mul_one] at h
  split at h
  ·obtain⟨xs,hm,hx⟩:=Option.map_eq_some_iff.1 h
   have hxs:xs.map (·.1)=ds:=by
    have:=congrArg Prod.fst hx
    simpa using this
   intro i hi
   obtain⟨b,hb,hf⟩:=Go.Lib.mapM_at hm i i (by simp[hi])
   cases fuel with
   | zero=>simp[DataW.trod] at hf
   | succ fuel =>
    have hl:((cs.drop i).take 1).length≤1:=by simp;omega
    obtain⟨s,hs⟩:∃ s:ByteArray,(cs.drop i).take 1=[.string s]:=by
     unfold DataW.trod at hf
     rw[he] at hf
     generalize (cs.drop i).take 1=c1 at hf
     split at hf <;> simp_all
    rw[hs] at hf
    simp only[DataW.trod,he] at hf
    split at hf
    ·have hbv:b=(.lit (.string s.data.toList),[]):=(Option.some.inj hf).symm
     refine⟨s,?_,?_⟩
     ·have:=congrArg (·[0]?) hs
      simpa [List.getElem?_take,List.getElem?_drop] using this
     ·rw[← hxs,List.getElem?_map,hb,hbv];rfl
    ·cases hf
  ·cases h
def wordsL:List (List UInt8):=[[115,101,116,117,112],[117,110,116,97,112],[117,112,107,101,101,112],[100,114,97,119],[109,97,105,110],[97,116,116,97,99,107],[98,108,111,99,107],[102,105,103,104,116],[100,97,109,97,103,101],[115,101,99,111,110,100],[101,110,100]]
theorem OF:∀ i,i < 11→wordsL.getD i [] ≠ []:=by decide
theorem JH:(Rows.laid_zeitnot_turn_words:DataW Unit)=.agg (wordsL.map fun w=>.lit (.string w)):=rfl
theorem Rz (s:ByteArray):(Value.string s)=Str s.data.toList:=by
 obtain⟨d⟩:=s
 rfl
theorem Vi {W:World} (h:laidMetH Tryz.prog zw W):Wd (we W):=by
 rw[MakeChecks.laidMetH_plain _ _ _ (by kernel_rfl)] at h
 obtain⟨ps,hl,_,_⟩:=h
 obtain⟨g,t,cs,fuel,p,h1,h2,h3,h4⟩:=Jk (n:= "zeitnot/turn.words") (d:=Rows.laid_zeitnot_turn_words) hl (by simp)
 obtain rfl:=Option.some.inj ((show Tryz.prog.globalNamed "zeitnot/turn.words"=some 0 by kernel_rfl).symm.trans h1)
 obtain rfl:=Option.some.inj ((show (Tryz.prog.globals[0]?).map (·.type)=some 295 by kernel_rfl).symm.trans h2)
 rw[JH] at h4
 have hk:=E7 (n:=11) (e:=9) (by kernel_rfl) (by kernel_rfl) (by kernel_rfl) h4
 refine⟨fun i=>wordsL.getD i [],fun i hi=>⟨OF i hi,?_⟩⟩
 obtain⟨s,h5,h6⟩:=hk i hi
 rw[List.getElem?_map,Option.map_eq_some_iff] at h6
 obtain⟨w,hw,he⟩:=h6
 have he:w=s.data.toList:=by simpa using he
 have hd:wordsL.getD i []=s.data.toList:=by rw[List.getD_eq_getElem?_getD,hw,he];rfl
 have hc:W.cell? ⟨0,i,none⟩=some (.string s):=by
  rw[World.var?_cell h1 h3 i,← h5,Array.getElem?_toList]
 have hr:=JW (g:=0) (cs:=cs.toList) (H:=we W) (off:=i) (m:=1) (fun j v hj=>by rw[Ib,World.var?_cell h1 h3 j,← hj,Array.getElem?_toList]) (by
  have:=(List.getElem?_eq_some_iff.1 h5).1
  omega)
 have hlt:=(List.getElem?_eq_some_iff.1 h5).1
 show _=some [Str (wordsL.getD i [])]
 rw[hr,hd,← Rz,List.drop_eq_getElem_cons hlt,List.take_succ_cons,List.take_zero,(List.getElem?_eq_some_iff.1 h5).2]
theorem Ut {r:List Value} {i:Nat} {c:Value} (h:r[i]?=some c):c=g r i:=by rw[Ns h]
theorem cF {H:Heap} {k:Nat} {t:TypeId} {ds:List Value} {ls:List TypeId} {n:Nat} (hl:lh PP n t=some ls) (hw:Wf PP H k t ds) (i:Nat) (l:TypeId) (hi:ls[i]?=some l):Leaf PP H l (g ds i):=by
 obtain⟨c,h1,h2⟩:=ym hl hw i l hi
 rw[← Ut h1];exact h2
theorem cX {H:Heap} {c:Value} (h:Leaf PP H 3 c):∃ x,c=iV x:=let ⟨x,e,_⟩:=h.int Tryz.underlying3;⟨x,e⟩
theorem Ds {H:Heap} {size:Nat} {v:Value} {rows:List (List Value)} (h:Sl H size v rows) {r:List Value} (hr:r ∈ rows):r.length=size:=by
 obtain⟨i,hlt,rfl⟩:=List.getElem_of_mem hr
 obtain⟨_,_,_,h3,_⟩:=h.idx (k:=.i64) (List.getElem?_eq_getElem hlt)
 exact h3
theorem ML {α:Type} {f:α→List Value}:∀ {rows:List (List Value)},(∀ r ∈ rows,∃ x,r=f x)→∃ l:List α,rows=l.map f
 | [],_=>⟨[],rfl⟩
 | r::rs,h=>by
  obtain⟨l,hl⟩:=ML (rows:=rs) fun x hx=>h x (by simp[hx])
  obtain⟨x,rfl⟩:=h r (by simp)
  exact⟨x::l,by rw[hl];rfl⟩
theorem qK {α:Type} {R:List Value→α→Prop}:∀ {rows:List (List Value)},(∀ r ∈ rows,∃ x,R r x)→∃ l:List α,rows.length=l.length∧∀ (i:Nat) (r:List Value) (x:α),rows[i]?=some r→l[i]?=some x→R r x
 | [],_=>⟨[],rfl,fun i r k h=>by simp at h⟩
 | r::rs,key=>by
  obtain⟨ks,e1,e2⟩:=qK (rows:=rs) fun x hx=>key x (by simp[hx])
  obtain⟨k,e3⟩:=key r (by simp)
  refine⟨k::ks,by simp[e1],fun i r' k' f1 f2=>?_⟩
  cases i with
  | zero=>simp at f1 f2;subst f1;subst f2;exact e3
  | succ i=>exact e2 i r' k' (by simpa using f1) (by simpa using f2)
theorem BP {H:Heap} {v:Value} (h:Leaf PP H 25 v):∃ l,Sl H 1 v (aJ l):=by
 obtain⟨rows,hs,n,hw⟩:=h.slice Tryz.underlying25
 have hc:PP.cellsOf 3=1:=by kernel_rfl
 rw[hc] at hs
 obtain⟨l,rfl⟩:=Le Tryz.underlying3 hw
 exact⟨l,hs⟩
theorem LQ {H:Heap} {v:Value} (h:Leaf PP H 27 v):∃ l:List Nat,Sl H 1 v (l.map fun n=>[uV n])∧∀ n ∈ l,n < 2 ^ 64:=by
 obtain⟨rows,hs,n,hw⟩:=h.slice Tryz.underlying27
 have hc:PP.cellsOf 335=1:=by kernel_rfl
 rw[hc] at hs
 obtain⟨l,e1,e2⟩:=qK (R:=fun r (n:Nat)=>r=[uV n]∧n < 2 ^ 64) (rows:=rows) fun r hr=>by
  have hl:=Ds hs hr
  match r,hl with
  | [c],_ =>
   obtain⟨x,e,b1,b2⟩:=Leaf.int (P:=PP) (H:=H) (c:=c) Tryz.underlying335 ⟨n,hw _ hr⟩
   have k1:(0:Int)≤x:=b1
   have k2:x≤18446744073709551615:=b2
   refine⟨x.toNat,?_,by omega⟩
   rw[e]
   show [Value.int .u64 x]=[Value.int .u64 ((x.toNat:Nat):Int)]
   rw[Int.toNat_of_nonneg k1]
 have hr:rows=l.map fun n=>[uV n]:=by
  apply List.ext_getElem? 
  intro i
  by_cases hi:i < rows.length
  ·have hl:i < l.length:=by omega
   rw[List.getElem?_map,List.getElem?_eq_getElem hi,List.getElem?_eq_getElem hl]
   exact congrArg some (e2 i _ _ (List.getElem?_eq_getElem hi) (List.getElem?_eq_getElem hl)).1
  ·rw[List.getElem?_eq_none (by omega),List.getElem?_eq_none (by rw[List.length_map];omega)]
 refine⟨l,hr ▸ hs,fun m hm=>?_⟩
 obtain⟨i,hi,rfl⟩:=List.getElem_of_mem hm
 have hlt:i < rows.length:=by omega
 exact (e2 i _ _ (List.getElem?_eq_getElem hlt) (List.getElem?_eq_getElem hi)).2
theorem mG:lh PP 5 205=some [203,156,3,3,85]:=by kernel_rfl
theorem FI {H:Heap} {v:Value} (h:Leaf PP H 87 v):∃ l,Sl H 5 v (fX l):=by
 obtain⟨rows,hs,n,hw⟩:=h.slice Tryz.underlying87
 have hc:PP.cellsOf 205=5:=by kernel_rfl
 rw[hc] at hs
 obtain⟨l,rfl⟩:=ML (f:=Eff.row) (rows:=rows) fun r hr=>by
  have hl:=Ds hs hr
  obtain⟨x0,e0,_⟩:=(cF mG (hw r hr) 0 _ rfl).int Tryz.underlying203
  obtain⟨x1,e1,_⟩:=(cF mG (hw r hr) 1 _ rfl).int Tryz.underlying156
  obtain⟨x2,e2⟩:=cX (cF mG (hw r hr) 2 3 rfl)
  obtain⟨x3,e3⟩:=cX (cF mG (hw r hr) 3 3 rfl)
  obtain⟨x4,e4,_⟩:=(cF mG (hw r hr) 4 _ rfl).int Tryz.underlying85
  match r,hl with
  | [_,_,_,_,_],_ =>
   refine⟨⟨x0,x1,x2,x3,x4⟩,?_⟩
   simp only[g,List.getD_cons_zero,List.getD_cons_succ] at e0 e1 e2 e3 e4
   rw[e0,e1,e2,e3,e4];rfl
 exact⟨l,hs⟩
theorem Gf:lh PP 5 209=some [207,87]:=by kernel_rfl
theorem LR {H:Heap} {v:Value} (h:Leaf PP H 88 v):∃ l,TrsF H v l:=by
 obtain⟨rows,hs,n,hw⟩:=h.slice Tryz.underlying88
 have hc:PP.cellsOf 209=2:=by kernel_rfl
 rw[hc] at hs
 obtain⟨l,e1,e2⟩:=qK (R:=fun r (t:Int × List Eff)=>TrR H r t) (rows:=rows) fun r hr=>by
  have hl:=Ds hs hr
  obtain⟨x0,e0,_⟩:=(cF Gf (hw r hr) 0 _ rfl).int Tryz.underlying207
  obtain⟨es,he⟩:=FI (cF Gf (hw r hr) 1 _ rfl)
  match r,hl with
  | [_,s],_ =>
   simp only[g,List.getD_cons_zero,List.getD_cons_succ] at e0 he
   exact⟨(x0,es),s,by rw[e0],he⟩
 exact⟨l,rows,hs,e1,e2⟩
theorem dR:lh PP 8 90=some [9,84,3,3,3,3,3,85,3,3,86,87,88,3]:=by kernel_rfl
theorem HE {H:Heap} {v:Value} (h:Leaf PP H 24 v):∃ cs,CardsF H v cs:=by
 obtain⟨rows,hs,n,hw⟩:=h.slice Tryz.underlying24
 have hc:PP.cellsOf 90=14:=by kernel_rfl
 rw[hc] at hs
 obtain⟨l,e1,e2⟩:=qK (R:=fun r (c:CdF)=>CdRF H r c) (rows:=rows) fun r hr=>by
  have hl:=Ds hs hr
  have hw:=hw r hr
  obtain⟨x0,e0,_⟩:=(cF dR hw 0 _ rfl).str Tryz.underlying9
  obtain⟨x1,e1,_⟩:=(cF dR hw 1 _ rfl).int Tryz.underlying84
  obtain⟨x2,e2⟩:=cX (cF dR hw 2 3 rfl)
  obtain⟨x3,e3⟩:=cX (cF dR hw 3 3 rfl)
  obtain⟨x4,e4⟩:=cX (cF dR hw 4 3 rfl)
  obtain⟨x5,e5⟩:=cX (cF dR hw 5 3 rfl)
  obtain⟨x6,e6⟩:=cX (cF dR hw 6 3 rfl)
  obtain⟨x7,e7,_⟩:=(cF dR hw 7 _ rfl).int Tryz.underlying85
  obtain⟨x8,e8⟩:=cX (cF dR hw 8 3 rfl)
  obtain⟨x9,e9⟩:=cX (cF dR hw 9 3 rfl)
  obtain⟨x10,e10,_⟩:=(cF dR hw 10 _ rfl).int Tryz.underlying86
  obtain⟨es,he⟩:=FI (cF dR hw 11 _ rfl)
  obtain⟨ts,ht⟩:=LR (cF dR hw 12 _ rfl)
  obtain⟨x13,e13⟩:=cX (cF dR hw 13 3 rfl)
  match r,hl with
  | [_,_,_,_,_,_,_,_,_,_,_,sv,tv,_],_ =>
   simp only[g,List.getD_cons_zero,List.getD_cons_succ] at e0 e1 e2 e3 e4 e5 e6 e7 e8 e9 e10 e13 he ht
   refine⟨⟨x0,x1,x2,x3,x4,x5,x6,x7,x8,x9,x10,es,ts,x13⟩,sv,tv,?_,he,ht⟩
   rw[e0,e1,e2,e3,e4,e5,e6,e7,e8,e9,e10,e13];rfl
 exact⟨l,rows,hs,e1,e2⟩
theorem PQ:lh PP 8 29=some [3,3,3,3,3,3,24,25,25,27]:=by kernel_rfl
theorem MS:lh PP 8 31=some [30,30]:=by kernel_rfl
theorem JV {H:Heap} {cs:List Value} (hlen:cs.length=10) (a:∀ i l,([3,3,3,3,3,3,24,25,25,27]:List TypeId)[i]?=some l→Leaf PP H l (g cs i)) :
  ∃ (c:Cf) (cv va vc lv:Value) (ks:List CdF) (x y:List Int) (l:List Nat),cs=cfC c++[cv,va,vc,lv]∧CardsF H cv ks∧Sl H 1 va (aJ x)∧Sl H 1 vc (aJ y)∧Sl H 1 lv (l.map fun n=>[uV n])∧∀ n ∈ l,n < 2 ^ 64:=by
 obtain⟨x0,e0⟩:=cX (a 0 3 rfl)
 obtain⟨x1,e1⟩:=cX (a 1 3 rfl)
 obtain⟨x2,e2⟩:=cX (a 2 3 rfl)
 obtain⟨x3,e3⟩:=cX (a 3 3 rfl)
 obtain⟨x4,e4⟩:=cX (a 4 3 rfl)
 obtain⟨x5,e5⟩:=cX (a 5 3 rfl)
 obtain⟨ks,hk⟩:=HE (a 6 24 rfl)
 obtain⟨x,hx⟩:=BP (a 7 25 rfl)
 obtain⟨y,hy⟩:=BP (a 8 25 rfl)
 obtain⟨l,hl,hl2⟩:=LQ (a 9 27 rfl)
 match cs,hlen with
 | [_,_,_,_,_,_,cv,va,vc,lv],_ =>
  simp only[g,List.getD_cons_zero,List.getD_cons_succ] at e0 e1 e2 e3 e4 e5 hk hx hy hl
  refine⟨⟨x0,x1,x2,x3,x4,x5⟩,cv,va,vc,lv,ks,x,y,l,?_,hk,hx,hy,hl,hl2⟩
  rw[e0,e1,e2,e3,e4,e5];rfl
theorem HD {H:Heap} {cs:List Value} (hlen:cs.length=2) (a:∀ i l,([30,30]:List TypeId)[i]?=some l→Leaf PP H l (g cs i)):∃ s0 s1:Int,cs=[iV s0,iV s1]:=by
 obtain⟨x0,e0,_⟩:=(a 0 _ rfl).int Tryz.underlying30
 obtain⟨x1,e1,_⟩:=(a 1 _ rfl).int Tryz.underlying30
 match cs,hlen with
 | [_,_],_ =>
  simp only[g,List.getD_cons_zero,List.getD_cons_succ] at e0 e1
  exact⟨x0,x1,by rw[e0,e1]⟩
end Go.Proofs.YteakpllehopodaaGreatDoor
