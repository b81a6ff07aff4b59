/- BoardTokens is true. -/
import Derived.Test.YtdhobpmnkfmcfaaGreatDoorC42
import Derived.Test.YtdhobpmnkfmcfaaGreatDoorC32
import Derived.Test.YtdhobpmnkfmcfaaGreatDoorC51
namespace Go.Proofs.YtdhobpmnkfmcfaaGreatDoor
open Go Go.Sx
set_option maxRecDepth 100000
set_option maxHeartbeats 1000000
end Go.Proofs.YtdhobpmnkfmcfaaGreatDoor
namespace Go.Proofs.YtdhobpmnkfmcfaaGreatDoor
open Go Go.Sx
set_option maxRecDepth 100000
set_option maxHeartbeats 1000000
def W7 (x:Bd) (r:Value) (H':Heap) (O':Own):Prop:=(∃ w,r=.agg (ao w x).toArray∧BdS H' w x)∧O'=[]
section
variable {cv:Value} {cs:List CdX} {v:dG} {b:Bd} (hv:ar b=true) (hB:bdB b) {p src most:Int} {e:Eff} {t:Tg} (hev:IP e=true) (hnb:¬ Ti cs b p e t) (hsum:∀ q,(aF b q).lib.length + (aF b q).hand.length≤1000000)
 {n r1 r2 r0 r3:Nat} {who:Int}
include hv hB hev hnb hsum
include hv hB hev hnb hsum
end
end Go.Proofs.YtdhobpmnkfmcfaaGreatDoor
namespace Go.Proofs.YtdhobpmnkfmcfaaGreatDoor
open Go Go.Sx
set_option maxRecDepth 100000
set_option maxHeartbeats 1000000
def Wy (x:Bd) (r:Value) (H':Heap) (O':Own):Prop:=(∃ w,r=.tuple #[.agg (ao w x).toArray,.bool true]∧BdS H' w x)∧O'=[]
end Go.Proofs.YtdhobpmnkfmcfaaGreatDoor
namespace Go.Proofs.YtdhobpmnkfmcfaaGreatDoor
open Go Go.Sx
set_option maxRecDepth 100000
set_option maxHeartbeats 1000000
def csP:List CdX:=[⟨2,[],[]⟩]
def ex0:Bd:=Uf 20 [0,0] [0]
def ex1:Bd:=(fG ex0 1 2).1
def ex2:Bd:=(fG ex1 2 1).1
def exB:Bd:=(fG ex2 3 2).1
theorem Po (H:Heap):Triple PP nS [] H [] fun r H' O'=>CardsX H' r csP∧O'=[]:=by
 refine tH (vs:=[]) (by kernel_rfl) trivial ?_
 simp only [jy]
 refine af fun r0=>?_
 refine Ov fun H' l hf=>⟨?_,rfl⟩
 refine ⟨_,Sl.block1 (hf _ List.mem_cons_self) rfl ⟨rfl,rfl,rfl,rfl,rfl,rfl,rfl,rfl,rfl,rfl,rfl,rfl,rfl,rfl,trivial⟩,rfl,fun i r c a b=>?_⟩
 cases i with
 | succ i=>simp [csP] at b
 | zero =>
  simp only [csP,List.getElem?_cons_zero,Option.some.injEq] at a b
  subst a;subst b
  exact ⟨rfl,Sl.nil _ _,[],Sl.nil _ _,rfl,fun i r l a=>by simp at a⟩
theorem pX (H:Heap):Triple PP kO [] H [] (W7 exB):=by
 refine pB (vs:=[]) (by kernel_rfl) trivial ?_
 simp only [fX]
 refine af fun r0=>af fun r1=>af fun r2=>?_
 refine UE (B:=[]) Uz fun Hf lf hf _=>⟨_,Wb 20 (a:=[0,0]) (c:=[0]) (Sl.block (cs:=[iV 0,iV 0]) (hf _ List.mem_cons_self) ⟨rfl,rfl,trivial⟩ rfl (by omega)) (Sl.block (cs:=[iV 0]) (hf _ (List.mem_cons_of_mem _ List.mem_cons_self)) ⟨rfl,trivial⟩ rfl (by omega)) (by simp) (by simp),?_⟩
 rintro _ H2 _ ⟨rfl,w,rfl,hb⟩ l2
 have enew:SO 20 [0,0] [0]=(ex0,0):=by kernel_rfl
 rw [enew] at hb ⊢
 have hb:BdS H2 w ex0:=hb
 refine ⟨ao w ex0++[iV 0],rfl,aE (ap (hb.r [])) ⟨rfl,trivial⟩,?_⟩
 refine af fun r3=>?_
 refine ab (ab ?_)
 refine ax (Jv (o:=⟨1,0,0,0,0,0,0,0,0,false,false,false⟩) (k:=0) hb (by kernel_rfl) (Gh (by kernel_rfl)) (by kernel_rfl) 2 (by omega)) ?_
 rintro _ H3 _ ⟨⟨w3,rfl,hb3⟩,rfl⟩ l3
 have hb3:BdS H3 w3 ex1:=hb3
 refine ⟨ao w3 ex1,rfl,ap (hb3.r []),?_⟩
 refine ax (Jv (o:=⟨2,0,0,0,0,0,0,0,0,false,false,false⟩) (k:=1) hb3 (by kernel_rfl) (Gh (by kernel_rfl)) (by kernel_rfl) 1 (by omega)) ?_
 rintro _ H4 _ ⟨⟨w4,rfl,hb4⟩,rfl⟩ l4
 have hb4:BdS H4 w4 ex2:=hb4
 refine ⟨ao w4 ex2,rfl,ap (hb4.r []),?_⟩
 refine ax (Jv (o:=⟨3,0,1,0,0,0,0,0,0,false,false,false⟩) (k:=2) hb4 (by kernel_rfl) (Gh (by kernel_rfl)) (by kernel_rfl) 2 (by omega)) ?_
 rintro _ H5 _ ⟨⟨w5,rfl,hb5⟩,rfl⟩ l5
 have hb5:BdS H5 w5 exB:=hb5
 refine ⟨ao w5 exB,rfl,ap (hb5.r []),?_⟩
 refine ab (ab ?_)
 exact ah ⟨⟨w5,rfl,hb5⟩,rfl⟩
theorem UB:bdB exB:=Gh (by kernel_rfl)
theorem qN {H:Heap} (hgl:GlobOk Dz H) (p:Int) {src:Int} (e:Eff) (t:Tg) (most:Int) (hs:i64 src) {x:Bd} (hx:bZ csP exB p src e t most=(x,0)) (h3:decide ((x.objs.length:Int) ≥ 3)=true) :
  Triple PP mD [iV p,iV src,.agg e.row.toArray,.agg t.row.toArray,iV most] H [] (Wy x):=by
 refine sK (vs:=iV p::iV src::(e.row++(t.row++[iV most]))) (by kernel_rfl) ⟨rfl,rfl,aE (kY e) (aE (s8 t) ⟨rfl,trivial⟩)⟩ ?_
 simp only [iT]
 refine af fun r0=>af fun r1=>af fun r2=>?_
 refine ab (ab ?_)
 refine ax (Po H) ?_
 rintro cv H1 _ ⟨hk,rfl⟩ l1
 refine ⟨[cv],rfl,⟨hk.one,trivial⟩,?_⟩
 refine ax (pX H1) ?_
 rintro _ H2 _ ⟨⟨w2,rfl,h2⟩,rfl⟩ l2
 refine ⟨ao w2 exB,rfl,ap (h2.r []),?_⟩
 refine ax (Triple.frozen2 (GZ (hgl.le (Heap.le_trans l1 l2)) (hk.le l2) (by kernel_rfl) h2 UB p most hs e t)) ?_
 rw [hx]
 rintro _ H3 _ ⟨⟨w3,rfl,h3'⟩,rfl⟩ l3
 have h3':BdS H3 w3 x:=h3'
 refine ⟨ao w3 x++[iV 0],rfl,aE (ap (h3'.r [])) ⟨rfl,trivial⟩,af fun r3=>?_⟩
 have olen:ak .len [w3.o]=some (iV x.objs.length):=by have:=h3'.objs.len;rwa [List.length_map] at this
 refine ab (ab ?_)
 refine aa _ (aC _ _) ?_
 refine ab (ae (ae ?_))
 refine aa _ olen ?_
 refine ae ?_
 refine aa _ (dt _ _) ?_
 rw [h3]
 refine ae ?_
 refine aa _ (aU _ _) ?_
 refine ab (ab ?_)
 exact ah ⟨⟨w3,rfl,h3'⟩,rfl⟩
theorem QN {H:Heap} {cv:Value} {cs:List CdX} (hk:CardsX H cv cs) (hli:eQ (cs.map CdX.base)=true) {v:dG} {b:Bd} (h:BdS H v b) (hv:ar b=true) (hB:bdB b) (hst:b.stack=[]) (most:Int) :
  Triple PP yu [cv,.agg (ao v b).toArray,iV most] H [] fun r _ O'=>r=.tuple #[.agg (ao AP zBd).toArray,.agg #[iV 0,iV 0,iV 0,iV 0,.slice none 0 0],iV 9]∧O'=[]:=by
 refine BY (vs:=cv::(ao v b++[iV most])) (by kernel_rfl) ⟨hk.one,aE (ap (h.r [])) ⟨rfl,trivial⟩⟩ ?_
 simp only [rE]
 refine af fun r0=>af fun r1=>af fun r2=>?_
 refine ab ?_
 refine ai (VH hk hli h hv) rfl ⟨rfl,trivial⟩ fun H1 l1=>?_
 rw [Ie hst]
 have h:=h.le l1
 refine aa _ (ba _ _) (aj (fun hd=>by cases hd) (fun _=>?_))
 refine ab ?_
 have e1:Me b=(zBd,9):=by rw [Me,if_neg (by rw [hv];simp),if_pos hst]
 refine ax (Wp h hB) ?_
 rw [e1]
 rintro _ H2 O2 ⟨w,s,A,T,rfl,hp,ho,hs⟩ l2
 refine ⟨ao w zBd++([iV (MA b).player,iV (MA b).id,iV (MA b).card,iV (MA b).trig,s]++[iV 9]),rfl,aE (bM H2 ho) ⟨rfl,rfl,rfl,rfl,hs.one,rfl,trivial⟩,af fun r3=>?_⟩
 refine ab (ab ?_)
 refine aa _ (ba _ _) (aj (fun _=>?_) (fun hd=>by cases hd))
 refine ab (ab (ab (ab ?_)))
 exact uT ⟨rfl,rfl⟩
def xA:Bd:=(bZ csP exB 0 1 ⟨1,1,3,0,0⟩ ⟨3,0⟩ 9).1
def xB:Bd:=(bZ csP exB 0 1 ⟨1,4,20,0,0⟩ ⟨0,1⟩ 9).1
def xC:Bd:=(bZ csP exB 1 3 ⟨3,0,5,0,0⟩ ⟨0,0⟩ 9).1
def xD:Bd:=(bZ csP exB 0 1 ⟨6,3,0,0,0⟩ ⟨1,0⟩ 9).1
def xE:Bd:=(bZ csP exB 0 1 ⟨9,0,2,0,0⟩ ⟨0,0⟩ 9).1
def xF:Bd:=(bZ csP exB 0 2 ⟨9,0,2,0,0⟩ ⟨0,0⟩ 9).1
def xG:Bd:=(bZ csP exB 1 3 ⟨2,0,1,0,0⟩ ⟨0,0⟩ 9).1
def xH:Bd:=(bZ csP exB 0 1 ⟨10,0,1,1,0⟩ ⟨0,0⟩ 3).1
def xI:Bd:=(bZ csP exB 0 1 ⟨10,0,1,1,0⟩ ⟨0,0⟩ 4).1
theorem WU:bZ csP exB 0 1 ⟨1,1,3,0,0⟩ ⟨3,0⟩ 9=(xA,0):=Prod.ext rfl (by kernel_rfl)
theorem WT:bZ csP exB 0 1 ⟨1,4,20,0,0⟩ ⟨0,1⟩ 9=(xB,0):=Prod.ext rfl (by kernel_rfl)
theorem WS:bZ csP exB 1 3 ⟨3,0,5,0,0⟩ ⟨0,0⟩ 9=(xC,0):=Prod.ext rfl (by kernel_rfl)
theorem WR:bZ csP exB 0 1 ⟨6,3,0,0,0⟩ ⟨1,0⟩ 9=(xD,0):=Prod.ext rfl (by kernel_rfl)
theorem WQ:bZ csP exB 0 1 ⟨9,0,2,0,0⟩ ⟨0,0⟩ 9=(xE,0):=Prod.ext rfl (by kernel_rfl)
theorem WP:bZ csP exB 0 2 ⟨9,0,2,0,0⟩ ⟨0,0⟩ 9=(xF,0):=Prod.ext rfl (by kernel_rfl)
theorem WO:bZ csP exB 1 3 ⟨2,0,1,0,0⟩ ⟨0,0⟩ 9=(xG,0):=Prod.ext rfl (by kernel_rfl)
theorem WN:bZ csP exB 0 1 ⟨10,0,1,1,0⟩ ⟨0,0⟩ 3=(xH,0):=Prod.ext rfl (by kernel_rfl)
theorem WM:bZ csP exB 0 1 ⟨10,0,1,1,0⟩ ⟨0,0⟩ 4=(xI,0):=Prod.ext rfl (by kernel_rfl)
theorem V1:bZ csP exB 2 1 ⟨2,0,1,0,0⟩ ⟨0,0⟩ 9=(zBd,2):=by kernel_rfl
end Go.Proofs.YtdhobpmnkfmcfaaGreatDoor
namespace Go.Proofs.YtdhobpmnkfmcfaaGreatDoor
open Go Go.Sx
set_option maxRecDepth 100000
set_option maxHeartbeats 1000000
theorem OQ {H:Heap} {w:dG} {b:Bd} (h:BdS H w b) {k:Nat} {o:Ob} (hk:b.objs[k]?=some o):∃ a,ak (.idx 12) [w.o,iV k]=some (.pointer (some a))∧∀ off m,off + m≤12→Reads H [] (be (.pointer (some a)) off) m ((o.row.drop off).take m):=by
 obtain ⟨a,k1,_,k3,_⟩:=(h.objs.rsl ([]:Own)).idx .i64 k (Ob.row o) (by rw [List.getElem?_map,hk];rfl)
 exact ⟨a,k1,k3⟩
theorem Pq {H:Heap} (hgl:GlobOk Dz H):Triple PP iZ [] H [] fun r _ O'=>r=.bool true∧O'=[]:=by
 refine sJ (vs:=[]) (by kernel_rfl) trivial ?_
 simp only [iS]
 refine af fun r0=>?_
 refine ab ?_
 refine ax (qN hgl 0 (src:=1) ⟨1,1,3,0,0⟩ ⟨3,0⟩ 9 (by constructor <;> omega) WU (by kernel_rfl)) ?_
 rintro _ H1 _ ⟨⟨wA,rfl,hxA⟩,rfl⟩ l1
 have hxA:BdS H1 wA xA:=hxA
 have hgl:=hgl.le l1
 refine ⟨ao wA xA++[.bool true],rfl,aE (ap (hxA.r [])) ⟨rfl,trivial⟩,?_⟩
 refine af fun r1=>?_
 refine ab ?_
 refine aa _ (aJ _) ?_
 obtain ⟨a,i1,i2⟩:=OQ hxA (k:=2) (o:=(xA.objs.getD 2 zO)) (by kernel_rfl)
 refine ab (ae (ae ?_))
 refine ⟨.pointer (some a),fun _=>i1,.inr rfl,?_⟩
 refine aK rfl (ae (ae ?_))
 refine ⟨[iV 3],rfl,⟨rfl,trivial⟩,fun _=>i2 5 1 (by omega),?_⟩
 refine ae ?_
 refine aa _ (ba _ _) ?_
 refine ae ?_
 refine aa _ (aP _ _) (aj (fun hd=>by cases hd) (fun _=>?_))
 refine ax (qN hgl 0 (src:=1) ⟨1,4,20,0,0⟩ ⟨0,1⟩ 9 (by constructor <;> omega) WT (by kernel_rfl)) ?_
 rintro _ H2 _ ⟨⟨wB,rfl,hxB⟩,rfl⟩ l2
 have hxB:BdS H2 wB xB:=hxB
 have hgl:=hgl.le l2
 refine ⟨ao wB xB++[.bool true],rfl,aE (ap (hxB.r [])) ⟨rfl,trivial⟩,?_⟩
 refine ab (ab ?_)
 refine ax (qN hgl 1 (src:=3) ⟨3,0,5,0,0⟩ ⟨0,0⟩ 9 (by constructor <;> omega) WS (by kernel_rfl)) ?_
 rintro _ H3 _ ⟨⟨wC,rfl,hxC⟩,rfl⟩ l3
 have hxC:BdS H3 wC xC:=hxC
 have hgl:=hgl.le l3
 refine ⟨ao wC xC++[.bool true],rfl,aE (ap (hxC.r [])) ⟨rfl,trivial⟩,?_⟩
 refine af fun r2=>?_
 refine ab ?_
 refine aa _ (aJ _) ?_
 refine ae (ae (ab (ae (ae ?_))))
 refine aa _ (ba _ _) ?_
 refine ae ?_
 refine aa _ (aP _ _) ?_
 refine ae ?_
 refine aa _ (aJ _) ?_
 refine ae ?_
 refine aa _ (aP _ _) ?_
 refine ae (ae (ab (ae (ae ?_))))
 refine aa _ (ba _ _) ?_
 refine ae ?_
 refine aa _ (aP _ _) (aj (fun hd=>absurd (show ((((!true || (xB.s1.life != 0)) || !true) || (xC.s1.life != 25)))=true from hd) (by rw [show ((((!true || (xB.s1.life != 0)) || !true) || (xC.s1.life != 25)))=false from by kernel_rfl];simp)) (fun _=>?_))
 refine ax (qN hgl 0 (src:=1) ⟨6,3,0,0,0⟩ ⟨1,0⟩ 9 (by constructor <;> omega) WR (by kernel_rfl)) ?_
 rintro _ H4 _ ⟨⟨wD,rfl,hxD⟩,rfl⟩ l4
 have hxD:BdS H4 wD xD:=hxD
 have hgl:=hgl.le l4
 refine ⟨ao wD xD++[.bool true],rfl,aE (ap (hxD.r [])) ⟨rfl,trivial⟩,?_⟩
 refine ab (ab ?_)
 refine ax (qN hgl 0 (src:=1) ⟨9,0,2,0,0⟩ ⟨0,0⟩ 9 (by constructor <;> omega) WQ (by kernel_rfl)) ?_
 rintro _ H5 _ ⟨⟨wE,rfl,hxE⟩,rfl⟩ l5
 have hxE:BdS H5 wE xE:=hxE
 have hgl:=hgl.le l5
 refine ⟨ao wE xE++[.bool true],rfl,aE (ap (hxE.r [])) ⟨rfl,trivial⟩,?_⟩
 have hxD:=hxD.le l5
 refine ab ?_
 refine aa _ (aJ _) (aj (fun hd=>by cases hd) (fun _=>?_))
 refine ab ?_
 refine ax (pX _) ?_
 rintro _ H6 _ ⟨⟨v1,rfl,hx6⟩,rfl⟩ l6
 have hgl:=hgl.le l6
 refine ⟨ao v1 exB,rfl,ap (hx6.r []),?_⟩
 have hxD:=hxD.le l6
 have hxE:=hxE.le l6
 refine ai (KQ (hxD.r []) (hx6.r [])) rfl ⟨rfl,trivial⟩ fun H7 l7=>?_
 rw [show (xD == exB)=true from by kernel_rfl]
 have hxE:=hxE.le l7
 have hgl:=hgl.le l7
 refine aa _ (aJ _) ?_
 refine ae ?_
 refine aa _ (aJ _) ?_
 refine ae ?_
 refine aa _ (aP _ _) ?_
 obtain ⟨a2,j1,j2⟩:=OQ hxE (k:=0) (o:=(xE.objs.getD 0 zO)) (by kernel_rfl)
 refine ab (ae (ae ?_))
 refine ⟨.pointer (some a2),fun _=>j1,.inr rfl,?_⟩
 refine aK rfl (ae (ae ?_))
 refine ⟨[iV 2],rfl,⟨rfl,trivial⟩,fun _=>j2 6 1 (by omega),?_⟩
 refine ae ?_
 refine aa _ (ba _ _) ?_
 refine ae ?_
 refine aa _ (aP _ _) (aj (fun hd=>by cases hd) (fun _=>?_))
 refine ab ?_
 refine ax (qN hgl 0 (src:=2) ⟨9,0,2,0,0⟩ ⟨0,0⟩ 9 (by constructor <;> omega) WP (by kernel_rfl)) ?_
 rintro _ H8 _ ⟨⟨wF,rfl,hxF⟩,rfl⟩ l8
 have hxF:BdS H8 wF xF:=hxF
 have hgl:=hgl.le l8
 refine ⟨ao wF xF++[.bool true],rfl,aE (ap (hxF.r [])) ⟨rfl,trivial⟩,?_⟩
 refine ab (ab ?_)
 refine ax (qN hgl 1 (src:=3) ⟨2,0,1,0,0⟩ ⟨0,0⟩ 9 (by constructor <;> omega) WO (by kernel_rfl)) ?_
 rintro _ H9 _ ⟨⟨wG,rfl,hxG⟩,rfl⟩ l9
 have hxG:BdS H9 wG xG:=hxG
 have hgl:=hgl.le l9
 refine ⟨ao wG xG++[.bool true],rfl,aE (ap (hxG.r [])) ⟨rfl,trivial⟩,?_⟩
 have hxF:=hxF.le l9
 refine ab ?_
 refine aa _ (aJ _) (aj (fun hd=>by cases hd) (fun _=>?_))
 refine ab ?_
 refine ax (pX _) ?_
 rintro _ H10 _ ⟨⟨v2,rfl,hx10⟩,rfl⟩ l10
 have hgl:=hgl.le l10
 refine ⟨ao v2 exB,rfl,ap (hx10.r []),?_⟩
 have hxF:=hxF.le l10
 have hxG:=hxG.le l10
 refine ai (KQ (hxF.r []) (hx10.r [])) rfl ⟨rfl,trivial⟩ fun H11 l11=>?_
 rw [show (xF == exB)=true from by kernel_rfl]
 have hgl:=hgl.le l11
 refine aa _ (aJ _) ?_
 refine ae ?_
 refine aa _ (aJ _) ?_
 refine ae ?_
 refine aa _ (aP _ _) ?_
 refine ae (ae (ab (ae (ae ?_))))
 refine aa _ (aJ xG.s1.empty) ?_
 refine ae ?_
 refine aa _ (aP _ _) ?_
 refine ae (ae (ab (ae (ae ?_))))
 refine aa _ (aP _ xG.s0.empty) (aj (fun hd=>absurd (show ((((!true || !true) || !xG.s1.empty) || xG.s0.empty))=true from hd) (by rw [show ((((!true || !true) || !xG.s1.empty) || xG.s0.empty))=false from by kernel_rfl];simp)) (fun _=>?_))
 refine af fun r3=>?_
 refine ab (ab (ab ?_))
 refine ax (qN hgl 0 (src:=1) ⟨10,0,1,1,0⟩ ⟨0,0⟩ 3 (by constructor <;> omega) WN (by kernel_rfl)) ?_
 rintro _ H12 _ ⟨⟨wH,rfl,hxH⟩,rfl⟩ l12
 have hxH:BdS H12 wH xH:=hxH
 have hgl:=hgl.le l12
 refine ⟨ao wH xH++[.bool true],rfl,aE (ap (hxH.r [])) ⟨rfl,trivial⟩,?_⟩
 refine ab (ab (ab ?_))
 refine ax (qN hgl 0 (src:=1) ⟨10,0,1,1,0⟩ ⟨0,0⟩ 4 (by constructor <;> omega) WM (by kernel_rfl)) ?_
 rintro _ H13 _ ⟨⟨wI,rfl,hxI⟩,rfl⟩ l13
 have hxI:BdS H13 wI xI:=hxI
 have hgl:=hgl.le l13
 refine ⟨ao wI xI++[.bool true],rfl,aE (ap (hxI.r [])) ⟨rfl,trivial⟩,?_⟩
 have hxH:=hxH.le l13
 refine ab ?_
 refine aa _ (aJ _) (aj (fun hd=>by cases hd) (fun _=>?_))
 refine ab ?_
 refine ax (pX _) ?_
 rintro _ H14 _ ⟨⟨v3,rfl,hx14⟩,rfl⟩ l14
 have hgl:=hgl.le l14
 refine ⟨ao v3 exB,rfl,ap (hx14.r []),?_⟩
 have hxH:=hxH.le l14
 have hxI:=hxI.le l14
 refine ai (KQ (hxH.r []) (hx14.r [])) rfl ⟨rfl,trivial⟩ fun H15 l15=>?_
 rw [show (xH == exB)=true from by kernel_rfl]
 have hxI:=hxI.le l15
 have hgl:=hgl.le l15
 have olen:ak .len [wI.o]=some (iV 4):=by have:=hxI.objs.len;rw [List.length_map] at this;exact this.trans (by kernel_rfl)
 refine aa _ (aJ _) ?_
 refine ae ?_
 refine aa _ (aJ _) ?_
 refine ae ?_
 refine aa _ (aP _ _) ?_
 refine ab (ae (ae ?_))
 refine aa _ olen ?_
 refine ae ?_
 refine aa _ (ba _ _) ?_
 refine ae ?_
 refine aa _ (aP _ _) ?_
 obtain ⟨a3,k1,k2⟩:=OQ hxI (k:=3) (o:=(xI.objs.getD 3 zO)) (by kernel_rfl)
 refine ab (ae (ae ?_))
 refine ⟨.pointer (some a3),fun _=>k1,.inr rfl,?_⟩
 refine aK rfl (ae (ae ?_))
 refine ⟨[iV 4],rfl,⟨rfl,trivial⟩,fun _=>by have:=k2 0 1 (by omega);rw [U0] at this;exact this,?_⟩
 refine ae ?_
 refine aa _ (ba _ _) ?_
 refine ae ?_
 refine aa _ (aP _ _) ?_
 refine ab (ae (ae ?_))
 refine ⟨.pointer (some a3),fun _=>k1,.inr rfl,?_⟩
 refine aK rfl (ae (ae ?_))
 refine ⟨[iV (-1)],rfl,⟨rfl,trivial⟩,fun _=>k2 1 1 (by omega),?_⟩
 refine ae ?_
 refine aa _ (ba _ _) ?_
 refine ae ?_
 refine aa _ (aP _ _) (aj (fun hd=>by cases hd) (fun _=>?_))
 refine ax (Po _) ?_
 rintro cv H16 _ ⟨hk,rfl⟩ l16
 refine ⟨[cv],rfl,⟨hk.one,trivial⟩,?_⟩
 have hgl:=hgl.le l16
 refine ax (pX _) ?_
 rintro _ H17 _ ⟨⟨v4,rfl,hx17⟩,rfl⟩ l17
 have hgl:=hgl.le l17
 refine ⟨ao v4 exB,rfl,ap (hx17.r []),?_⟩
 refine ax (QN (hk.le l17) (by kernel_rfl) hx17 (by kernel_rfl) UB (by kernel_rfl) 9) ?_
 rintro _ H18 _ ⟨rfl,rfl⟩ l18
 have hgl:=hgl.le l18
 refine ⟨ao AP zBd++([iV 0,iV 0,iV 0,iV 0,.slice none 0 0]++[iV 9]),rfl,aE (ap ((Su H18).r [])) ⟨rfl,rfl,rfl,rfl,rfl,rfl,trivial⟩,af fun r4=>af fun r5=>?_⟩
 refine ab (ab (ab ?_))
 refine ax (Po _) ?_
 rintro cv2 H19 _ ⟨hk2,rfl⟩ l19
 refine ⟨[cv2],rfl,⟨hk2.one,trivial⟩,?_⟩
 have hgl:=hgl.le l19
 refine ax (pX _) ?_
 rintro _ H20 _ ⟨⟨v5,rfl,hx20⟩,rfl⟩ l20
 have hgl:=hgl.le l20
 refine ⟨ao v5 exB,rfl,ap (hx20.r []),?_⟩
 refine ax (Triple.frozen2 (GZ hgl (hk2.le l20) (by kernel_rfl) hx20 UB 2 (src:=1) 9 (by constructor <;> omega) ⟨2,0,1,0,0⟩ ⟨0,0⟩)) ?_
 rw [V1]
 rintro _ H21 _ ⟨⟨w21,rfl,h21⟩,rfl⟩ l21
 have h21:BdS H21 w21 zBd:=h21
 refine ⟨ao w21 zBd++[iV 2],rfl,aE (ap (h21.r [])) ⟨rfl,trivial⟩,af fun r6=>?_⟩
 refine ab ?_
 refine aa _ (aC _ _) ?_
 refine ae ?_
 refine aa _ (aC _ _) ?_
 refine ae ?_
 refine aa _ (aU _ _) ?_
 exact ah ⟨rfl,rfl⟩
end Go.Proofs.YtdhobpmnkfmcfaaGreatDoor
namespace Go.Proofs.YtdhobpmnkfmcfaaGreatDoor
open Go Go.Sx
set_option maxRecDepth 100000
set_option maxHeartbeats 1000000
theorem Tt (n:Nat):szB n zBd:=⟨Nat.zero_le _,⟨Nat.zero_le _,Nat.zero_le _,Nat.zero_le _,Nat.zero_le _⟩,⟨Nat.zero_le _,Nat.zero_le _,Nat.zero_le _,Nat.zero_le _⟩,⟨Nat.zero_le _,fun x hx=>by cases hx⟩,⟨Nat.zero_le _,fun x hx=>by cases hx⟩,Nat.zero_le _,Nat.zero_le _⟩
theorem BQ {n:Nat} {b:Bd} (h:szB n b) (p:Int):szS n (aF b p):=by
 rw [aF];split
 ·exact h.2.1
 ·exact h.2.2.1
theorem BP {n:Nat} {b:Bd} (h:szB n b) (p:Int) {s:St} (hs:szS n s):szB n (bu b p s):=by
 rw [bu];split
 ·exact ⟨h.1,hs,h.2.2⟩
 ·exact ⟨h.1,h.2.1,hs,h.2.2.2⟩
theorem N5 {n:Nat} {b:Bd} (h:szB n b) {l:List Ob} (hl:l.length≤n):szB n { b with objs:=l }:=⟨hl,h.2⟩
theorem Kv {n:Nat} {b:Bd} (h:szB n b) (k:Nat) (o:Ob):szB n (eB b k o):=N5 h (by rw [List.length_set];exact h.1)
theorem Tz {n:Nat} {b:Bd} (h:szB n b) (p x:Int):szB n (pV b p x):=BP h p (BQ h p)
theorem N7 {n:Nat} {b:Bd} (h:szB n b) (id:Int) (f:Ob→Ob):szB n (dT b id f):=by
 rw [dT]
 split
 ·rw [Ew]
  split
  ·split
   ·exact Tt n
   split
   ·exact Tt n
   ·exact Kv h _ _
  ·exact Tt n
 ·exact h
theorem Tv {n:Nat} {s:St} (h:szS n s) (c k:Int):szS n (jN s c k):=by
 rw [jN]
 split
 ·exact h
 split
 ·exact h
 split
 ·exact h
 ·exact h
theorem Vb {n:Nat} {b:Bd} (h:szB n b) (p id:Int):szB (n + 1) (ka b p id):=by
 rw [ka]
 refine Kv ?_ _ _
 rw [Hm]
 have h':=szB.le h (show n≤n + 1 by omega)
 refine BP h' p ?_
 obtain ⟨a1,a2,a3,a4⟩:=BQ h p
 exact ⟨by rw [SR,List.length_dropLast];omega,by rw [SR,List.length_append,List.length_singleton];omega,by show (aF b p).field.length≤n + 1;omega,by show (aF b p).grave.length≤n + 1;omega⟩
theorem Vd {p:Int}:∀ (k:Nat) {n:Nat} {b:Bd},szB n b→szB (n + k) (eu k b p)
 | 0,_,_,h=>h
 | k + 1,n,b,h=>by
  rw [eu]
  split
  ·exact szB.le (BP h p (BQ h p)) (by omega)
  ·exact szB.le (Vd (p:=p) k (Vb h p _)) (by omega)
theorem TB {n:Nat} {b:Bd} (h:szB n b) (p:Int) {k:Int} (hk:k≤99):szB (n + 99) (oL b p k).1:=by
 rw [oL]
 split
 ·exact Tt _
 ·exact szB.le (Vd _ h) (by omega)
theorem LR {n:Nat} {b:Bd} (h:szB n b) (id:Int):szB (n + 1) (dm b id).1:=by
 rw [dm]
 split
 ·exact Tt _
 split
 ·exact Tt _
 ·exact Kw h _ _
theorem U9 {n:Nat} {b:Bd} (h:szB n b) (p pw tn most:Int):szB (n + 1) (yJ b p pw tn most).1:=by
 have h':=szB.le h (show n≤n + 1 by omega)
 rw [yJ]
 split
 ·exact Tt _
 split
 ·exact h'
 split
 ·exact h'
 ·show szB (n + 1) (zH b (aV b) p pw tn)
  rw [zH,oD]
  have ho:szB (n + 1) { b with objs:=b.objs.take (aV b)++[EA ((aV b:Int) + 1) p pw tn true]++b.objs.drop (aV b) }:=N5 h' (by
   have h1:=h.1
   have:(b.objs.take (aV b)).length + (b.objs.drop (aV b)).length=b.objs.length:=by rw [← List.length_append,List.take_append_drop]
   simp only [List.length_append,List.length_singleton]
   omega)
  refine BP ho p (N4 ?_ _ _)
  have hs:=BQ h p
  rw [aF] at hs ⊢
  exact hs
theorem TC {n:Nat} {b:Bd} (h:szB n b) (cs:List CdX) (p who id:Int) {e:Eff} (hn:e.n≤99) (most:Int):szB (n + 100) (bh cs b p who id e most):=by
 have hc:=fun (i:Int) f=>szB.le (N7 h i f) (show n≤n + 100 by omega)
 have hl:=fun (q x:Int)=>szB.le (Tz h q x) (show n≤n + 100 by omega)
 rw [bh]
 split
 ·split
  ·exact hc _ _
  ·exact hl _ _
 split
 ·exact szB.le (TB h _ hn) (by omega)
 split
 ·exact hl _ _
 split
 ·exact hl _ _
 split
 ·exact szB.le (Kw h _ _) (by omega)
 split
 ·exact szB.le (LR h _) (by omega)
 split
 ·exact szB.le (U9 h _ _ _ _) (by omega)
 split
 ·exact szB.le (BP h _ (Tv (BQ h _) _ _)) (by omega)
 split
 ·exact hc _ _
 ·exact szB.le h (by omega)
theorem TA {n:Nat} {b:Bd} (h:szB n b) (cs:List CdX) (p src:Int) {e:Eff} (hn:e.n≤99) (t:Tg) (most:Int):szB (n + 100) (xN cs b p src e t most):=by
 rw [xN]
 split
 ·exact szB.le h (by omega)
 ·exact TC h cs _ _ _ hn _
end Go.Proofs.YtdhobpmnkfmcfaaGreatDoor
namespace Go.Proofs.YtdhobpmnkfmcfaaGreatDoor
open Go Go.Sx
set_option maxRecDepth 100000
set_option maxHeartbeats 1000000
theorem yG {b:Bd} (h:ar b=true) {p:Int} (hp:p=0∨p=1) {s:St} (h1:s.lib=(aF b p).lib) (h2:s.hand=(aF b p).hand) (h3:s.field=(aF b p).field) (h4:s.grave=(aF b p).grave) (hok:bc s=true):ar (bu b p s)=true:=by
 rcases hp with rfl | rfl
 ·have g1:s.lib=b.s0.lib:=h1
  have g2:s.hand=b.s0.hand:=h2
  have g3:s.field=b.s0.field:=h3
  have g4:s.grave=b.s0.grave:=h4
  show ar { b with s0:=s }=true
  have e1:aL { b with s0:=s }=aL b:=by simp only [aL,cB,g1,g2,g3,g4]
  simp only [ar,og,bD,dl,e1,g3,hok,Bool.true_and] at h ⊢
  simp only [Bool.and_eq_true] at h ⊢
  obtain ⟨a1,a2,a3,a4,a5,_,a7⟩:=h
  exact ⟨a1,a2,a3,a4,a5,a7⟩
 ·have g1:s.lib=b.s1.lib:=h1
  have g2:s.hand=b.s1.hand:=h2
  have g3:s.field=b.s1.field:=h3
  have g4:s.grave=b.s1.grave:=h4
  show ar { b with s1:=s }=true
  have e1:aL { b with s1:=s }=aL b:=by simp only [aL,cB,g1,g2,g3,g4]
  simp only [ar,og,bD,dl,e1,g3,hok,Bool.true_and] at h ⊢
  simp only [Bool.and_eq_true] at h ⊢
  obtain ⟨a1,a2,a3,a4,a5,a6,_,a8⟩:=h
  exact ⟨a1,a2,a3,a4,a5,a6,a8⟩
theorem Ag (x:Int) {m:Int} (hm:0≤m):au (dI x m) 0 m=true:=by
 have h:0≤dI x m∧dI x m≤m:=by simp only [dI];omega
 simp only [au,decide_eq_true_eq];exact h
theorem MV {b:Bd} (h:ar b=true) {p:Int} (hp:p=0∨p=1) (x:Int):ar (pV b p (dI x 9999))=true:=by
 refine yG h hp rfl rfl rfl rfl ?_
 have hs:=to h p
 simp only [bc,Bool.and_eq_true] at hs ⊢
 exact ⟨Ag _ (by omega),hs.2⟩
theorem MS {b:Bd} (h:ar b=true) {p:Int} (hp:p=0∨p=1) (c n:Int):ar (bu b p (jN (aF b p) c n))=true:=by
 have hs:=to h p
 have hc:∀ x,au (dI x 99) 0 99=true:=fun x=>Ag x (by omega)
 simp only [bc,Bool.and_eq_true,List.all_cons,List.all_nil] at hs
 obtain ⟨k1,⟨k2,k3,k4,k5,_⟩,k6⟩:=hs
 refine yG h hp ?_ ?_ ?_ ?_ ?_
 ·rw [jN];repeat' split
  all_goals rfl
 ·rw [jN];repeat' split
  all_goals rfl
 ·rw [jN];repeat' split
  all_goals rfl
 ·rw [jN];repeat' split
  all_goals rfl
 ·rw [jN]
  repeat' split
  all_goals simp only [bc,Bool.and_eq_true,List.all_cons,List.all_nil]
  ·exact ⟨k1,⟨hc _,k3,k4,k5,trivial⟩,k6⟩
  ·exact ⟨k1,⟨k2,hc _,k4,k5,trivial⟩,k6⟩
  ·exact ⟨k1,⟨k2,k3,hc _,k5,trivial⟩,k6⟩
  ·exact ⟨k1,⟨k2,k3,k4,hc _,trivial⟩,k6⟩
theorem IT {b:Bd} (h:ar b=true) {id:Int} (hi:bm b id=0) {f:Ob→Ob} (h1:∀ o,(f o).id=o.id∧(f o).card=o.card∧(f o).owner=o.owner) (hv:∀ o,aY o=true→aY (f o)=true):ar (dT b id f)=true:=by
 obtain ⟨k,e1,e2,e3,e4,_⟩:=qV hi
 obtain ⟨j1,j2,j3⟩:=h1 (fU b id)
 rw [dT,Kz hi (by rw [j1];exact e2) j2 j3 (hv _ e4),if_pos rfl,e3,Int.toNat_natCast]
 exact HF h e1 j1 j3 j2 (hv _ e4)
theorem Lt {p:Int} (hp:p=0∨p=1):∀ (k:Nat) {b:Bd},ar b=true→ar (eu k b p)=true∧(∃ m,m≤(aF b p).lib.length∧(aF (eu k b p) p).lib=(aF b p).lib.take m)∧(∀ q,(aF (eu k b p) q).life=(aF b q).life) ∧
  (eu k b p).objs.length=b.objs.length∧(eu k b p).stack=b.stack∧∀ q,(q=0∨q=1)→q ≠ p→(aF (eu k b p) q).lib=(aF b q).lib
 | 0,b,h=>⟨h,⟨(aF b p).lib.length,Nat.le_refl _,by rw [List.take_length];rfl⟩,fun _=>rfl,rfl,rfl,fun _ _ _=>rfl⟩
 | k + 1,b,h=>by
  cases e:(aF b p).lib.getLast? with
  | none =>
   have hd:eu (k + 1) b p=bu b p { aF b p with empty:=true }:=by rw [eu,e]
   rw [hd]
   have hs:=to h p
   refine ⟨yG h hp rfl rfl rfl rfl hs,⟨(aF b p).lib.length,Nat.le_refl _,?_⟩,?_,?_,?_,?_⟩
   ·rw [List.take_length];rcases hp with rfl | rfl <;> rfl
   ·intro q;rcases hp with rfl | rfl <;> (simp only [aF,bu];repeat' split) <;> first | rfl | omega
   ·rcases hp with rfl | rfl <;> rfl
   ·rcases hp with rfl | rfl <;> rfl
   ·intro q hq hne
    rcases hp with rfl | rfl <;> rcases hq with rfl | rfl <;> first | rfl | omega
  | some id =>
   have hd:eu (k + 1) b p=eu k (ka b p id) p:=by rw [eu,e]
   obtain ⟨l,hl⟩:∃ l,(aF b p).lib=l++[id]:=⟨_,(List.getLast?_eq_some_iff.1 e).choose_spec⟩
   obtain ⟨j,o,_,_,_,_,_,_,_,_,hdo,hvo⟩:=DO h hp hl
   obtain ⟨f1,⟨m,f2,f3⟩,f4,f5,f6,f7⟩:=Lt hp k hvo
   rw [hd]
   have hlib:(aF (ka b p id) p).lib=l:=by
    have:(aF (ka b p id) p).lib=(aF b p).lib.dropLast:=by rcases hp with rfl | rfl <;> rfl
    rw [this,hl,List.dropLast_concat]
   rw [hlib] at f2 f3
   refine ⟨f1,⟨m,by rw [hl,List.length_append];omega,by rw [f3,hl,List.take_append_of_le_length f2]⟩,?_,?_,?_,?_⟩
   ·intro q;rw [f4];rcases hp with rfl | rfl <;> (simp only [aF,ka,Hm,eB,bu,SR];repeat' split) <;> first | rfl | omega
   ·rw [f5];rcases hp with rfl | rfl <;> (simp only [ka,Hm,eB,bu,List.length_set];rfl)
   ·rw [f6];rcases hp with rfl | rfl <;> rfl
   ·intro q hq hne
    rw [f7 q hq hne]
    rcases hp with rfl | rfl <;> rcases hq with rfl | rfl <;> first | rfl | omega
end Go.Proofs.YtdhobpmnkfmcfaaGreatDoor
namespace Go.Proofs.YtdhobpmnkfmcfaaGreatDoor
open Go Go.Sx
set_option maxRecDepth 100000
set_option maxHeartbeats 1000000
theorem SK:∀ {l:List Ob} {prev:Option Int},(∀ o ∈ l,∀ p,prev=some p→p < o.id)→(l.map (·.id)).Pairwise (· < ·)→E9 prev l=true
 | [],_,_,_=>rfl
 | a::l,prev,h,hp=>by
  rw [List.map_cons,List.pairwise_cons] at hp
  simp only [E9,Bool.and_eq_true,Bool.not_eq_true']
  refine ⟨?_,SK (fun o ho p e=>?_) hp.2⟩
  ·cases prev with
   | none=>rfl
   | some p =>
    have:=h a List.mem_cons_self p rfl
    show decide (p ≥ a.id)=false
    rw [decide_eq_false_iff_not];omega
  ·injection e with e
   rw [← e];exact hp.1 _ (List.mem_map_of_mem ho)
theorem PD:∀ {l:List Ob} {m:Int},(l.map (·.id)).Pairwise (· < ·)→(∀ o ∈ l,m < o.id)→∀ (j:Nat) (o:Ob),l[j]?=some o→m + 1 + j≤o.id
 | [],_,_,_,j,o,h=>by simp at h
 | a::l,m,hp,hm,0,o,h=>by
  simp at h;subst h
  have:=hm a List.mem_cons_self
  omega
 | a::l,m,hp,hm,j + 1,o,h=>by
  rw [List.map_cons,List.pairwise_cons] at hp
  have h0:=hm a List.mem_cons_self
  have:=PD (m:=m + 1) hp.2 (fun x hx=>by have:=hp.1 _ (List.mem_map_of_mem hx);omega) j o (by simpa using h)
  omega
theorem KV {b:Bd} (h:ar b=true) {x:Int} (hx:x ∈ (aL b).map (·.1)):∃ o ∈ b.objs,o.id=x:=by
 obtain ⟨⟨i,p⟩,hq,rfl⟩:=List.mem_map.1 hx
 obtain ⟨k,o,e1,e2,_⟩:=Ls (aS h).1 hq
 exact ⟨o,List.mem_of_getElem? e1,e2⟩
theorem V3 {b:Bd} {p:Int} (hp:p=0∨p=1) (pw tn:Int) (hm:aV b < 500):aY (EA ((aV b:Int) + 1) p pw tn true)=true:=by
 have hN:∀ x,au (QO x) 0 99=true:=fun x=>by
  have h:0≤QO x∧QO x≤99:=by simp only [QO];omega
  simp only [au,decide_eq_true_eq];exact h
 have h0:au 0 0 99=true:=by decide
 simp only [aY,Bool.and_eq_true,Bool.or_eq_true,List.all_cons,List.all_nil,decide_eq_true_eq,beq_iff_eq]
 refine ⟨⟨⟨hN _,hN _,h0,h0,h0,h0,trivial⟩,⟨⟨⟨⟨.inl rfl,?_⟩,?_⟩,?_⟩,?_⟩⟩,hp⟩
 ·show (aV b:Int) + 1 ≥ 1;omega
 ·show (aV b:Int) + 1≤500;omega
 ·show (-1:Int) ≥ -1;omega
 ·show (-1:Int) < 400;omega
section
variable {b:Bd} (h:ar b=true) {p:Int} (hp:p=0∨p=1) (pw tn:Int) (hm:aV b < 500)
include h
theorem Kt (p:Int):((b.objs.take (aV b)++[EA ((aV b:Int) + 1) p pw tn true]++b.objs.drop (aV b)).map (·.id)).Pairwise (· < ·)∧∀ o ∈ b.objs.take (aV b)++[EA ((aV b:Int) + 1) p pw tn true]++b.objs.drop (aV b),0 < o.id:=by
 obtain ⟨f1,f2,f3⟩:=qb h
 obtain ⟨i1,i2⟩:=s7 h
 have hpw:=lB i2
 have hge:=PD (m:=0) hpw (fun o ho=>by have:=(i1 o ho).1;omega)
 have ht:∀ o ∈ b.objs.take (aV b),o.id≤aV b:=fun o ho=>by
  obtain ⟨j,hj⟩:=List.mem_iff_getElem?.1 ho
  have hlt:j < aV b:=by have:=(List.getElem?_eq_some_iff.1 hj).1;rw [List.length_take] at this;omega
  rw [List.getElem?_take_of_lt hlt] at hj
  have:=f2 j hlt
  rw [hj] at this
  have:o.id=(j:Int) + 1:=Option.some.inj this
  omega
 have hd:∀ o ∈ b.objs.drop (aV b),(aV b:Int) + 1 < o.id:=fun o ho=>by
  obtain ⟨j,hj⟩:=List.mem_iff_getElem?.1 ho
  rw [List.getElem?_drop] at hj
  have h1:=hge _ _ hj
  have h2:=f3 o (List.mem_of_getElem? hj)
  omega
 have e:b.objs.map (·.id)=(b.objs.take (aV b)).map (·.id)++(b.objs.drop (aV b)).map (·.id):=by rw [← List.map_append,List.take_append_drop]
 rw [e,List.pairwise_append] at hpw
 refine ⟨?_,fun o ho=>?_⟩
 ·rw [List.map_append,List.map_append,List.pairwise_append,List.pairwise_append]
  refine ⟨⟨hpw.1,List.pairwise_singleton _ _,fun x hx y hy=>?_⟩,hpw.2.1,fun x hx y hy=>?_⟩
  ·obtain ⟨o,ho,rfl⟩:=List.mem_map.1 hx
   have:=ht o ho
   obtain rfl:y=(aV b:Int) + 1:=by simpa [EA] using hy
   omega
  ·obtain ⟨o,ho,rfl⟩:=List.mem_map.1 hy
   have h1:=hd o ho
   rcases List.mem_append.1 hx with hx | hx
   ·obtain ⟨o',ho',rfl⟩:=List.mem_map.1 hx
    have:=ht o' ho'
    omega
   ·obtain rfl:x=(aV b:Int) + 1:=by simpa [EA] using hx
    exact h1
 ·rcases List.mem_append.1 ho with ho | ho
  ·rcases List.mem_append.1 ho with ho | ho
   ·have:=(i1 o (List.mem_of_mem_take ho)).1;omega
   ·rw [List.mem_singleton.1 ho];show (0:Int) < (aV b:Int) + 1;omega
  ·have:=hd o ho;omega
include hp hm
theorem LQ:bD aY (zH b (aV b) p pw tn)=true:=by
 have hpl:=(aS h).1
 obtain ⟨p1,p2,p3⟩:=fc hpl
 obtain ⟨f1,_,f3⟩:=qb h
 have hn:=de hpl
 rw [← jX] at hn
 have hq:=E7 { b with objs:=b.objs.take (aV b)++[EA ((aV b:Int) + 1) p pw tn true]++b.objs.drop (aV b) } hp (z:=2) (by omega) ((aV b:Int) + 1)
 have e1:aL { b with objs:=b.objs.take (aV b)++[EA ((aV b:Int) + 1) p pw tn true]++b.objs.drop (aV b) }=aL b:=rfl
 rw [e1] at hq
 have hni:(aV b:Int) + 1 ∉ (aL b).map (·.1):=fun hx=>by
  obtain ⟨o,ho,e⟩:=KV h hx
  exact f3 o ho e
 have hnc:((((aV b:Int) + 1,p)::aL b).map (·.1)).Nodup:=by
  rw [List.map_cons]
  exact List.nodup_cons.2 ⟨hni,hn⟩
 have hn':=(hq.map (·.1)).nodup_iff.2 hnc
 have ho:(zH b (aV b) p pw tn).objs=b.objs.take (aV b)++[EA ((aV b:Int) + 1) p pw tn true]++b.objs.drop (aV b):=by
  rcases hp with rfl | rfl <;> rfl
 have hs:(zH b (aV b) p pw tn).stack=b.stack:=by rcases hp with rfl | rfl <;> rfl
 have hpb:aL (zH b (aV b) p pw tn)=aL (oD { b with objs:=b.objs.take (aV b)++[EA ((aV b:Int) + 1) p pw tn true]++b.objs.drop (aV b) } p 2 ((aV b:Int) + 1)):=rfl
 have hlook:=y0 hn' hq
 simp only [bD,Bool.and_eq_true,decide_eq_true_eq,nq,ho,hs,hpb]
 refine ⟨hn',⟨SK (fun o _ p e=>by cases e) (Kt h pw tn p).1,?_⟩,?_⟩
 ·rw [List.all_eq_true]
  intro o hm2
  have hold:o ∈ b.objs→ok1 (aL (oD { b with objs:=b.objs.take (aV b)++[EA ((aV b:Int) + 1) p pw tn true]++b.objs.drop (aV b) } p 2 ((aV b:Int) + 1))) (bp b.stack) o=true:=fun hm=>by
   have h1:=List.all_eq_true.1 p2 o hm
   have hne:=f3 o hm
   have hc:cz (((aV b:Int) + 1,p)::aL b) o.id=cz (aL b) o.id:=by
    rw [cz,List.find?_cons,show (o.id == (aV b:Int) + 1)=false from beq_eq_false_iff_ne.2 hne];rfl
   simp only [ok1,hlook,hc] at h1 ⊢
   exact h1
  rcases List.mem_append.1 hm2 with hm2 | hm2
  ·rcases List.mem_append.1 hm2 with hm2 | hm2
   ·exact hold (List.mem_of_mem_take hm2)
   ·rw [List.mem_singleton.1 hm2]
    have hc:cz (((aV b:Int) + 1,p)::aL b) ((aV b:Int) + 1)=some p:=by
     rw [cz,List.find?_cons,show (((aV b:Int) + 1) == (aV b:Int) + 1)=true from beq_self_eq_true _];rfl
    have hst:cz (bp b.stack) ((aV b:Int) + 1)=none:=by
     rw [eP]
     intro hx
     refine hni ?_
     have:((aV b:Int) + 1) ∈ (eN b.stack).map (·.1):=by
      simpa [bp,eN] using hx
     simp only [aL,List.map_append,List.mem_append]
     exact .inr (.inr this)
    have hid:(EA ((aV b:Int) + 1) p pw tn true).id=(aV b:Int) + 1:=rfl
    have hown:(EA ((aV b:Int) + 1) p pw tn true).owner=p:=rfl
    simp only [ok1,hlook,hid,hown,hc,hst,V3 hp pw tn hm]
    simp
  ·exact hold (List.mem_of_mem_drop hm2)
 ·rw [hq.length_eq,List.length_cons,p3]
  have:(b.objs.take (aV b)).length + (b.objs.drop (aV b)).length=b.objs.length:=by rw [← List.length_append,List.take_append_drop]
  simp only [List.length_append,List.length_singleton]
  omega
theorem NY:ar (zH b (aV b) p pw tn)=true:=by
 have hpl:=LQ h hp pw tn hm
 obtain ⟨f1,_,f3⟩:=qb h
 obtain ⟨k1,k2⟩:=Kt h pw tn p
 have hlen:(zH b (aV b) p pw tn).objs.length≤500:=by
  have ho:(zH b (aV b) p pw tn).objs=b.objs.take (aV b)++[EA ((aV b:Int) + 1) p pw tn true]++b.objs.drop (aV b):=by
   rcases hp with rfl | rfl <;> rfl
  rw [ho]
  generalize hl:b.objs.take (aV b)++[EA ((aV b:Int) + 1) p pw tn true]++b.objs.drop (aV b)=l at *
  rcases Nat.eq_zero_or_pos l.length with e | e
  ·omega
  have hlt:l.length - 1 < l.length:=by omega
  have h1:=PD (m:=0) k1 k2 (l.length - 1) _ (List.getElem?_eq_getElem hlt)
  have h2:l[l.length - 1].id≤500:=by
   have hmem:l[l.length - 1] ∈ l:=List.getElem_mem hlt
   generalize l[l.length - 1]=o at hmem
   rw [← hl] at hmem
   have hi:=(s7 h).1
   rcases List.mem_append.1 hmem with hx | hx
   ·rcases List.mem_append.1 hx with hx | hx
    ·exact (hi _ (List.mem_of_mem_take hx)).2
    ·rw [List.mem_singleton.1 hx];show (aV b:Int) + 1≤500;omega
   ·exact (hi _ (List.mem_of_mem_drop hx)).2
  omega
 have hfi:=(aS h).2.1
 have hfields:∀ x,x ∈ b.s0.field∨x ∈ b.s1.field→x ≠ (aV b:Int) + 1:=fun x hx e=>by
  have:x ∈ (aL b).map (·.1):=by
   rw [jX]
   simp only [Ux,Uw,List.mem_append]
   rcases hx with hx | hx
   ·exact .inl (.inr (.inr (.inl hx)))
   ·exact .inr (.inl (.inr (.inr (.inl hx))))
  obtain ⟨o,ho,e2⟩:=KV h this
  exact f3 o ho (e2.trans e)
 obtain ⟨g1,g2⟩:=Nj hfi
 have ea:cQ b.att ((aV b:Int) + 1)=b.att:=by
  rw [cQ,List.filter_eq_self]
  intro x hx
  simpa using hfields x (g1 x hx)
 have eb:b.blocks.filter (fun x=>!eR ((aV b:Int) + 1) x)=b.blocks:=by
  rw [List.filter_eq_self]
  intro x hx
  have h1:=hfields _ (g2 x hx).1
  have h2:=hfields _ (g2 x hx).2
  simp [eR,h1,h2]
 have hf:dl (zH b (aV b) p pw tn)=true:=by
  have f0:∀ y ∈ b.s0.field,y ≠ (aV b:Int) + 1→y ∈ (zH b (aV b) p pw tn).s0.field:=fun y hy _=>by
   rcases hp with rfl | rfl
   ·exact List.mem_append_left _ hy
   ·exact hy
  have f1:∀ y ∈ b.s1.field,y ≠ (aV b:Int) + 1→y ∈ (zH b (aV b) p pw tn).s1.field:=fun y hy _=>by
   rcases hp with rfl | rfl
   ·exact hy
   ·exact List.mem_append_left _ hy
  have r1:(zH b (aV b) p pw tn).active=b.active:=by rcases hp with rfl | rfl <;> rfl
  have r2:(zH b (aV b) p pw tn).att=b.att:=by rcases hp with rfl | rfl <;> rfl
  have r3:(zH b (aV b) p pw tn).blocks=b.blocks:=by rcases hp with rfl | rfl <;> rfl
  rw [dl] at hfi ⊢
  rw [r1,r2,r3]
  split
  ·rename_i ha
   rw [if_pos ha] at hfi
   have:=qX (id:=(aV b:Int) + 1) f0 f1 hfi
   rwa [ea,eb] at this
  ·rename_i ha
   rw [if_neg ha] at hfi
   have:=qX (id:=(aV b:Int) + 1) f1 f0 hfi
   rwa [ea,eb] at this
 simp only [ar,og,Bool.and_eq_true,Bool.not_eq_true',Bool.or_eq_false_iff,decide_eq_false_iff_not] at h ⊢
 obtain ⟨a1,a2,a3,a4,⟨⟨⟨a5,a6⟩,a7⟩,a8⟩,a9,a10,a11,a12,a13⟩:=h
 have q0:bc (zH b (aV b) p pw tn).s0=true:=by rcases hp with rfl | rfl <;> exact a9
 have q1:bc (zH b (aV b) p pw tn).s1=true:=by rcases hp with rfl | rfl <;> exact a10
 refine ⟨?_,?_,?_,?_,⟨⟨⟨?_,by omega⟩,?_⟩,?_⟩,q0,q1,?_,?_,hpl,hf⟩
 all_goals (rcases hp with rfl | rfl <;> assumption)
end
end Go.Proofs.YtdhobpmnkfmcfaaGreatDoor
namespace Go.Proofs.YtdhobpmnkfmcfaaGreatDoor
open Go Go.Sx
set_option maxRecDepth 100000
set_option maxHeartbeats 1000000
structure NK (e:Eff) (most:Int) (b x:Bd):Prop where
 valid:ar x=true
 lib:∀ q,(q=0∨q=1)→e.code ≠ 2→(aF x q).lib=(aF b q).lib∧(aF x q).empty=(aF b q).empty
 pre:∀ q,(q=0∨q=1)→∃ m,m≤(aF b q).lib.length∧(aF x q).lib=(aF b q).lib.take m
 up:∀ q,(q=0∨q=1)→(aF x q).life > (aF b q).life→e.code=3
 down:∀ q,(q=0∨q=1)→(aF x q).life < (aF b q).life→e.code=4∨e.code=1
 objs:x.objs.length ≠ b.objs.length→e.code=10∧x.objs.length=b.objs.length + 1∧(b.objs.length:Int) < most
 stack:x.stack.length ≠ b.stack.length→e.code=7∧x.stack.length + 1=b.stack.length
theorem GE {e:Eff} {most:Int} {b x:Bd} (hv:ar x=true) (hs:∀ q,(q=0∨q=1)→(aF x q).lib=(aF b q).lib∧(aF x q).empty=(aF b q).empty∧(aF x q).life=(aF b q).life)
  (ho:x.objs.length ≠ b.objs.length→e.code=10∧x.objs.length=b.objs.length + 1∧(b.objs.length:Int) < most) (hk:x.stack.length ≠ b.stack.length→e.code=7∧x.stack.length + 1=b.stack.length):NK e most b x :=
 ⟨hv,fun q hq _=>⟨(hs q hq).1,(hs q hq).2.1⟩,fun q hq=>⟨_,Nat.le_refl _,by rw [(hs q hq).1,List.take_length]⟩,fun q hq h=>absurd (hs q hq).2.2 (by omega),fun q hq h=>absurd (hs q hq).2.2 (by omega),ho,hk⟩
theorem Dq {e:Eff} {most:Int} {b x:Bd} (hv:ar x=true) (hs:∀ q,(q=0∨q=1)→(aF x q).lib=(aF b q).lib∧(aF x q).empty=(aF b q).empty∧(aF x q).life=(aF b q).life)
  (ho:x.objs.length=b.objs.length) (hk:x.stack.length=b.stack.length):NK e most b x:=GE hv hs (fun h=>absurd ho h) fun h=>absurd hk h
theorem xz {e:Eff} {most:Int} {b:Bd} (hv:ar b=true):NK e most b b:=Dq hv (fun _ _=>⟨rfl,rfl,rfl⟩) rfl rfl
theorem Dt {e:Eff} {most:Int} {b:Bd} (hv:ar b=true) {id:Int} (hi:bm b id=0) {f:Ob→Ob} (h1:∀ o,(f o).id=o.id∧(f o).card=o.card∧(f o).owner=o.owner) (hf:∀ o,aY o=true→aY (f o)=true):NK e most b (dT b id f):=by
 have hc:=IT hv hi h1 hf
 obtain ⟨k,e1,e2,e3,e4,_⟩:=qV hi
 obtain ⟨j1,j2,j3⟩:=h1 (fU b id)
 have ec:dT b id f=eB b k (f (fU b id)):=by
  rw [dT,Kz hi (by rw [j1];exact e2) j2 j3 (hf _ e4),if_pos rfl,e3,Int.toNat_natCast]
 rw [ec] at hc ⊢
 exact Dq hc (fun q hq=>⟨rfl,rfl,rfl⟩) (by rw [eB,List.length_set]) rfl
theorem pu {b:Bd} {p:Int} (hp:p=0∨p=1) (s:St) {q:Int} (hq:q=0∨q=1):aF (bu b p s) q=if q=p then s else aF b q:=by
 rcases hp with rfl | rfl <;> rcases hq with rfl | rfl <;> rfl
theorem Hq (b:Bd) (p:Int) (s:St):(bu b p s).objs=b.objs∧(bu b p s).stack=b.stack:=by
 rw [bu];split <;> exact ⟨rfl,rfl⟩
theorem Ds {e:Eff} {most:Int} {b:Bd} (hv:ar b=true) {p:Int} (hp:p=0∨p=1) (x:Int) (hup:dI x 9999 > (aF b p).life→e.code=3) (hdn:dI x 9999 < (aF b p).life→e.code=4∨e.code=1):NK e most b (pV b p (dI x 9999)):=by
 obtain ⟨o1,o2⟩:=Hq b p { aF b p with life:=dI x 9999 }
 refine ⟨MV hv hp x,fun q hq _=>?_,fun q hq=>⟨(aF b q).lib.length,Nat.le_refl _,?_⟩,fun q hq=>?_,fun q hq=>?_,fun h=>absurd (by rw [pV,o1]) h,fun h=>absurd (by rw [pV,o2]) h⟩
 ·rw [pV,pu hp _ hq];split
  ·rename_i h;subst h;exact ⟨rfl,rfl⟩
  ·exact ⟨rfl,rfl⟩
 ·rw [pV,pu hp _ hq,List.take_length];split
  ·rename_i h;subst h;rfl
  ·rfl
 ·rw [pV,pu hp _ hq];split
  ·rename_i h;subst h;exact hup
  ·intro h;omega
 ·rw [pV,pu hp _ hq];split
  ·rename_i h;subst h;exact hdn
  ·intro h;omega
theorem Pv {e:Eff} {most:Int} {b:Bd} (hv:ar b=true) {p:Int} (hp:p=0∨p=1) (c n:Int):NK e most b (bu b p (jN (aF b p) c n)):=by
 obtain ⟨o1,o2⟩:=Hq b p (jN (aF b p) c n)
 refine Dq (MS hv hp c n) (fun q hq=>?_) (by rw [o1]) (by rw [o2])
 rw [pu hp _ hq];split
 ·rename_i h;subst h
  rw [jN];repeat' split
  all_goals exact ⟨rfl,rfl,rfl⟩
 ·exact ⟨rfl,rfl,rfl⟩
theorem Px {e:Eff} {most:Int} {b:Bd} (hv:ar b=true) {p:Int} (hp:p=0∨p=1) (he:e.code=2) {n:Int} (hn:0≤n):NK e most b (oL b p n).1:=by
 have hw:au p 0 1=true:=by simp only [au,decide_eq_true_eq];omega
 have ed:(oL b p n).1=eu n.toNat b p:=by
  rw [oL,if_neg (by rw [hv,hw,decide_eq_false (by omega:¬ n < 0)];simp)]
 rw [ed]
 obtain ⟨f1,f2,f3,f4,f5,f6⟩:=Lt hp n.toNat hv
 refine ⟨f1,fun q hq h=>absurd he h,fun q hq=>?_,fun q hq h=>absurd (f3 q) (by omega),fun q hq h=>absurd (f3 q) (by omega),fun h=>absurd f4 h,fun h=>absurd (by rw [f5]) h⟩
 by_cases hqp:q=p
 ·subst hqp;exact f2
 ·exact ⟨_,Nat.le_refl _,by rw [f6 q hq hqp,List.take_length]⟩
theorem Is {e:Eff} {most:Int} {b:Bd} (hv:ar b=true) {k:Nat} {o:Ob} (hk:b.objs[k]?=some o) {z:Int} (hz:z=1∨z=3) (h0:b.s0.lib.count o.id=0) (h1:b.s1.lib.count o.id=0)
  (hst:(b.stack.filter fun x=>!mc o.id x).length ≠ b.stack.length→e.code=7∧(b.stack.filter fun x=>!mc o.id x).length + 1=b.stack.length):NK e most b (gz b k (cw o z) z):=by
 have hown:=(dr (aS hv).1 hk).2.2.2
 refine GE (MO hv hk (by omega)) (fun q hq=>?_) (fun h=>absurd (by rw [Dh,List.length_set]) h) ?_
 ·have i2:(cw o z).owner=o.owner:=rfl
  have i1:(cw o z).id=o.id:=rfl
  have w0:=zF h0
  have w1:=zF h1
  rw [gz,oD,i1,i2,pu hown _ hq]
  have hb:∀ q,(q=0∨q=1)→(aF (eB (oG b o.id) k (cw o z)) q).lib=(aF b q).lib∧(aF (eB (oG b o.id) k (cw o z)) q).empty=(aF b q).empty∧(aF (eB (oG b o.id) k (cw o z)) q).life=(aF b q).life:=by
   intro q hq
   rcases hq with rfl | rfl
   ·exact ⟨w0,rfl,rfl⟩
   ·exact ⟨w1,rfl,rfl⟩
  split
  ·rename_i h;subst h
   rcases hz with rfl | rfl
   ·exact hb _ hq
   ·exact hb _ hq
  ·exact hb q hq
 ·rw [uU];exact hst
theorem RA {e:Eff} {most:Int} {b:Bd} (hv:ar b=true) {p:Int} (hp:p=0∨p=1) (he:e.code=10) (pw tn:Int):NK e most b (yJ b p pw tn most).1:=by
 have hw:au p 0 1=true:=by simp only [au,decide_eq_true_eq];omega
 rw [yJ,if_neg (by rw [hv,hw];simp)]
 split
 ·exact xz hv
 rename_i hm
 split
 ·exact xz hv
 rename_i hf
 have hs:(zH b (aV b) p pw tn).stack=b.stack:=by rcases hp with rfl | rfl <;> rfl
 have ho:(zH b (aV b) p pw tn).objs=b.objs.take (aV b)++[EA ((aV b:Int) + 1) p pw tn true]++b.objs.drop (aV b):=by
  rcases hp with rfl | rfl <;> rfl
 have hlen:(zH b (aV b) p pw tn).objs.length=b.objs.length + 1:=by
  have:(b.objs.take (aV b)).length + (b.objs.drop (aV b)).length=b.objs.length:=by rw [← List.length_append,List.take_append_drop]
  rw [ho]
  simp only [List.length_append,List.length_singleton]
  omega
 refine GE (NY hv hp pw tn (by omega)) (fun q hq=>?_) (fun _=>⟨he,hlen,by omega⟩) fun h=>absurd (by show (zH b (aV b) p pw tn).stack.length=_;rw [hs]) h
 show (aF (zH b (aV b) p pw tn) q).lib=_∧(aF (zH b (aV b) p pw tn) q).empty=_∧(aF (zH b (aV b) p pw tn) q).life=_
 rcases hp with rfl | rfl <;> rcases hq with rfl | rfl <;> exact ⟨rfl,rfl,rfl⟩
theorem OS {b:Bd} (hv:ar b=true) {id:Int} (h:id ∈ b.s0.field∨id ∈ b.s1.field∨id ∈ (cA b.stack).map (·.id)):b.s0.lib.count id=0∧b.s1.lib.count id=0:=by
 have hc:=List.nodup_iff_count.1 (de (aS hv).1) id
 simp only [Ux,Uw,List.count_append] at hc
 rcases h with h | h | h
 ·have:=List.count_pos_iff.2 h;omega
 ·have:=List.count_pos_iff.2 h;omega
 ·have:=List.count_pos_iff.2 h;omega
theorem Q9 {cs:List CdX} {b:Bd} {x:Int} (h:onB cs b x=true):x ∈ b.s0.field∨x ∈ b.s1.field:=by
 rw [onB,Bool.and_eq_true,Bool.and_eq_true] at h
 obtain ⟨k,_,_,_,_,f5⟩:=qV (OM (by rw [onB,Bool.and_eq_true,Bool.and_eq_true];exact h:onB cs b x=true)).2.2
 have h3:=h.2.2
 rcases f5 with f5 | f5
 ·rw [f5] at h3;exact .inl (by simpa [aF] using h3)
 ·rw [f5] at h3;exact .inr (by simpa [aF] using h3)
theorem Lj {b:Bd} {id:Int} (hi:bm b id=0) {z:Int} (hz:z=1∨z=3):∃ (k:Nat) (o:Ob),b.objs[k]?=some o∧o.id=id∧(fG b id z).1=gz b k (cw o z) z:=by
 obtain ⟨k,e1,e2,e3,_,_⟩:=qV hi
 refine ⟨k,_,e1,e2,?_⟩
 have hw:au z 0 3=true:=by simp only [au,decide_eq_true_eq];omega
 rw [fG,if_neg (by rw [hi,hw];simp),if_neg (by rw [hi];simp),e3,Int.toNat_natCast]
theorem JH {cs:List CdX} {e:Eff} {most:Int} {b:Bd} (hv:ar b=true) {id:Int} (ho:onB cs b id=true):NK e most b (fG b id 1).1:=by
 obtain ⟨k,o,e1,e2,e3⟩:=Lj (OM ho).2.2 (z:=1) (.inl rfl)
 have hfl:=Q9 ho
 obtain ⟨l0,l1⟩:=OS hv (id:=id) (hfl.elim .inl fun h=>.inr (.inl h))
 rw [e3]
 subst e2
 refine Is hv e1 (.inl rfl) l0 l1 fun h=>absurd ?_ h
 have hc:=List.nodup_iff_count.1 (de (aS hv).1) o.id
 simp only [Ux,Uw,List.count_append] at hc
 have:(b.stack.filter fun x=>!mc o.id x)=b.stack:=by
  rw [List.filter_eq_self]
  intro y hy
  cases hon:mc o.id y
  ·rfl
  ·exfalso
   simp only [mc,Bool.and_eq_true,decide_eq_true_eq,beq_iff_eq] at hon
   have hm:o.id ∈ (cA b.stack).map (·.id):=List.mem_map.2 ⟨y,List.mem_filter.2 ⟨hy,decide_eq_true hon.1⟩,hon.2⟩
   have:=List.count_pos_iff.2 hm
   rcases hfl with h | h
   ·have:=List.count_pos_iff.2 h;omega
   ·have:=List.count_pos_iff.2 h;omega
 rw [this]
theorem FI {id:Int}:∀ {l:List It},((cA l).map (fun x:It=>x.id)).Nodup→(∃ x ∈ l,x.id=id∧x.trig < 0)→(l.filter fun x=>!mc id x).length + 1=l.length
 | [],_,h=>by obtain ⟨x,hx,_⟩:=h;cases hx
 | a::l,hn,h=>by
  by_cases ha:mc id a=true
  ·have ha':a.trig < 0∧a.id=id:=by simpa [mc] using ha
   rw [cA,List.filter_cons,if_pos (decide_eq_true ha'.1),List.map_cons,List.nodup_cons] at hn
   rw [List.filter_cons,if_neg (by rw [ha];simp)]
   have:(l.filter fun x=>!mc id x)=l:=by
    rw [List.filter_eq_self]
    intro y hy
    cases hon:mc id y
    ·rfl
    ·exfalso
     simp only [mc,Bool.and_eq_true,decide_eq_true_eq,beq_iff_eq] at hon
     exact hn.1 (List.mem_map.2 ⟨y,List.mem_filter.2 ⟨hy,decide_eq_true hon.1⟩,hon.2.trans ha'.2.symm⟩)
   rw [this];rfl
  ·have hx:∃ x ∈ l,x.id=id∧x.trig < 0:=by
    obtain ⟨x,hx,h1,h2⟩:=h
    rcases List.mem_cons.1 hx with rfl | hx
    ·exact absurd (by simp [mc,h1,h2]) ha
    ·exact ⟨x,hx,h1,h2⟩
   have hn':((cA l).map (fun x:It=>x.id)).Nodup:=by
    refine hn.sublist (List.Sublist.map _ ?_)
    rw [cA,cA]
    exact (List.sublist_cons_self a l).filter _
   have:=FI hn' hx
   rw [List.filter_cons,if_pos (by simpa using ha),List.length_cons,List.length_cons]
   omega
theorem Iu {e:Eff} {most:Int} {b:Bd} (hv:ar b=true) (he:e.code=7) {id:Int} (hx:∃ x ∈ b.stack,x.id=id∧x.trig < 0):NK e most b (dm b id).1:=by
 have hpl:=(aS hv).1
 have hm:id ∈ (cA b.stack).map (·.id):=by
  obtain ⟨x,h1,h2,h3⟩:=hx
  exact List.mem_map.2 ⟨x,List.mem_filter.2 ⟨h1,decide_eq_true h3⟩,h2⟩
 obtain ⟨x,hxs,hxi,hxt⟩:=hx
 have hpair:(id,x.player) ∈ aL b:=by
  simp only [aL,List.mem_append,eN,List.mem_map,Prod.mk.injEq]
  exact .inr (.inr ⟨x,List.mem_filter.2 ⟨hxs,decide_eq_true hxt⟩,hxi,rfl⟩)
 obtain ⟨k,o,e1,e2,e3⟩:=Ls hpl hpair
 have hi:bm b id=0:=by
  obtain ⟨_,_,hidx,_⟩:=dr hpl e1
  rw [bm,if_pos hv,← e2,hidx,if_neg (by omega)]
 obtain ⟨l0,l1⟩:=OS hv (.inr (.inr hm))
 have hwh:(vt b id).2.1=4:=by
  rw [vt,if_neg (by rw [hi];simp)]
  have hn:=de hpl
  have hc:=List.nodup_iff_count.1 hn id
  simp only [Ux,Uw,List.count_append] at hc
  have hpos:=List.count_pos_iff.2 hm
  obtain ⟨s,hs⟩:=E0 hv e1
  rw [e2] at hs
  rw [hs]
  simp only [QR,Option.getD_some]
  unfold vV at hs
  split at hs
  ·rename_i s' hL
   obtain ⟨y,hy,_,_,j,_,x4⟩:=Kx hL
   have hym:=List.count_pos_iff.2 (List.mem_of_getElem? x4)
   simp only [nW,List.mem_cons,List.not_mem_nil,or_false] at hy
   rcases hy with rfl | rfl | rfl | rfl | rfl | rfl | rfl | rfl <;> (simp only at hym;omega)
  ·split at hs
   ·rw [← Option.some.inj hs]
   ·cases hs
 rw [dm,if_neg (by rw [hi];simp),if_neg (by rw [hi,hwh];simp)]
 obtain ⟨k,o,e1,e2,e3⟩:=Lj hi (z:=3) (.inr rfl)
 rw [e3]
 subst e2
 have h1:((cA b.stack).map (fun x:It=>x.id)).Nodup:=(List.nodup_append.1 (List.nodup_append.1 (de hpl)).2.1).2.1
 exact Is hv e1 (.inr rfl) l0 l1 fun _=>⟨he,FI h1 ⟨x,hxs,hxi,hxt⟩⟩
theorem PQ {cs:List CdX} {b:Bd} {p src:Int} {e:Eff} {t:Tg} (most:Int) (hv:ar b=true) (hp:p=0∨p=1) (hs:i64 src) (hev:IP e=true):NK e most b (xN cs b p src e t most):=by
 rw [xN]
 split
 ·exact xz hv
 rename_i hb
 obtain ⟨hw,_,hi1⟩:=IF hp hs hev hb
 obtain ⟨t1,t2,t3,t4,t5,t6,t7,t8⟩:=DK hev
 have hlife:=fun q=>tp hv q
 obtain ⟨n1,_⟩:=oi hev
 have hleg:e.target ≠ 0→_:=fun h=>(Fv (SL hb h)).2.2.2
 have hid:e.target ≠ 0→idE src e t=t.id:=fun h=>by rw [idE,if_neg h]
 rw [bh]
 split
 ·rename_i c1
  split
  ·rename_i hpos
   exact Dt hv (hi1 c1 hpos) (fun o=>⟨rfl,rfl,rfl⟩) fun o h=>IQ h _
  ·have:=hlife (NS p e t)
   refine Ds hv hw _ (fun h=>?_) fun _=>.inr c1
   simp only [dI] at h;omega
 split
 ·rename_i c2
  exact Px hv hw c2 n1
 split
 ·rename_i c3
  have:=hlife (NS p e t)
  refine Ds hv hw _ (fun _=>c3) fun h=>?_
  simp only [dI] at h;omega
 split
 ·rename_i c4
  have:=hlife (NS p e t)
  refine Ds hv hw _ (fun h=>?_) fun _=>.inl c4
  simp only [dI] at h;omega
 split
 ·rename_i c6
  have ht:=t3 (.inr (.inl c6))
  have h0:e.target ≠ 0:=by omega
  rw [hid h0]
  rcases hleg h0 with ⟨_,_,ho,_⟩ | ⟨_,h⟩ | ⟨h,_⟩
  ·exact JH hv ho
  ·omega
  ·omega
 split
 ·rename_i c7
  have ht:=t4 c7
  have h0:e.target ≠ 0:=by omega
  rw [hid h0]
  rcases hleg h0 with ⟨h,_⟩ | ⟨_,h⟩ | ⟨_,_,h⟩
  ·exact absurd ht h
  ·omega
  ·exact Iu hv c7 h
 split
 ·rename_i c10
  exact RA hv hp c10 _ _
 split
 ·exact Pv hv hw _ _
 split
 ·rename_i hon
  exact Dt hv (OM hon).2.2 (Jb e) fun o h=>Ja h
 ·exact xz hv
end Go.Proofs.YtdhobpmnkfmcfaaGreatDoor
namespace Go.Proofs.YtdhobpmnkfmcfaaGreatDoor
open Go Go.Sx
set_option maxRecDepth 100000
set_option maxHeartbeats 1000000
structure Ar where
 (p src:Int)
 e:Eff
 t:Tg
 which:Int
def Wu (a:Ar):List Value:=[iV a.p,iV a.src,iV a.e.code,iV a.e.target,iV a.e.n,iV a.e.m,iV a.e.colour,iV a.t.id,iV a.t.player,iV a.which]
def ArsS (H:Heap) (v:Value) (l:List Ar):Prop:=Sl H 10 v (l.map Wu)∧∀ a ∈ l,i64 a.src
theorem ArsS.le {H H':Heap} {v:Value} {l:List Ar} (h:ArsS H v l) (hl:Heap.le H H'):ArsS H' v l:=⟨h.1.le hl,h.2⟩
theorem ArsS.len {H:Heap} {v:Value} {l:List Ar} (h:ArsS H v l):ak .len [v]=some (iV l.length):=by
 have:=h.1.len;rwa [List.length_map] at this
end Go.Proofs.YtdhobpmnkfmcfaaGreatDoor
namespace Go.Proofs.YtdhobpmnkfmcfaaGreatDoor
open Go Go.Sx
set_option maxRecDepth 100000
set_option maxHeartbeats 1000000
theorem FD {H:Heap} {e:Eff} {y z:St} {ly lz:Value} {l0 l1 l2:List Value} {n5 n6 n7 n8 n9 n10 r0 r1 r2:Nat} {i:Nat}
  (q41:g l0 41=iV e.code) (q5:g l1 n5=ly) (q6:g l0 n6=lz) (q7:g l1 n7=.bool y.empty) (q8:g l0 n8=.bool z.empty) (q9:g l1 n9=iV y.life) (q10:g l0 n10=iV z.life) (q2:g l2 0=iV i) (hi:i < 2)
  (hy:Sl H 1 ly (aG y.lib)) (hz:Sl H 1 lz (aG z.lib)) (k1:e.code ≠ 2→y.lib=z.lib∧y.empty=z.empty) (k2:∃ m,m≤z.lib.length∧y.lib=z.lib.take m) (k3:y.life > z.life→e.code=3) (k4:y.life < z.life→e.code=4∨e.code=1)
  {I:List Value→Heap→Own→Prop} {μ:List Value→Heap→Own→Nat} {m:Nat} (hI:∀ {H':Heap},Heap.le H H'→I [iV ((i + 1:Nat):Int)] H' []∧μ [iV ((i + 1:Nat):Int)] H' [] < m) :
  (bj r0 r1 l0 l1 n5 n6 n7 n8 n9 n10 l2 (NL I μ m) r2).den PP (fun r _ O'=>r=.bool true∧O'=[]) H []:=by
 simp only [bj,q41,q5,q6,q7,q8,q9,q10,q2]
 obtain ⟨k,hk,ek⟩:=k2
 have hlen:y.lib.length≤z.lib.length:=by rw [ek,List.length_take];omega
 have ylen:ak .len [ly]=some (iV y.lib.length):=by have:=hy.len;rwa [aG,List.length_map] at this
 have zlen:ak .len [lz]=some (iV z.lib.length):=by have:=hz.len;rwa [aG,List.length_map] at this
 have c39:(((e.code != 2) && (((y.lib.length:Int) != (z.lib.length:Int)) || !(y.empty == z.empty))) || decide ((y.lib.length:Int) > (z.lib.length:Int)))=false:=by
  rw [Bool.or_eq_false_iff]
  refine ⟨?_,decide_eq_false (by omega)⟩
  by_cases h2:e.code=2
  ·simp [h2]
  ·obtain ⟨a,b⟩:=k1 h2
   rw [a,b];simp
 have c52:(((decide (y.life > z.life) && (e.code != 3))) || ((decide (y.life < z.life) && (e.code != 4)) && (e.code != 1)))=false:=by
  rw [Bool.or_eq_false_iff]
  constructor
  ·by_cases h:y.life > z.life
   ·rw [k3 h];simp
   ·rw [decide_eq_false h];rfl
  ·by_cases h:y.life < z.life
   ·rcases k4 h with h4 | h4 <;> rw [h4] <;> simp
   ·rw [decide_eq_false h];rfl
 refine ab (af fun r4=>af fun r5=>?_)
 refine ab (ab (ab ?_))
 refine aa _ (ba _ _) ?_
 refine ab (ae (ae ?_))
 refine aa _ ylen ?_
 refine ab (ae (ae ?_))
 refine aa _ zlen ?_
 refine ae (ae ?_)
 refine aa _ (ba _ _) ?_
 repeat (first | refine ab ?_ | refine ae ?_ | refine aK rfl ?_)
 refine aa _ (oO _ _) ?_
 refine ae (ae (ae ?_))
 refine aa _ (aP _ _) ?_
 refine ae ?_
 refine aa _ (aU _ _) ?_
 refine ab (ae (ae ?_))
 refine aa _ ylen ?_
 refine ab (ae (ae ?_))
 refine aa _ zlen ?_
 refine ae (ae ?_)
 refine aa _ (bN _ _) ?_
 refine ae ?_
 refine aa _ (aP _ _) (aj (fun hd=>absurd (hd.symm.trans c39) (by simp)) (fun _=>?_))
 refine ab (ab (ab ?_))
 refine aa _ ylen ?_
 obtain ⟨u,hu1,hu2⟩:=hz.upto (i:=y.lib.length) (by rw [aG,List.length_map];exact hlen)
 rw [aG,← List.map_take] at hu2
 have hu2:Sl H 1 u (aG (z.lib.take y.lib.length)):=hu2
 have eT:(y.lib == z.lib.take y.lib.length)=true:=by
  rw [beq_iff_eq]
  have:y.lib.length=k:=by rw [ek,List.length_take];omega
  rw [this];exact ek
 refine aa _ hu1 ?_
 refine ai (vx (hy.rsl []) (hu2.rsl [])) rfl ⟨rfl,trivial⟩ fun H1 l1=>?_
 rw [eT]
 refine aa _ (aJ _) (aj (fun hd=>by cases hd) (fun _=>?_))
 refine ab (ab ?_)
 refine aa _ (bN _ _) ?_
 refine ab (ae (ae ?_))
 refine aa _ (ba _ _) ?_
 refine ae ?_
 refine aa _ (aU _ _) ?_
 refine ab (ae (ab (ae (ae (ae ?_)))))
 refine aa _ (aI _ _) ?_
 refine ae (ab (ae (ae (ae (ae ?_)))))
 refine aa _ (ba _ _) ?_
 refine ae (ae (ae ?_))
 refine aa _ (aU _ _) ?_
 refine ae (ab (ae (ae (ae (ae ?_)))))
 refine aa _ (ba _ _) ?_
 refine ae (ae (ae ?_))
 refine aa _ (aU _ _) ?_
 refine ae ?_
 refine aa _ (aP _ _) (aj (fun hd=>absurd (hd.symm.trans c52) (by simp)) (fun _=>?_))
 obtain ⟨a1,a2⟩:=hI l1
 exact aa _ (aA (by omega)) (fj (by simp [Eqs,E]) a1 a2)
theorem y7 {H:Heap} (hgl:GlobOk Dz H) {cv:Value} {p src most:Int} {e:Eff} {t:Tg} {b x:Bd} {v w:dG} (hb:BdS H v b) (hv:ar b=true) (hx:BdS H w x) (hk:NK e most b x) {r0 r1 r3:Nat} :
  (bJ r3 r0 r1 (cv::(ao v b++(iV p::iV src::(e.row++(t.row++[iV most]))))) (ao w x++[iV 0])).den PP (fun r _ O'=>r=.bool true∧O'=[]) H []:=by
 simp only [bJ]
 refine aX 2 (fun _ _ O=>O=[]) rfl fun i H1 O1 hi l1 hO=>?_
 subst hO
 have hb:=hb.le l1
 have hx:=hx.le l1
 refine aa _ (aI _ _) (aj (fun hlt=>?_) (fun _=>?_))
 ·have hlt:i < 2:=by have:=of_decide_eq_true hlt;omega
  rcases (by omega:i=0∨i=1) with rfl | rfl
  ·refine ⟨.i64,0,rfl,fun _=>?_,fun h=>absurd rfl h⟩
   refine ab ⟨.i64,0,rfl,fun _=>?_,fun h=>absurd rfl h⟩
   refine FD (e:=e) (y:=x.s0) (z:=b.s0) (i:=0) rfl rfl rfl rfl rfl rfl rfl rfl (by omega) hx.s0.lib hb.s0.lib (hk.lib 0 (.inl rfl)) (hk.pre 0 (.inl rfl)) (hk.up 0 (.inl rfl)) (hk.down 0 (.inl rfl)) ?_
   intro H' _
   exact ⟨⟨1,rfl,by omega,rfl⟩,by show 2 - ((1:Nat):Int).toNat < 2 - 0;omega⟩
  ·refine ⟨.i64,1,rfl,fun h=>absurd h (by omega),fun _=>?_⟩
   refine ⟨.i64,1,rfl,fun _=>?_,fun h=>absurd rfl h⟩
   refine ab ⟨.i64,1,rfl,fun h=>absurd h (by omega),fun _=>?_⟩
   refine ⟨.i64,1,rfl,fun _=>?_,fun h=>absurd rfl h⟩
   refine FD (e:=e) (y:=x.s1) (z:=b.s1) (i:=1) rfl rfl rfl rfl rfl rfl rfl rfl (by omega) hx.s1.lib hb.s1.lib (hk.lib 1 (.inr rfl)) (hk.pre 1 (.inr rfl)) (hk.up 1 (.inr rfl)) (hk.down 1 (.inr rfl)) ?_
   intro H' _
   exact ⟨⟨2,rfl,by omega,rfl⟩,by show 2 - ((2:Nat):Int).toNat < 2 - 1;omega⟩
 have xo:ak .len [w.o]=some (iV x.objs.length):=by have:=hx.objs.len;rwa [List.length_map] at this
 have bo:ak .len [v.o]=some (iV b.objs.length):=by have:=hb.objs.len;rwa [List.length_map] at this
 have xs:ak .len [w.s]=some (iV x.stack.length):=ItsR.len (hx.stack.r [])
 have bs:ak .len [v.s]=some (iV b.stack.length):=ItsR.len (hb.stack.r [])
 have h200:=Bz hv
 have h500:b.objs.length≤500:=by
  simp only [ar,og,Bool.and_eq_true,Bool.not_eq_true',Bool.or_eq_false_iff,decide_eq_false_iff_not] at hv
  omega
 have c141:((((x.objs.length:Int) != (b.objs.length:Int))) && (((e.code != 10) || ((x.objs.length:Int) != ((b.objs.length + 1:Nat):Int))) || decide ((b.objs.length:Int) ≥ most)))=false:=by
  by_cases h:x.objs.length=b.objs.length
  ·rw [h];simp
  ·obtain ⟨a1,a2,a3⟩:=hk.objs h
   rw [a1,a2,decide_eq_false (by omega)];simp
 have c151:((((x.stack.length:Int) != (b.stack.length:Int))) && ((e.code != 7) || ((x.stack.length:Int) != ((b.stack.length:Int) - 1))))=false:=by
  by_cases h:x.stack.length=b.stack.length
  ·rw [h];simp
  ·obtain ⟨a1,a2⟩:=hk.stack h
   have:(x.stack.length:Int)=(b.stack.length:Int) - 1:=by omega
   rw [a1,this];simp
 refine ab ?_
 refine aa _ xo ?_
 refine ab ?_
 refine aa _ bo ?_
 refine aa _ (ba _ _) ?_
 refine ab (ae (ae ?_))
 refine aa _ (ba _ _) ?_
 refine ae (ab (ae (ae (ae (ae ?_)))))
 refine aa _ xo ?_
 refine ab (ae (ae (ae (ae ?_))))
 refine aa _ bo ?_
 refine ae (ae ?_)
 refine aa _ (aA (by omega)) ?_
 refine ae (ae (ae (ae ?_)))
 refine aa _ (ba _ _) ?_
 refine ae (ae (ae ?_))
 refine aa _ (aP _ _) ?_
 refine ae (ab (ae (ae (ae (ae ?_)))))
 refine aa _ bo ?_
 refine ae (ae (ae (ae ?_)))
 refine aa _ (dt _ _) ?_
 refine ae (ae (ae ?_))
 refine aa _ (aP _ _) ?_
 refine ae ?_
 refine aa _ (aU _ _) (aj (fun hd=>absurd (hd.symm.trans c141) (by simp)) (fun _=>?_))
 refine ab ?_
 refine aa _ xs ?_
 refine ab ?_
 refine aa _ bs ?_
 refine aa _ (ba _ _) ?_
 refine ab (ae (ae ?_))
 refine aa _ (ba _ _) ?_
 refine ae (ab (ae (ae (ae (ae ?_)))))
 refine aa _ xs ?_
 refine ab (ae (ae (ae (ae ?_))))
 refine aa _ bs ?_
 refine ae (ae ?_)
 refine aa _ (Jk (by omega) (by omega)) ?_
 refine ae (ae (ae (ae ?_)))
 refine aa _ (ba _ _) ?_
 refine ae (ae (ae ?_))
 refine aa _ (aP _ _) ?_
 refine ae ?_
 refine aa _ (aU _ _) (aj (fun hd=>absurd (hd.symm.trans c151) (by simp)) (fun _=>?_))
 refine ax (Pq (hgl.le l1)) ?_
 rintro _ H2 _ ⟨rfl,rfl⟩ l2
 exact ⟨[.bool true],rfl,⟨rfl,trivial⟩,ah ⟨rfl,rfl⟩⟩
theorem IA {H:Heap} (hgl:GlobOk Dz H) {cv:Value} {cs:List CdX} (hk:CardsX H cv cs) {v:dG} {b:Bd} (h:BdS H v b) (p:Int) {src:Int} (hs:i64 src) (e:Eff) (t:Tg) (most:Int) :
  Triple PP ig [cv,.agg (ao v b).toArray,iV p,iV src,.agg e.row.toArray,.agg t.row.toArray,iV most] H [] fun r _ O'=>r=.bool true∧O'=[]:=by
 refine lP (vs:=cv::(ao v b++(iV p::iV src::(e.row++(t.row++[iV most]))))) (by kernel_rfl) ⟨hk.one,aE (ap (h.r [])) ⟨rfl,rfl,aE (kY e) (aE (s8 t) ⟨rfl,trivial⟩)⟩⟩ ?_
 simp only [dV]
 have kn:∀ {H'},Heap.le H H'→dZ (fun H1 O1 R=>Triple PP iZ [] H1 O1 R) false [] [] .one (fun l _=>(Tree.ret (g l 0) []).den PP fun r _ O'=>r=.bool true∧O'=[]) H' []:=fun hl=>ax (Pq (hgl.le hl)) (by
  rintro _ H2 _ ⟨rfl,rfl⟩ l2
  exact ⟨[.bool true],rfl,⟨rfl,trivial⟩,ah ⟨rfl,rfl⟩⟩)
 refine af fun r0=>af fun r1=>af fun r2=>?_
 refine ai (UN hk.base) rfl ⟨rfl,trivial⟩ fun H1 l1=>?_
 refine aa _ (aJ _) (aj (fun _=>?_) (fun hli=>?_))
 ·exact kn l1
 have hli:eQ (cs.map CdX.base)=true:=sN hli
 have h:=h.le l1
 refine ab ?_
 refine ai (UH (h.r [])) rfl ⟨rfl,trivial⟩ fun H2 l2=>?_
 have h:=h.le l2
 have l12:=Heap.le_trans l1 l2
 refine aa _ (aJ _) (aj (fun _=>?_) (fun hsm=>?_))
 ·exact kn l12
 have hsz:=QU (sN hsm)
 refine ab ?_
 refine ai (Ju (h.r _) (N6 hsz (by omega))) rfl ⟨rfl,trivial⟩ fun H3 l3=>?_
 have h:=h.le l3
 have l13:=Heap.le_trans l12 l3
 rw [F4]
 refine aa _ (aJ _) ?_
 refine ae ?_
 refine aa _ (aI _ _) ?_
 refine ae ?_
 refine aa _ (aP _ _) ?_
 refine ae ?_
 refine aa _ (bN _ _) ?_
 refine ae ?_
 refine aa _ (aP _ _) (aj (fun _=>?_) (fun hc=>?_))
 ·exact kn l13
 have hc:((!ar b || decide (p < 0)) || decide (p > 1))=false:=hc
 rw [Bool.or_assoc,qw,Bool.or_eq_false_iff] at hc
 have hv:=sN hc.1
 have hw:=sN hc.2
 have hp:p=0∨p=1:=by simp only [au,decide_eq_true_eq] at hw;omega
 refine ab ?_
 refine ai (FU e H3) rfl ⟨rfl,trivial⟩ fun H4 l4=>?_
 have h:=h.le l4
 have l14:=Heap.le_trans l13 l4
 refine aa _ (aJ _) ?_
 refine ab (ae (ae ?_))
 refine aa _ (bN _ _) ?_
 refine ae ?_
 refine aa _ (aP _ _) (aj (fun _=>?_) (fun hc=>?_))
 ·exact kn l14
 have hc:(!IP e || decide (e.n > 1000))=false:=hc
 rw [Bool.or_eq_false_iff] at hc
 have hev:=sN hc.1
 have e1:bZ cs b p src e t most=(xN cs b p src e t most,0):=by rw [bZ,if_pos (by rw [hw,hev,hv];rfl)]
 refine ab (ab (ab ?_))
 refine ax (Triple.frozen2 (GZ (hgl.le l14) (hk.le l14) hli h (WE hsz (by omega)) p most hs e t)) ?_
 rintro _ H5 _ ⟨⟨w,rfl,hx⟩,rfl⟩ l5
 have h:=h.le l5
 have l15:=Heap.le_trans l14 l5
 have hkp:=PQ (cs:=cs) (t:=t) most hv hp hs hev
 have hxz:=TA hsz cs p src (oi hev).2.1 t most
 have hbad:Ti cs b p e t→xN cs b p src e t most=b:=fun hb=>by rw [xN,if_pos hb]
 rw [e1] at hx ⊢
 simp only at hx ⊢
 generalize xN cs b p src e t most=x at *
 refine ⟨ao w x++[iV 0],rfl,aE (ap (hx.r [])) ⟨rfl,trivial⟩,af fun r3=>?_⟩
 refine ab ?_
 refine aa _ (ba _ _) (aj (fun hd=>by cases hd) (fun _=>?_))
 refine ab ?_
 refine ai (Ju (hx.r _) (N6 hxz (by omega))) rfl ⟨rfl,trivial⟩ fun H6 l6=>?_
 have h:=h.le l6
 have hx:=hx.le l6
 have l16:=Heap.le_trans l15 l6
 rw [F4,hkp.valid]
 refine aa _ (aJ _) (aj (fun hd=>by cases hd) (fun _=>?_))
 refine ab ?_
 refine aa _ (ba _ _) (aj (fun h0=>?_) (fun h0=>?_))
 ·have h0:e.target ≠ 0:=by simpa using h0
  refine ab (ab (ab ?_))
  refine ai (TQ (hk.le l16).base hli h (WE hsz (by omega)) (N6 hsz (by omega)) (by have:=hsz.2.2.2.1.1;omega) p e.target t) rfl ⟨rfl,trivial⟩ fun H7 l7=>?_
  have h:=h.le l7
  have hx:=hx.le l7
  have l17:=Heap.le_trans l16 l7
  refine aa _ (aJ _) (aj (fun hg=>?_) (fun hg=>?_))
  ·have hg:vA (cs.map CdX.base) b p e.target t=false:=vz hg
   have exb:=hbad ⟨h0,hg⟩
   refine ab (ab ?_)
   refine ai (KQ (hx.r []) (h.r [])) rfl ⟨rfl,trivial⟩ fun H8 l8=>?_
   rw [show (x == b)=true from by rw [exb];simp]
   refine aa _ (aJ _) (aj (fun hd=>by cases hd) (fun _=>?_))
   exact y7 (hgl.le (Heap.le_trans l17 l8)) (h.le l8) hv (hx.le l8) hkp
  ·exact y7 (hgl.le l17) h hv hx hkp
 ·exact y7 (hgl.le l16) h hv hx hkp
end Go.Proofs.YtdhobpmnkfmcfaaGreatDoor
