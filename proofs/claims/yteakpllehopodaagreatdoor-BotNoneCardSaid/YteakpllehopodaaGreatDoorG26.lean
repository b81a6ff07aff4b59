/- BotNone is true. -/
import Derived.Test.YteakpllehopodaaGreatDoorG24
import Derived.Test.YteakpllehopodaaGreatDoorG25
namespace Go.Proofs.YteakpllehopodaaGreatDoor
open Go Go.Sx
set_option maxRecDepth 100000
set_option maxHeartbeats 1000000
theorem GM {P:Program} {f:FuncId} {args:List Value} {H:Heap} {O:Go.Sx.Own} {frz:List BV} {shp:Shp} {R:Value→Heap→Go.Sx.Own→Prop} {K:List Value→List (List Value)→Heap→Go.Sx.Own→Prop} (h:∀ Hf,Heap.le H Hf→Triple P f args Hf O R)
  (hk:∀ v H' O',R v H' O'→Heap.le H H'→∃ vs,shp.open v=some vs∧Ones vs∧K vs [] H' O'):dc (fun H1 O1 R=>Triple P f args H1 O1 R) false frz [] shp K H O:=by
 intro _
 refine⟨H.insAll frz,O,[],R,Ghost.perm (by simp),by simpa using h _ (Heap.le_insAll frz H),fun v H' O' hr hle=>?_⟩
 obtain⟨vs,h1,h2,h3⟩:=hk v H' O' hr (Heap.le_trans (Heap.le_insAll frz H) hle)
 exact⟨vs,[],O',h1,h2,trivial,rfl,by simpa using h3⟩
def MkQ (c:Cf) (cs:List CdF) (l:List Nat) (r:Value) (H':Heap) (O':Go.Sx.Own):Prop:=r=.pointer none∨(cs.length≤60∧∃ g d cv dl u,r=gp g∧Lv g d cv dl l u c cs 5 H' O')
theorem UG {H:Heap} (hw:Wd H) {c:Cf} {cv lv va vc:Value} {cs:List CdF} {l:List Nat} {a e:List Int} (hc:CardsF H cv cs) (hl:Sl H 1 lv (l.map fun n=>[uV n])) (hlw:∀ n ∈ l,n < 2 ^ 64)
  (ha:Sl H 1 va (aJ a)) (he:Sl H 1 vc (aJ e)):Triple PP kH [.agg (cfC c++[cv,va,vc,lv]).toArray] H [] (MkQ c cs l):=by
 refine oW (vs:=cfC c++[cv,va,vc,lv]) (by kernel_rfl) ⟨rfl,rfl,rfl,rfl,rfl,rfl,hc.one,ha.one,he.one,hl.one,trivial⟩ ?_
 simp only[kA]
 have hlen:al .len [cv]=some (iV cs.length):=by
  obtain⟨rows,h1,h2,_⟩:=hc
  rw[← h2];exact h1.len
 have lna:al .len [va]=some (iV a.length):=by have:=ha.len;rwa [aJ,List.length_map] at this
 have lne:al .len [vc]=some (iV e.length):=by have:=he.len;rwa [aJ,List.length_map] at this
 have lnl:al .len [lv]=some (iV l.length):=by have:=hl.len;rwa [List.length_map] at this
 refine ah fun r0=>?_
 refine ae ?_
 refine ab _ hlen (ab _ (bG _ _) ?_)
 refine ai (ae (ai (ai ?_)))
 refine ab _ lna ?_
 refine ai ?_
 refine ab _ (bG _ _) ?_
 refine ai ?_
 refine ab _ (aO _ _) ?_
 refine ai (ae (ai (ai ?_)))
 refine ab _ lne ?_
 refine ai ?_
 refine ab _ (bG _ _) ?_
 refine ai ?_
 refine ab _ (aO _ _) ?_
 refine ae (ai (ai ?_))
 refine ab _ lnl ?_
 refine ai ?_
 refine ab _ (bG _ _) ?_
 refine ai ?_
 refine ab _ (aO _ _) (aj (fun _=>af (.inl rfl)) (fun hd=>?_))
 simp only[Bool.or_eq_false_iff,decide_eq_false_iff_not] at hd
 obtain⟨⟨⟨d1,d2⟩,d3⟩,d4⟩:=hd
 refine ae (ae (ae (ae ?_)))
 refine bj (UQ hw hc (by omega) ⟨hl,by omega,hlw⟩ ha he (by omega) (by omega)) ?_
 rintro _ H1 O1 (⟨x,rfl,hx⟩ | ⟨g,d,cv',dl,u,rfl,hL⟩) m1
 ·refine⟨[.pointer none,iV x],rfl,⟨rfl,rfl,trivial⟩,?_⟩
  exact ab _ (fx _ _) (aj (fun _=>af (.inl rfl)) (fun hd=>absurd (bne_eq_false_iff_eq.1 hd) hx))
 ·refine⟨[gp g,iV 0],rfl,⟨rfl,rfl,trivial⟩,?_⟩
  refine ab (.bool false) rfl (aj (fun hd=>by cases hd) (fun _=>?_))
  exact af (.inr ⟨by omega,g,d,cv',dl,u,rfl,hL⟩)
theorem RP:RQ PP (.eqv .neq 52 false) [.agg #[iV 0,iV 0],.agg #[iV 0,iV 0]]=some (.bool false):=by kernel_rfl
theorem HG {H:Heap} (hw:Wd H) {c:Cf} {cv lv va vc:Value} {cs:List CdF} {l:List Nat} {a e:List Int} (hc:CardsF H cv cs) (hl:Sl H 1 lv (l.map fun n=>[uV n])) (hlw:∀ n ∈ l,n < 2 ^ 64)
  (ha:Sl H 1 va (aJ a)) (he:Sl H 1 vc (aJ e)) (s0 s1 n:Int) :
  Triple PP iH [.agg (cfC c++[cv,va,vc,lv]).toArray,.agg #[iV s0,iV s1],iV n] H [] fun v _ O'=>v=.bool true∧O'=[]:=by
 refine mo (vs:=cfC c++[cv,va,vc,lv,iV s0,iV s1,iV n]) (by kernel_rfl) ⟨rfl,rfl,rfl,rfl,rfl,rfl,hc.one,ha.one,he.one,hl.one,rfl,rfl,rfl,trivial⟩ ?_
 simp only[iD]
 refine ah fun r0=>ah fun r1=>ah fun r2=>ah fun r3=>?_
 refine ae (ae ?_)
 refine am (CP rfl rfl (fun H' _=>S7 H' _) s0 s1 n) rfl ⟨rfl,rfl,rfl,rfl,trivial⟩ fun H1 m1=>ah fun r4=>?_
 refine ae ?_
 refine ab (.bool false) rfl ?_
 refine ae (ai (ai ?_))
 refine tK RP ?_
 refine ai ?_
 refine ab (.bool false) rfl ?_
 refine ai ?_
 refine ab (.bool false) rfl ?_
 refine ai ?_
 refine ab (.bool false) rfl (aj (fun hd=>by cases hd) (fun _=>?_))
 refine ae (ae ?_)
 refine ug (own:=[⟨r2,48,Z0⟩]) (CP (p:=gp r2) rfl rfl (fun H' _=>S5 (r:=r2) (T:=48) List.mem_cons_self) s0 s1 n) rfl ⟨rfl,rfl,rfl,rfl,trivial⟩ ⟨rfl,(by simp[Ones,Value.oneCell']),trivial⟩ fun H2 m2=>ah fun r5=>?_
 refine ae ?_
 refine ab (.bool false) rfl ?_
 refine ae (ai (ai ?_))
 refine tK RP ?_
 refine ai ?_
 refine ab (.bool false) rfl ?_
 refine ai ?_
 refine ab (.bool false) rfl ?_
 refine ai ?_
 refine ab (.bool false) rfl (aj (fun hd=>by cases hd) (fun _=>?_))
 refine ae ?_
 have m12:=Heap.le_trans m1 m2
 refine bj (UG (hw.le m12) (c:=c) (hc.le m12) (hl.le m12) hlw (ha.le m12) (he.le m12)) ?_
 rintro _ H3 O3 (rfl | ⟨h60,g,d,cv',dl,u,rfl,hL⟩) m3
 ·refine⟨[.pointer none],rfl,⟨rfl,trivial⟩,?_⟩
  refine ab (.bool true) rfl (aj (fun _=>?_) (fun hd=>by cases hd))
  exact am (Jv _ _) rfl ⟨rfl,trivial⟩ fun H4 m4=>qJ ⟨rfl,rfl⟩
 refine⟨[gp g],rfl,⟨rfl,trivial⟩,?_⟩
 refine ab (.bool false) rfl (aj (fun hd=>by cases hd) (fun _=>?_))
 obtain⟨hG,v,b,l0,l1,rs,rfl,k1,k2,k3,k4⟩:=hL
 refine ah fun r6=>?_
 refine GM (fun Hf hf=>KV (k0:=5) (m:=1001) ⟨hG.le hf,v,b,l0,l1,rs,rfl,k1.le hf,k2,k3,k4⟩ rfl rfl (by decide)) ?_
 rintro _ H4 _ ⟨rfl,rfl⟩ m4
 refine⟨[iV 0,iV 0,iV 0,iV 5],rfl,⟨rfl,rfl,rfl,rfl,trivial⟩,ah fun r7=>?_⟩
 refine ae ?_
 refine ab (.bool false) rfl ?_
 refine ae (ai (ai ?_))
 refine tK RP ?_
 refine ai ?_
 refine ab (.bool false) rfl ?_
 refine ai ?_
 refine ab (.bool false) rfl ?_
 refine ai ?_
 refine ab (.bool false) rfl (aj (fun hd=>by cases hd) (fun _=>?_))
 refine ah fun r8=>?_
 refine GM (fun Hf hf=>N4 (m:=1000) ⟨hG.le (Heap.le_trans m4 hf),v,b,l0,l1,rs,rfl,k1.le (Heap.le_trans m4 hf),k2,k3,k4⟩ (by omega) rfl rfl (by decide)) ?_
 rintro _ H5 O5 ⟨x,y,z,rfl⟩ m5
 refine⟨[iV x,iV y,iV z,iV 0],rfl,⟨rfl,rfl,rfl,rfl,trivial⟩,?_⟩
 refine ab (.bool true) rfl (aj (fun _=>?_) (fun hd=>by cases hd))
 exact am (Jv _ _) rfl ⟨rfl,trivial⟩ fun H6 m6=>qJ ⟨rfl,rfl⟩
end Go.Proofs.YteakpllehopodaaGreatDoor
