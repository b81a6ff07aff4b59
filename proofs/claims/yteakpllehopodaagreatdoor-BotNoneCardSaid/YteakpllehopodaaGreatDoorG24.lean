/- A bot plays. -/
import Derived.Test.YteakpllehopodaaGreatDoorG13
namespace Go.Proofs.YteakpllehopodaaGreatDoor
open Go Go.Sx
set_option maxRecDepth 100000
set_option maxHeartbeats 1000000
theorem uh (n:Int) (H:Heap) (O:Go.Sx.Own):RetO PP AL [iV n] H O (.bool (decide (n ≥ 1) && decide (n≤4))):=by
 refine DJ (vs:=[iV n]) (by kernel_rfl) ⟨rfl,trivial⟩ ?_
 simp only[Av]
 refine ab _ (eC _ _) (ai (ab (.bool (decide (n≤4))) rfl (ai (ab _ (bu _ _) (af ⟨rfl,rfl⟩)))))
theorem NU (H:Heap) (O:Go.Sx.Own):RetO PP uL [] H O (.agg #[.func (.func kM) #[] #[],.func (.func AK) #[] #[],.func (.func AI) #[] #[],.func (.func K2) #[] #[]]):=by
 refine yQ (vs:=[]) (by kernel_rfl) trivial ?_
 simp only[uy]
 refine ah fun r0=>?_
 refine ae (ae ?_)
 exact af ⟨rfl,rfl⟩
theorem KQ {cdv lv:Value} {w:cI} {b:Bd} {p k:Int} (ho:Ones (cdv::(ao w b++[iV p,iV k,lv,iV 0]))) (H:Heap) (O:Go.Sx.Own):RetO PP kM [.agg (cdv::(ao w b++[iV p,iV k,lv,iV 0])).toArray] H O (iV 0):=by
 refine ve (vs:=cdv::(ao w b++[iV p,iV k,lv,iV 0])) (by kernel_rfl) ho ?_
 simp only[qh]
 exact ah fun r0=>af ⟨rfl,rfl⟩
theorem NW {H:Heap} {O:Go.Sx.Own} {cdv lv:Value} {w:cI} {b:Bd} (h1:cdv.oneCell'=true) (hw:BdS H w b) {a:Int} {rows:List (List Value)} (hs:Sl H 3 lv (im a 0 0::rows)) (p k:Int) :
  RetO PP xz [iV 1,cdv,.agg (ao w b).toArray,.agg #[iV p,iV k,lv],iV 0] H O (.tuple #[.agg #[iV a,iV 0,iV 0],iV 0]):=by
 have hones:Ones (cdv::(ao w b++[iV p,iV k,lv,iV 0])):=⟨h1,aK (ap (hw.r [])) ⟨rfl,rfl,hs.one,rfl,trivial⟩⟩
 refine Bc (vs:=iV 1::cdv::(ao w b++[iV p,iV k,lv,iV 0])) (by kernel_rfl) ⟨rfl,hones⟩ ?_
 simp only[wW]
 refine ah fun r0=>ah fun r1=>ah fun r2=>?_
 refine am (uh 1 _ _) rfl ⟨rfl,trivial⟩ fun H1 l1=>ab (.bool false) rfl ?_
 refine ae (ai (ai ?_))
 have hlen:=hs.len
 rw[List.length_cons] at hlen
 refine ab _ hlen ?_
 refine ai ?_
 refine ab (.bool false) (by rw[aw];congr 2) ?_
 refine ai ?_
 refine ab (.bool false) rfl (aj (fun hd=>by cases hd) (fun _=>?_))
 refine ae ?_
 refine ab (iV 0) rfl ?_
 refine ae (ae ?_)
 refine am (NU _ _) rfl ⟨rfl,rfl,rfl,rfl,trivial⟩ fun H2 l2=>?_
 refine ab _ (ET (i:=0) rfl) ?_
 refine dU rfl (dE fc (by decide)) (KQ hones _ _) rfl ⟨rfl,trivial⟩ fun H3 l3=>?_
 obtain⟨q,e1,e2,e3,e4⟩:=(hs.le (Heap.le_trans l1 (Heap.le_trans l2 l3))).idx (k:=.i64) (i:=0) (r:=im a 0 0) rfl
 refine ab _ e1 (nH e2 e3 e4 ?_)
 refine ae (ae ?_)
 exact af ⟨rfl,rfl⟩
theorem GQ.lv {H:Heap} {g d:Nat} {cv dl:Value} {l:List Nat} {u:Nat} {c:Cf} {cs:List CdF} {k:Nat} {r:Value} {O:Go.Sx.Own} (h:GQ g d cv dl u c k r H O) (hG:Gs H cv dl l u c cs):(∃ n:Int,r=iV n)∧Lv g d cv dl l u c cs k H O:=by
 obtain⟨n,v,b,l0,l1,rs,e,h⟩:=h
 exact⟨⟨n,e⟩,hG,v,b,l0,l1,rs,h⟩
theorem S3 {H:Heap} {g d:Nat} {cv dl:Value} {l:List Nat} {u:Nat} {c:Cf} {cs:List CdF} (hG:Gs H cv dl l u c cs) {v:cI} {b:Bd} (h:BdS H v b) (hI:Iv b) (hr:1≤rk b) (he0:b.s0.empty=false) (he1:b.s1.empty=false) (hk:prK b ≠ 0)
  {lv cdv sv:Value} {rows:List (List Value)} (hs:Sl H 3 lv (im (Rk b) 0 0::rows)) (h1:cdv.oneCell'=true) {m:Nat} (hm:al .len [sv]=some (iV m)) (p k:Int) {i:Nat} (hi:i < 5) {n:Nat} (hn:n=1∨n=2) (r0 r1 r2:Nat)
  {C:List Value→Heap→Go.Sx.Own→Prop} {Q:Value→Heap→Go.Sx.Own→Prop} (hC:∀ eqs H' O',Eqs eqs→Heap.le H H'→Lv g d cv dl l u c cs (rk b - 1) H' O'→(Tree.cont 35 C [iV ((i + 1:Nat):Int),iV 0] eqs).den PP Q H' O') :
  (lJ r0 [gp g,iV 1,iV 1,sv,iV 5] n [iV i,iV 0] r2 [cdv] [iV p,iV k,lv] r1 C).den PP Q H (GO g d cv dl u c v b false false 0):=by
 have e:Go.Sx.g [gp g,iV 1,iV 1,sv,iV 5] n=iV 1:=by rcases hn with rfl | rfl <;> rfl
 unfold lJ
 rw[e]
 refine ae ?_
 refine ab (.bool false) rfl ?_
 refine ai ?_
 refine ab _ hm ?_
 refine ai ?_
 refine ab _ (bG _ _) ?_
 refine ai ?_
 refine ab (.bool false) rfl (aj (fun hd=>by cases hd) (fun _=>?_))
 refine ae ?_
 refine bj (Jy h hI.q false false 0) ?_
 rintro _ H1 _ ⟨⟨w,rfl,hw⟩,rfl⟩ l1
 refine⟨ao w b,rfl,ap (hw.r []),?_⟩
 refine am (NW h1 hw (hs.le l1) p k) rfl ⟨rfl,rfl,rfl,rfl,trivial⟩ fun H2 l2=>ah fun r3=>?_
 have l12:=Heap.le_trans l1 l2
 refine ae ?_
 refine ab (.bool false) rfl (aj (fun hd=>by cases hd) (fun _=>?_))
 refine ae ?_
 refine bj (QJ (hG.le l12) (h.le l12) hI hr he0 he1 hk) ?_
 rintro _ H3 O3 ⟨n',rfl,hq⟩ l3
 obtain⟨⟨z,rfl⟩,hL⟩:=hq.lv (hG.le (Heap.le_trans l12 l3))
 refine⟨[iV z,iV 0],rfl,⟨rfl,rfl,trivial⟩,?_⟩
 refine ab (.bool false) rfl (aj (fun hd=>by cases hd) (fun _=>?_))
 refine ab _ (aD (by omega)) ?_
 exact hC _ H3 O3 ⟨rfl,rfl,rfl,rfl,rfl,rfl,rfl,rfl,trivial⟩ (Heap.le_trans l12 l3) hL
def PlQ (r:Value):Prop:=∃ n x y:Int,r=.tuple #[iV n,.agg #[iV x,iV y],iV 0]
theorem NM {H:Heap} {g d:Nat} {cv dl:Value} {l:List Nat} {u:Nat} {c:Cf} {cs:List CdF} (hG:Gs H cv dl l u c cs) {v:cI} {b:Bd} (h:BdS H v b) (hq:Qt b) (l0 l1:Bool) (rs:Int) (sv:Value) (r1:Nat) (i:Int) :
  (lI [gp g,iV 1,iV 1,sv,iV 5] r1 [iV i,iV 0]).den PP (fun r _ _=>PlQ r) H (GO g d cv dl u c v b l0 l1 rs):=by
 unfold lI
 refine bj (VI hG h hq l0 l1 rs) ?_
 rintro _ H1 _ ⟨⟨x,y,rfl⟩,rfl⟩ m1
 refine⟨[iV x,iV y,iV 0],rfl,⟨rfl,rfl,rfl,trivial⟩,?_⟩
 refine ae (ae (ae (ae ?_)))
 exact af ⟨i,x,y,rfl⟩
theorem N4 {H:Heap} {O:Go.Sx.Own} {g d:Nat} {cv dl:Value} {l:List Nat} {u:Nat} {c:Cf} {cs:List CdF} (hL:Lv g d cv dl l u c cs 5 H O) (h400:cs.length≤400) {sv:Value} {m:Nat} (hs1:sv.oneCell'=true) (hm:al .len [sv]=some (iV m)) (hm1:m≤1000) :
  Triple PP qW [gp g,.agg #[iV 1,iV 1],sv,iV 5] H O fun r _ _=>PlQ r:=by
 refine o8 (vs:=[gp g,iV 1,iV 1,sv,iV 5]) (by kernel_rfl) ⟨rfl,rfl,rfl,hs1,rfl,trivial⟩ ?_
 simp only[qV]
 obtain⟨hG,v,b,l0,l1,rs,rfl,h,hI,hr,hz⟩:=hL
 refine ah fun r0=>ah fun r1=>?_
 refine bj (Iu hG h hI.q l0 l1 rs) ?_
 rintro _ H1 _ ⟨⟨k,rfl⟩,rfl⟩ m1
 refine⟨[gp k],rfl,⟨rfl,trivial⟩,?_⟩
 refine ab (.bool false) rfl (aj (fun hd=>by cases hd) (fun _=>?_))
 refine ae ?_
 refine am (uh 1 _ _) rfl ⟨rfl,trivial⟩ fun H2 m2=>ab (.bool false) rfl (aj (fun hd=>by cases hd) (fun _=>?_))
 refine ae ?_
 refine am (uh 1 _ _) rfl ⟨rfl,trivial⟩ fun H3 m3=>ab (.bool false) rfl ?_
 refine ai ?_
 refine ab (.bool false) rfl ?_
 refine ai ?_
 refine ab (.bool false) rfl ?_
 refine ai ?_
 refine ab (.bool false) rfl ?_
 refine ai ?_
 refine ab (.bool false) rfl (aj (fun hd=>by cases hd) (fun _=>?_))
 refine ab _ hm (ab _ (bG _ _) (aj (fun hd=>by have:=of_decide_eq_true hd;omega) (fun _=>?_)))
 have m13:=Heap.le_trans m1 (Heap.le_trans m2 m3)
 refine bj (Qs (hG.le m13) h400 v b l0 l1 rs) ?_
 rintro cdv H4 _ ⟨hc1,rfl⟩ m4
 have m14:=Heap.le_trans m13 m4
 refine⟨[cdv],rfl,⟨hc1,trivial⟩,?_⟩
 refine dG (fun vs H' O'=>∃ i:Nat,vs=[iV i,iV 0]∧i≤5∧Lv g d cv dl l u c cs (5 - i) H' O') (fun vs _ _=>match Go.Sx.g vs 0 with | .int _ k=>5 - k.toNat | _=>0) ⟨0,rfl,by omega,hG.le m14,v,b,l0,l1,rs,rfl,h.le m14,hI,hr,hz⟩ ?_
 rintro _ H5 O5 _ _ _ ⟨i,rfl,hi,hG5,v5,b5,l05,l15,rs5,rfl,h5,hI5,hr5,hz5⟩
 have hq5:=hI5.q
 refine ab _ (aG _ _) (aj (fun hd=>?_) (fun hd=>?_))
 ·have hlt:i < 5:=by have:=of_decide_eq_true hd;omega
  rcases hz5 with hz5 | ⟨rfl,rfl,rfl,he0,he1,hk⟩
  ·refine am (Iy (cT ..) hz5) rfl ⟨rfl,rfl,rfl,trivial⟩ fun H6 m6=>ah fun r2=>?_
   refine ae (ae ?_)
   refine ab (.bool true) rfl (aj (fun _=>?_) (fun hd=>by cases hd))
   exact NM (hG5.le m6) (h5.le m6) hq5 _ _ _ sv r1 i
  ·refine bj (EG hG5 h5 hq5 hI5.pq he0 he1 false false) ?_
   rintro r H6 _ ⟨⟨hP,_⟩,rfl⟩ m6
   obtain⟨p,k,lv,rows,hp,hk0,rfl,hw⟩:∃ (p k:Int) (lv:Value) (rows:List (List Value)),(p=0∨p=1)∧k ≠ 0∧r=.agg #[iV p,iV k,lv]∧Sl H6 3 lv (im (Rk b5) 0 0::rows):=by
    rcases hP with hP | hP | hP
    ·exact absurd hP.1 hk
    ·obtain⟨e,⟨w,rows,rfl,hw,_⟩,_⟩:=hP
     have ea:Rk b5=2:=if_pos e
     rw[ea]
     exact⟨_,1,w,rows,by split <;> simp,by decide,rfl,hw⟩
    ·obtain⟨e,⟨w,rows,rfl,hw,_⟩,_⟩:=hP
     have ea:Rk b5=1:=if_neg (by rw[e];decide)
     rw[ea]
     exact⟨_,2,w,rows,hq5.ac,by decide,rfl,hw⟩
   refine⟨[iV p,iV k,lv],rfl,⟨rfl,rfl,hw.one,trivial⟩,ah fun r2=>?_⟩
   refine ae (ae ?_)
   refine ab _ (aw _ _) (aj (fun hd=>absurd (beq_iff_eq.1 hd) hk0) (fun _=>?_))
   refine ae ?_
   have hC:∀ (n:Nat),(n=1∨n=2)→_:=fun n hn=>S3 (hG5.le m6) (h5.le m6) hI5 (by omega) he0 he1 hk hw hc1 hm p k hlt hn r0 r1 r2 (Q:=fun r _ _=>PlQ r)
    (C:=K5 (fun vs H' O'=>∃ i:Nat,vs=[iV i,iV 0]∧i≤5∧Lv g d cv dl l u c cs (5 - i) H' O') (fun vs _ _=>match Go.Sx.g vs 0 with | .int _ k=>5 - k.toNat | _=>0) (5 - (i:Int).toNat)) fun eqs H' O' he _ ⟨k1,v',b',x0,x1,y,k2,k3,k4,k5,k6⟩=>cU he ⟨i + 1,rfl,hlt,k1,v',b',x0,x1,y,k2,k3,k4,by omega,k6⟩ (by
     show 5 - ((i + 1:Nat):Int).toNat < 5 - (i:Int).toNat
     omega)
   refine⟨_,p,rfl,fun _=>hC 1 (.inl rfl),fun hp0=>⟨_,p,rfl,fun _=>hC 2 (.inr rfl),fun hp1=>?_⟩⟩
   rcases hp with rfl | rfl
   ·exact absurd rfl hp0
   ·exact absurd rfl hp1
 ·exact NM hG5 h5 hq5 _ _ _ sv r1 i
theorem KV {H:Heap} {O:Go.Sx.Own} {g d:Nat} {cv dl:Value} {l:List Nat} {u:Nat} {c:Cf} {cs:List CdF} {k0:Nat} (hL:Lv g d cv dl l u c cs k0 H O) {sv:Value} {m:Nat} (hs1:sv.oneCell'=true) (hm:al .len [sv]=some (iV m)) (hm1:1000 < m) :
  RetO PP qW [gp g,.agg #[iV 1,iV 1],sv,iV 5] H O (.tuple #[iV 0,.agg #[iV 0,iV 0],iV 5]):=by
 refine o8 (vs:=[gp g,iV 1,iV 1,sv,iV 5]) (by kernel_rfl) ⟨rfl,rfl,rfl,hs1,rfl,trivial⟩ ?_
 simp only[qV]
 obtain⟨hG,v,b,l0,l1,rs,rfl,h,hI,_⟩:=hL
 refine ah fun r0=>ah fun r1=>?_
 refine bj (Iu hG h hI.q l0 l1 rs) ?_
 rintro _ H1 _ ⟨⟨k,rfl⟩,rfl⟩ m1
 refine⟨[gp k],rfl,⟨rfl,trivial⟩,?_⟩
 refine ab (.bool false) rfl (aj (fun hd=>by cases hd) (fun _=>?_))
 refine ae ?_
 refine am (uh 1 _ _) rfl ⟨rfl,trivial⟩ fun H2 m2=>ab (.bool false) rfl (aj (fun hd=>by cases hd) (fun _=>?_))
 refine ae ?_
 refine am (uh 1 _ _) rfl ⟨rfl,trivial⟩ fun H3 m3=>ab (.bool false) rfl ?_
 refine ai ?_
 refine ab (.bool false) rfl ?_
 refine ai ?_
 refine ab (.bool false) rfl ?_
 refine ai ?_
 refine ab (.bool false) rfl ?_
 refine ai ?_
 refine ab (.bool false) rfl (aj (fun hd=>by cases hd) (fun _=>?_))
 refine ab _ hm (ab _ (bG _ _) (aj (fun _=>?_) (fun hd=>by have:=of_decide_eq_false hd;omega)))
 refine ae (ae (ae ?_))
 exact af ⟨rfl,rfl⟩
theorem CP {H:Heap} {O:Go.Sx.Own} {p sv:Value} (h1:p.oneCell'=true) (hs1:sv.oneCell'=true) (hn:∀ H',Heap.le H H'→RetO PP dz [p] H' O (.bool true)) (s0 s1 n:Int) :
  RetO PP qW [p,.agg #[iV s0,iV s1],sv,iV n] H O (.tuple #[iV 0,.agg #[iV 0,iV 0],iV 1]):=by
 refine o8 (vs:=[p,iV s0,iV s1,sv,iV n]) (by kernel_rfl) ⟨h1,rfl,rfl,hs1,rfl,trivial⟩ ?_
 simp only[qV]
 refine ah fun r0=>ah fun r1=>?_
 refine am (TE h1 (hn H (Heap.le_refl _))) rfl ⟨rfl,trivial⟩ fun H1 m1=>?_
 refine ab (.bool true) rfl (aj (fun _=>?_) (fun hd=>by cases hd))
 refine ae (ae (ae ?_))
 exact af ⟨rfl,rfl⟩
end Go.Proofs.YteakpllehopodaaGreatDoor
