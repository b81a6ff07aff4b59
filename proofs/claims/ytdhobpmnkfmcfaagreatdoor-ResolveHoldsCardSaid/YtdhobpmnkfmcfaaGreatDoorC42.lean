/- slices.Insert of one object. -/
import Derived.Test.YtdhobpmnkfmcfaaGreatDoorC51
import Derived.Test.YtdhobpmnkfmcfaaGreatDoorRW
import Derived.Test.YtdhobpmnkfmcfaaGreatDoorC32
import Derived.Test.YtdhobpmnkfmcfaaGreatDoorC21
namespace Go.Proofs.YtdhobpmnkfmcfaaGreatDoor
open Go Go.Sx
set_option maxRecDepth 100000
set_option maxHeartbeats 1000000
theorem Jp {size n k cap:Nat} {cs row src:List Value} {rows:List (List Value)} (hn:rows.length=n) (hk:k≤n) (hl:∀ row ∈ rows,row.length=size) (ht:cs.take (n * size)=rows.flatten) (hr:row.length=size) (hcl:cs.length=cap * size) (hcap:n + 1≤cap)
  (hsrc:src=(cs.drop (k * size)).take ((n - k) * size)) :
  let cs1:=cs.take ((k + 1) * size)++src++cs.drop ((k + 1) * size + src.length)
  let cs2:=cs1.take (k * size)++row++cs1.drop (k * size + row.length)
  cs1.length=cap * size∧cs2.length=cap * size∧cs2.take ((n + 1) * size)=(rows.take k++[row]++rows.drop k).flatten:=by
 subst hn
 obtain ⟨a1,a2⟩:=tL hl ht hk
 rw [← hsrc] at a2
 have e1:(k + 1) * size=k * size + size:=by rw [Nat.add_mul,Nat.one_mul]
 have e2:(rows.length + 1) * size=rows.length * size + size:=by rw [Nat.add_mul,Nat.one_mul]
 have e3:(rows.length - k) * size=rows.length * size - k * size:=Nat.sub_mul _ _ _
 have e4:k * size≤rows.length * size:=Nat.mul_le_mul_right _ hk
 have e5:(rows.length + 1) * size≤cap * size:=Nat.mul_le_mul_right _ hcap
 have hsl:src.length=rows.length * size - k * size:=by rw [hsrc,List.length_take,List.length_drop];omega
 intro cs1 cs2
 have h1:cs1.length=cap * size:=by
  show (cs.take ((k + 1) * size)++src++cs.drop ((k + 1) * size + src.length)).length=_
  rw [List.length_append,List.length_append,List.length_take,List.length_drop];omega
 have hd:cs1.drop (k * size + row.length)=src++cs.drop ((k + 1) * size + src.length):=by
  show (cs.take ((k + 1) * size)++src++cs.drop ((k + 1) * size + src.length)).drop _=_
  rw [List.append_assoc,List.drop_append_of_le_length (by rw [List.length_take];omega),List.drop_eq_nil_of_le (by rw [List.length_take];omega),List.nil_append]
 have htk:cs1.take (k * size)=(rows.take k).flatten:=by
  show (cs.take ((k + 1) * size)++src++cs.drop ((k + 1) * size + src.length)).take _=_
  rw [List.append_assoc,List.take_append_of_le_length (by rw [List.length_take];omega),List.take_take,Nat.min_eq_left (by omega),a1]
 have hkl:(rows.take k).flatten.length=k * size:=by rw [a1,List.length_take];omega
 have h2:cs2=(rows.take k++[row]++rows.drop k).flatten++cs.drop ((k + 1) * size + src.length):=by
  show cs1.take (k * size)++row++cs1.drop (k * size + row.length)=_
  rw [hd,htk,List.flatten_append,List.flatten_append,← a2,List.flatten_cons,List.flatten_nil,List.append_nil,List.append_assoc,List.append_assoc,List.append_assoc]
 have h3:(rows.take k++[row]++rows.drop k).flatten.length=(rows.length + 1) * size:=by
  rw [List.flatten_append,List.flatten_append,List.length_append,List.length_append,hkl,List.flatten_cons,List.flatten_nil,List.append_nil,a2,hr,hsl];omega
 refine ⟨h1,?_,?_⟩
 ·rw [h2,List.length_append,h3,List.length_drop];omega
 ·rw [h2,List.take_append_of_le_length (by omega),← h3,List.take_length]
theorem BS {r n cap k:Nat} (hk:k≤n) (hnc:n≤cap) (hck:k < cap):ak (.slc 12 true false false) [.slice (some ⟨r,0,none⟩) n cap,iV (k:Int)]=some (.slice (some ⟨r,k * 12,none⟩) (n - k) (cap - k)):=by
 have b3:bL n cap (some (iV (k:Int))) none none=some (k,n,cap):=by
  simp [bL,cJ,ei,oo,asI,hk]
 simp only [ak,eL,jp,b3,Option.map_some]
 rw [if_neg (by omega)]
 show some (Value.slice (some ((⟨r,0,none⟩:Addr).add (k * 12))) (n - k) (cap - k))=_
 rw [cK,Nat.zero_add]
theorem SC {r n cap k:Nat} (hk:k≤cap):ak (.slc 12 false true false) [.slice (some ⟨r,0,none⟩) n cap,iV (k:Int)]=some (.slice (some ⟨r,0,none⟩) k cap):=by
 have b2:bL n cap none (some (iV (k:Int))) none=some (0,k,cap):=by
  simp [bL,cJ,ei,oo,asI,hk]
 simp only [ak,eL,jp,b2,Option.map_some]
 simp [Addr.add]
theorem RZ {H:Heap} {A:Own} {v:Value} {rows:List (List Value)} (h:OSl aO 12 v rows A) {k:Nat} (hk:k≤rows.length) (hlen:rows.length≤1000000) {rb:Nat} {row:List Value} (hrl:row.length=12) (hro:Ones row) (hrb:H rb=some (.cells row.toArray aO (0,0))) :
  Triple PP dw [v,iV (k:Int),.slice (some ⟨rb,0,none⟩) 1 1] H A fun v' _ O'=>∃ A' X,O'=A'++X∧OSl aO 12 v' (rows.take k++[row]++rows.drop k) A':=by
 refine gK (vs:=[v,iV (k:Int),.slice (some ⟨rb,0,none⟩) 1 1]) (by kernel_rfl) ⟨h.one,rfl,rfl,trivial⟩ ?_
 simp only [cd]
 obtain ⟨hu,inf,hinf,hsz⟩:=NJ (P:=PP) (t:=23) (e:=aO) (size:=12) (bytes:=80) (by kernel_rfl)
 have hvl:=h.len
 by_cases hkn:k=rows.length
 ·
  have hsl:∃ u,ak (.slc 12 true false false) [v,iV (k:Int)]=some u∧u.oneCell'=true:=by
   rcases h with ⟨⟨a,rfl⟩,rfl,rfl⟩ | ⟨r,cs,cap,rfl,rfl,hcl,hlc,hcap,hl,ho,ht⟩
   ·subst hkn;exact ⟨_,rfl,by cases a <;> rfl⟩
   ·have b3:bL rows.length cap (some (iV (k:Int))) none none=some (k,rows.length,cap):=by
     simp [bL,cJ,ei,oo,asI,hk]
    simp only [ak,eL,jp,b3,Option.map_some]
    exact ⟨_,rfl,by split <;> rfl⟩
  obtain ⟨u,hu1,hu2⟩:=hsl
  refine aa _ hu1 ?_
  refine aa (iV 1) rfl ?_
  refine aa _ (aC _ _) (aj (fun hb=>by simp at hb) (fun _=>?_))
  refine aa _ hvl ?_
  refine aa _ (aC _ _) (aj (fun _=>?_) (fun hb=>by simp [hkn] at hb))
  refine aD (rows:=rows) (news:=[row]) (O1:=A) (O2:=[]) (e:=aO) (size:=12) (bytes:=80) (by kernel_rfl) (by simp) h (fun Hf lf _=>Sl.block1 (lf.1 _ _ hrb) hrl hro) (by simp;omega) (by simp;omega) ?_
  intro v' A' H6 l6 hA'
  refine ah ⟨A',[],rfl,?_⟩
  rw [hkn,List.take_length,List.drop_length,List.append_nil]
  exact hA'
 ·have hkl:k < rows.length:=by omega
  rcases h with ⟨⟨a,rfl⟩,rfl,rfl⟩ | ⟨r,cs,cap,rfl,rfl,hcl,hlc,hcap,hl,ho,ht⟩
  ·simp at hkl
  have hsl:=BS (r:=r) hk hlc (by omega)
  refine aa _ hsl ?_
  refine aa (iV 1) rfl ?_
  refine aa _ (aC _ _) (aj (fun hb=>by simp at hb) (fun _=>?_))
  refine aa _ hvl ?_
  refine aa _ (aC _ _) (aj (fun hb=>by simp at hb;omega) (fun _=>?_))
  refine aa _ (aA (by omega)) ?_
  refine aa (iV (cap:Int)) rfl ?_
  refine aa _ (bN _ _) (aj (fun hb=>?_) (fun hb=>?_))
  ·
   have hroom:cap < rows.length + 1:=by simp at hb;omega
   have hce:cap=rows.length:=by omega
   obtain ⟨z,hz⟩:∃ z,inf.zero=some z:=by
    have:((PP.info? aO).bind (·.zero)).isSome=true:=by kernel_rfl
    rw [hinf] at this
    exact Option.isSome_iff_exists.1 this
   have hz':z=.agg #[iV 0,iV 0,iV 0,iV 0,iV 0,iV 0,iV 0,iV 0,iV 0,.bool false,.bool false,.bool false]:=by
    have:(PP.info? aO).bind (·.zero)=some (.agg #[iV 0,iV 0,iV 0,iV 0,iV 0,iV 0,iV 0,iV 0,iV 0,.bool false,.bool false,.bool false]):=by kernel_rfl
    rw [hinf] at this
    exact Option.some.inj (hz.symm.trans this)
   have hby:inf.bytes≤1000:=by
    have:((PP.info? aO).map fun i=>decide (i.bytes≤1000))=some true:=by kernel_rfl
    rw [hinf] at this
    simpa using this
   refine aa _ (SC (k:=k) (by omega)) ?_
   refine aa _ (aA (by omega)) ?_
   refine aa (iV ((rows.length + 1 - k:Nat):Int)) (by
    have:=Jj (x:=((rows.length + 1:Nat):Int)) (y:=(k:Int)) (by omega) (by omega)
    rw [show ((rows.length + 1:Nat):Int) - k=((rows.length + 1 - k:Nat):Int) by omega] at this
    exact this) ?_
   refine Qh (n:=k) (m:=rows.length + 1 - k) (cs:=cs) (e:=aO) (O2:=[]) (kn:=.i64) hu (by kernel_rfl) hinf hz (by rw [hsz,hz'];rfl) (by rw [hz'];simp [Value.cells,Value.oneCell']) (by omega) hby (List.Perm.refl _) (by rw [hsz];omega) (by omega) (by omega) (by omega) fun r2 c2 zs hzl hc1 hc2 hzo=>?_
   rw [hsz] at hzl ⊢
   rw [show k + (rows.length + 1 - k)=rows.length + 1 by omega] at hc1 ⊢
   have hctl:(cs.take (k * 12)).length=k * 12:=by rw [List.length_take];omega
   have hnl:(cs.take (k * 12)++zs).length=c2 * 12:=by rw [List.length_append,hctl,hzl];omega
   refine aa _ (BS (k:=k) (by omega) hc1 (by omega)) ?_
   refine DZ (r:=r2) (off:=k * 12) (e:=aO) (O2:=[(r,.cells cs.toArray aO (0,0))]) (m:=1) (k:=1) (src:=row) hu hinf (List.Perm.refl _) (fun _=>rfl) (by omega) (fun w F hm=>by
    rw [hsz]
    have:=II hm (P:=PP) (size:=12) (k:=1) (n:=1) (cap:=1) hrb (by omega)
    rwa [show 1 * 12=row.length by omega,List.take_length] at this) (by rw [hnl,hrl];omega) (jg hro) ?_
   refine aa _ (aA (by omega)) ?_
   refine aa _ (BS (k:=k + 1) (by omega) hc1 (by omega)) ?_
   refine aa _ hsl ?_
   have hsrcl:((cs.drop (k * 12)).take ((rows.length - k) * 12)).length=(rows.length - k) * 12:=by rw [List.length_take,List.length_drop];omega
   have hsone:∀ u ∈ (cs.drop (k * 12)).take ((rows.length - k) * 12),u.oneCell'=true:=by
    rw [← (tL hl ht hk).2]
    intro u hu'
    obtain ⟨rw',hr,hu2⟩:=List.mem_flatten.1 hu'
    exact jg (ho rw' (List.mem_of_mem_drop hr)) u hu2
   have e1:(cs.take (k * 12)++zs).take (k * 12)=cs.take (k * 12):=by rw [List.take_append_of_le_length (by omega),List.take_take,Nat.min_self]
   have hn1:((cs.take (k * 12)++zs).take (k * 12)++row++(cs.take (k * 12)++zs).drop (k * 12 + row.length)).length=c2 * 12:=by
    rw [List.length_append,List.length_append,e1,hctl,List.length_drop,hnl,hrl];omega
   refine Ny (r:=r2) (off:=(k + 1) * 12) (e:=aO) (Y:=[(r,.cells cs.toArray aO (0,0))]) (O2:=[]) (m:=rows.length - k) (k:=rows.length - k) (src:=(cs.drop (k * 12)).take ((rows.length - k) * 12)) hu hinf (List.Perm.refl _) (fun _=>rfl) (by omega) (fun w F hm=>by
    rw [hsz]
    exact DF (hm.perm (List.perm_append_comm_assoc _ _ _)) (by omega)) (by rw [hn1,hsrcl];omega) hsone ?_
   refine ah ⟨_,[(r,.cells cs.toArray aO (0,0))],by rw [List.append_nil],.inr ⟨r2,_,c2,?_,rfl,?_,?_,hc2,?_,?_,?_⟩⟩
   ·show Value.slice _ _ _=Value.slice _ _ _
    rw [show (rows.take k++[row]++rows.drop k).length=rows.length + 1 by rw [List.length_append,List.length_append,List.length_take,List.length_drop,List.length_singleton];omega]
   ·rw [List.length_append,List.length_append,List.length_take,List.length_drop,hn1,hsrcl];omega
   ·rw [List.length_append,List.length_append,List.length_take,List.length_drop,List.length_singleton];omega
   ·intro x hx
    simp only [List.mem_append,List.mem_singleton] at hx
    rcases hx with (hx | rfl) | hx
    ·exact hl x (List.mem_of_mem_take hx)
    ·exact hrl
    ·exact hl x (List.mem_of_mem_drop hx)
   ·intro x hx
    simp only [List.mem_append,List.mem_singleton] at hx
    rcases hx with (hx | rfl) | hx
    ·exact ho x (List.mem_of_mem_take hx)
    ·exact hro
    ·exact ho x (List.mem_of_mem_drop hx)
   ·have f1:(rows.take k++[row]++rows.drop k).flatten=cs.take (k * 12)++row++(cs.drop (k * 12)).take ((rows.length - k) * 12):=by
     rw [List.flatten_append,List.flatten_append,(tL hl ht hk).1,(tL hl ht hk).2,List.flatten_cons,List.flatten_nil,List.append_nil]
    have f2:(rows.take k++[row]++rows.drop k).length * 12=(rows.length + 1) * 12:=by simp;omega
    rw [f1,f2,e1]
    have g1:(cs.take (k * 12)++row).length=(k + 1) * 12:=by rw [List.length_append,hctl,hrl];omega
    have g2:(cs.take (k * 12)++row++(cs.take (k * 12)++zs).drop (k * 12 + row.length)).take ((k + 1) * 12)=cs.take (k * 12)++row:=by
     rw [List.take_append_of_le_length (by omega),← g1,List.take_length]
    rw [g2]
    have g3:(cs.take (k * 12)++row++(cs.drop (k * 12)).take ((rows.length - k) * 12)).length=(rows.length + 1) * 12:=by rw [List.length_append,g1,hsrcl];omega
    rw [List.take_append_of_le_length (by omega),← g3,List.take_length]
  ·have hroom:rows.length + 1≤cap:=by simp at hb;omega
   refine aa _ (aA (by omega)) ?_
   refine aa _ (SC hroom) ?_
   refine aa _ (aA (by omega)) ?_
   refine aa _ (BS (k:=k + 1) (by omega) hroom (by omega)) ?_
   refine Nz (r:=r) (rb:=rb) (cs:=cs) (bs:=row) (e:=aO) (size:=12) (tS:=23) (tR:=Hi) (O2:=[]) Tryz.func154 (by kernel_rfl) (by kernel_rfl) (by kernel_rfl) (by kernel_rfl) (by kernel_rfl) (by kernel_rfl) (List.Perm.refl _) hrb (by omega) ?_
   refine aa (.bool true) rfl (aj (fun _=>?_) (fun hb=>by cases hb))
   refine aa _ (aA (by omega)) ?_
   refine aa _ (BS (k:=k + 1) (by omega) hroom (by omega)) ?_
   refine aa _ (BS (k:=k) (by omega) hroom (by omega)) ?_
   obtain ⟨h1,h2,h3⟩:=Jp (size:=12) (n:=rows.length) (row:=row) rfl hk hl ht hrl hcl hroom (src:=(cs.drop (k * 12)).take ((rows.length - k) * 12)) rfl
   have hsrcl:((cs.drop (k * 12)).take ((rows.length - k) * 12)).length=(rows.length - k) * 12:=by rw [List.length_take,List.length_drop];omega
   have hsone:∀ u ∈ (cs.drop (k * 12)).take ((rows.length - k) * 12),u.oneCell'=true:=by
    rw [← (tL hl ht hk).2]
    intro u hu'
    obtain ⟨rw',hr,hu2⟩:=List.mem_flatten.1 hu'
    exact jg (ho rw' (List.mem_of_mem_drop hr)) u hu2
   refine DZ (r:=r) (off:=(k + 1) * 12) (cs:=cs) (e:=aO) (O2:=[]) (m:=rows.length + 1 - k) (k:=rows.length - k) (src:=(cs.drop (k * 12)).take ((rows.length - k) * 12)) hu hinf (List.Perm.refl _) (fun _=>rfl) (by omega) (fun w F hm=>by rw [hsz];exact DF hm (by omega)) (by rw [hsrcl];omega) hsone ?_
   refine aa _ (BS (k:=k) (by omega) hroom (by omega)) ?_
   refine DZ (r:=r) (off:=k * 12) (e:=aO) (O2:=[]) (m:=1) (k:=1) (src:=row) hu hinf (List.Perm.refl _) (fun _=>rfl) (by omega) (fun w F hm=>by
    rw [hsz]
    have:=II hm (P:=PP) (size:=12) (k:=1) (n:=1) (cap:=1) hrb (by omega)
    rwa [show 1 * 12=row.length by omega,List.take_length] at this) (by rw [h1,hrl];omega) (jg hro) ?_
   refine ah ⟨_,[],(List.append_nil _).symm,.inr ⟨r,_,cap,?_,rfl,h2,?_,hcap,?_,?_,?_⟩⟩
   ·simp;omega
   ·simp;omega
   ·intro x hx
    simp only [List.mem_append,List.mem_singleton] at hx
    rcases hx with (hx | rfl) | hx
    ·exact hl x (List.mem_of_mem_take hx)
    ·exact hrl
    ·exact hl x (List.mem_of_mem_drop hx)
   ·intro x hx
    simp only [List.mem_append,List.mem_singleton] at hx
    rcases hx with (hx | rfl) | hx
    ·exact ho x (List.mem_of_mem_take hx)
    ·exact hro
    ·exact ho x (List.mem_of_mem_drop hx)
   ·rw [← h3];congr 2;simp;omega
end Go.Proofs.YtdhobpmnkfmcfaaGreatDoor
namespace Go.Proofs.YtdhobpmnkfmcfaaGreatDoor
open Go Go.Sx
set_option maxRecDepth 100000
set_option maxHeartbeats 1000000
def IG:List Ob→Nat→Nat
 | [],m=>m
 | o::l,m=>if o.id=(m:Int) + 1 then IG l (m + 1) else m
def aV (b:Bd):Nat:=IG b.objs 0
theorem FG:∀ (l:List Ob) (m:Nat),(l.map (·.id)).Pairwise (· < ·)→(∀ o ∈ l,(m:Int) < o.id)→m≤IG l m∧IG l m≤m + l.length∧(∀ j,m≤j→j < IG l m→(l[j - m]?).map (·.id)=some ((j:Int) + 1))∧∀ o ∈ l,o.id ≠ (IG l m:Int) + 1
 | [],m,_,_=>⟨Nat.le_refl _,Nat.le_refl _,fun j h1 h2=>absurd h2 (by simp only [IG];omega),fun o ho=>by simp at ho⟩
 | o::l,m,hp,hm=>by
  rw [List.map_cons,List.pairwise_cons] at hp
  have hl:∀ x ∈ l,o.id < x.id:=fun x hx=>hp.1 _ (List.mem_map_of_mem hx)
  rw [IG]
  by_cases e:o.id=(m:Int) + 1
  ·rw [if_pos e]
   obtain ⟨h1,h2,h3,h4⟩:=FG l (m + 1) hp.2 fun x hx=>by have:=hl x hx;omega
   refine ⟨by omega,by rw [List.length_cons];omega,fun j hj1 hj2=>?_,fun x hx=>?_⟩
   ·rcases Nat.eq_or_lt_of_le hj1 with rfl | hlt
    ·rw [Nat.sub_self];show some o.id=_;rw [e]
    ·have:=h3 j hlt hj2
     rw [show j - m=(j - (m + 1)) + 1 by omega,List.getElem?_cons_succ]
     exact this
   ·rcases List.mem_cons.1 hx with rfl | hx
    ·omega
    ·exact h4 x hx
  ·rw [if_neg e]
   refine ⟨Nat.le_refl _,by omega,fun j hj1 hj2=>by omega,fun x hx=>?_⟩
   have h0:=hm o List.mem_cons_self
   rcases List.mem_cons.1 hx with rfl | hx
   ·exact e
   ·have:=hl x hx;omega
theorem qb {b:Bd} (h:ar b=true):aV b≤b.objs.length∧(∀ j,j < aV b→(b.objs[j]?).map (·.id)=some ((j:Int) + 1))∧∀ o ∈ b.objs,o.id ≠ (aV b:Int) + 1:=by
 obtain ⟨_,h2,h3,h4⟩:=FG b.objs 0 (lB (fc (aS h).1).1) fun o ho=>by have:=((s7 h).1 o ho).1;omega
 exact ⟨by simpa [aV] using h2,fun j hj=>h3 j (Nat.zero_le _) hj,h4⟩
def PH (l:List Ob) (m:Nat):Bool:=l.any fun o=>o.id == (m:Int) + 1
theorem PG {b:Bd} (h:ar b=true) {m:Nat} (h1:PH b.objs m=false) (h2:∀ j,j < m→PH b.objs j=true):m=aV b:=by
 obtain ⟨_,f2,f3⟩:=qb h
 have hno:∀ o ∈ b.objs,¬ o.id=(m:Int) + 1:=by simpa [PH] using h1
 rcases Nat.lt_trichotomy m (aV b) with hlt | e | hgt
 ·have:=f2 m hlt
  simp only [Option.map_eq_some_iff] at this
  obtain ⟨o,ho,he⟩:=this
  exact absurd he (hno o (List.mem_of_getElem? ho))
 ·exact e
 ·have:=h2 _ hgt
  simp only [PH,List.any_eq_true,beq_iff_eq] at this
  obtain ⟨o,ho,he⟩:=this
  exact absurd he (f3 o ho)
theorem PE {l:List Ob} {i:Nat} (h:i < l.length) (m:Nat):PH (l.take (i + 1)) m=(PH (l.take i) m || (l[i].id == (m:Int) + 1)):=by
 rw [PH,List.take_add_one,List.getElem?_eq_getElem h,Option.toList_some,List.any_append]
 simp [PH]
def zH (b:Bd) (m:Nat) (p pw tn:Int):Bd:=oD { b with objs:=b.objs.take m++[EA ((m:Int) + 1) p pw tn true]++b.objs.drop m } p 2 ((m:Int) + 1)
def yJ (b:Bd) (p pw tn most:Int):Bd × Int × Int :=
 if (!ar b || !au p 0 1)=true then (zBd,0,2) else if (b.objs.length:Int) ≥ most then (b,0,0) else if 500≤aV b then (b,0,0) else (zH b (aV b) p pw tn,(aV b:Int) + 1,0)
end Go.Proofs.YtdhobpmnkfmcfaaGreatDoor
namespace Go.Proofs.YtdhobpmnkfmcfaaGreatDoor
open Go Go.Sx
set_option maxRecDepth 100000
set_option maxHeartbeats 1000000
theorem Nx {P:Program} {f:FuncId} {args:List Value} {H:Heap} {O O1 O2:Own} {frz:List BV} {shp:Shp} {K:List Value→List (List Value)→Heap→Own→Prop} {R:Value→Heap→Own→Prop}
  (hO:O.Perm (O1++O2)) (h:∀ Hf,Heap.le H Hf→(∀ b ∈ frz,Hf b.r=some b.obj.2)→Triple P f args Hf O1 R) (hk:∀ v H' O3,R v H' O3→Heap.le H H'→∃ vs,shp.open v=some vs∧Ones vs∧K vs [] H' (O3++O2)) :
  dZ (fun H1 O1 R=>Triple P f args H1 O1 R) false frz [] shp K H O:=by
 intro hc
 have hf:=io hc
 refine ⟨H.insAll frz,O1,O2,R,Ghost.perm hO,by simpa using h _ (Heap.le_insAll frz H) hf,?_⟩
 intro v H' O' hr hle
 obtain ⟨vs,h1,h2,h3⟩:=hk v H' O' hr (Heap.le_trans (Heap.le_insAll frz H) hle)
 exact ⟨vs,[],O',h1,h2,trivial,rfl,h3⟩
theorem RE {n:Int} (h1:1≤n) (h2:n≤500):∃ q r:Nat,r < 64∧64 * q + r < 500∧n=((64 * q + r:Nat):Int) + 1 :=
 ⟨(n - 1).toNat / 64,(n - 1).toNat % 64,by omega,by omega,by omega⟩
theorem LN {ws:List Nat} {f g:Nat→Bool} (h:BitsOk ws f) (e:∀ m,f m=g m):BitsOk ws g:=by
 rwa [← (funext e:f=g)]
def W6 (b:Bd) (p pw tn most:Int) (v:Value) (O':Own):Prop :=
 ∃ w OB X,O'.Perm (OB++X)∧v=.tuple #[.agg (ao w (yJ b p pw tn most).1).toArray,iV (yJ b p pw tn most).2.1,iV (yJ b p pw tn most).2.2]∧OwnB tys w (yJ b p pw tn most).1 OB
theorem Qs {H:Heap} (hgl:GlobOk Dz H) {v:dG} {b:Bd} (h:BdS H v b) (hB:bdB b) {p pw tn most:Int} (h1:pw < 9223372036854775808) (h2:tn < 9223372036854775808) :
  Triple PP yE [.agg (ao v b).toArray,iV p,iV pw,iV tn,iV most] H [] fun r _ O'=>W6 b p pw tn most r O':=by
 refine CE (vs:=ao v b++[iV p,iV pw,iV tn,iV most]) (by kernel_rfl) (aE (ap (h.r [])) ⟨rfl,rfl,rfl,rfl,trivial⟩) ?_
 simp only [rT]
 refine af fun r0=>af fun r1=>?_
 refine ab ?_
 refine ai (dD (h.r [])) rfl ⟨rfl,trivial⟩ fun H1 l1=>aa _ (aJ _) (aj (fun hb=>?_) (fun hb=>?_))
 ·have e:yJ b p pw tn most=(zBd,0,2):=by rw [yJ,if_pos (by rw [show ar b=false from vz hb];rfl)]
  refine ab (ab ?_)
  exact ah ⟨AP,[],[],by simp,by rw [e];rfl,by rw [e];exact OwnB.zero tys⟩
 have hval:ar b=true:=sN hb
 refine ai (dd p 0 1 H1 []) rfl ⟨rfl,trivial⟩ fun H2 l2=>aa _ (aJ _) (aj (fun hb=>?_) (fun hb=>?_))
 ·have e:yJ b p pw tn most=(zBd,0,2):=by rw [yJ,if_pos (by rw [show au p 0 1=false from vz hb];simp)]
  refine ab (ab ?_)
  exact ah ⟨AP,[],[],by simp,by rw [e];rfl,by rw [e];exact OwnB.zero tys⟩
 have hw:au p 0 1=true:=sN hb
 have hcond:¬ ((!ar b || !au p 0 1)=true):=by rw [hval,hw];simp
 have hp01:p=0∨p=1:=by simp only [au,decide_eq_true_eq] at hw;omega
 have l12:=Heap.le_trans l1 l2
 refine ab ?_
 refine ax (I4 (h.le l12) hB) ?_
 rintro _ H3 OB ⟨w,rfl,ho⟩ l3
 refine ⟨ao w b,rfl,bM H3 ho,?_⟩
 rw [List.append_nil]
 have hlen:ak .len [w.o]=some (iV b.objs.length):=by have:=(ho.r (fun p hp=>hp) H3).objs.len;rwa [List.length_map] at this
 have hol:=wV hval
 refine ab (ab ?_)
 refine aa _ hlen ?_
 refine aa _ (dt _ _) (aj (fun hb=>?_) (fun hb=>?_))
 ·have e:yJ b p pw tn most=(b,0,0):=by rw [yJ,if_neg hcond,if_pos (by simpa using hb)]
  refine ab (ab (ab ?_))
  exact ah ⟨w,OB,[],by simp,by rw [e];rfl,by rw [e];exact ho⟩
 have hmost:¬ ((b.objs.length:Int) ≥ most):=by simpa using hb
 refine ax RP ?_
 rintro _ H4 A0 ⟨pv,rfl,hA0⟩ l4
 have hpv:pv.oneCell'=true:=by obtain ⟨r,s,A,rfl,_⟩:=hA0;rfl
 refine ⟨[pv,iV 0],rfl,⟨hpv,rfl,trivial⟩,?_⟩
 refine ab ?_
 refine aa _ hlen ?_
 refine aX b.objs.length (fun i H' O'=>Heap.le H4 H'∧∃ A ws,O'.Perm (A++OB)∧VM pv ws A∧BitsOk ws (PH (b.objs.take i))) ⟨Heap.le_refl _,A0,_,List.Perm.refl _,hA0,LN Ss fun m=>by simp [PH]⟩ ?_
 rintro i H' O' hi - ⟨hle,A,ws,hperm,hA,hbits⟩
 have hR:BdR H' O' w b:=ho.r (fun p hp=>hperm.mem_iff.2 (List.mem_append_right _ hp)) H'
 refine aa _ (aI _ _) (aj (fun hb=>?_) (fun hb=>?_))
 ·have hlt:i < b.objs.length:=by simpa using hb
  obtain ⟨a,i1,i2,_,i3,i4⟩:=hR.objs.idx .i64 i (Ob.row b.objs[i]) (by rw [List.getElem?_map,List.getElem?_eq_getElem hlt];rfl)
  obtain ⟨d1,d2⟩:=(s7 hval).1 b.objs[i] (List.getElem_mem hlt)
  obtain ⟨q,rr,hr,h5,hid⟩:=RE d1 d2
  refine aa _ i1 (aw i2 i3 i4 ?_)
  refine af fun r2=>?_
  refine ab (ab ?_)
  have hcl:=UT (H:=H') hA hbits.len hbits.lt hr h5
  rw [idV,← hid] at hcl
  refine xU (O1:=A) (O2:=OB) hperm hcl ?_
  rintro _ H5 A5 ⟨⟨e5,rfl⟩,hA5⟩ l5
  refine ⟨[iV e5],rfl,⟨rfl,trivial⟩,?_⟩
  refine aa _ (aA (by omega)) (aR (by simp [Eqs]) hlt ⟨Heap.le_trans hle l5,A5,_,List.Perm.refl _,hA5,LN (hbits.claim (by omega) hr) fun m=>?_⟩)
  rw [PE hlt]
  congr 1
  rw [Bool.eq_iff_iff]
  simp only [beq_iff_eq]
  omega
 have hil:i=b.objs.length:=by have:¬ i < b.objs.length:=(by simpa using hb);omega
 subst hil
 rw [List.take_length] at hbits
 have hle4:Heap.le H H':=Heap.le_trans l12 (Heap.le_trans l3 (Heap.le_trans l4 hle))
 refine xU (O1:=A) (O2:=OB) hperm (VD (hgl.le hle4) hA hbits) ?_
 rintro tv H6 X htv l6
 rcases htv with ⟨m,hm5,hmf,hmb,rfl⟩ | ⟨hall,rfl⟩
 ·obtain rfl:=PG hval hmf hmb
  have e:yJ b p pw tn most=(zH b (aV b) p pw tn,(aV b:Int) + 1,0):=by rw [yJ,if_neg hcond,if_neg hmost,if_neg (by omega)]
  have hfl:=(qb hval).1
  refine ⟨[iV ((aV b:Int) + 1),iV 0],rfl,⟨rfl,rfl,trivial⟩,?_⟩
  refine aa _ (ba _ _) (aj (fun hb=>by cases hb) (fun _=>?_))
  refine ai (EO h1 h2) rfl (vs:=(EA ((aV b:Int) + 1) p pw tn false).row) (bG _) fun H7 l7=>?_
  refine af fun r3=>?_
  refine ab (ab (ab ?_))
  refine aa (iV (aV b:Int)) (by rw [show (iV (aV b:Int))=iV ((aV b:Int) + 1 - 1) by congr 1;omega];exact Jj (by omega) (by omega)) ?_
  refine ab ?_
  refine af fun r4=>?_
  obtain ⟨Ao,Ro,po,hAo,backo⟩:=OwnB.pick_objs ho
  refine Nx (O1:=Ao) (O2:=Ro++X) (by
   refine List.perm_append_comm.trans ?_
   rw [← List.append_assoc]
   exact po.append_right X) (fun Hf lf hf=>RZ (k:=aV b) (row:=(EA ((aV b:Int) + 1) p pw tn true).row) hAo (by rw [List.length_map];exact hfl) (by rw [List.length_map];exact hol) rfl (bG _) (hf _ List.mem_cons_self)) ?_
  rintro v' H8 _ ⟨A8,X8,rfl,hA8⟩ l8
  refine ⟨[v'],rfl,⟨hA8.one,trivial⟩,?_⟩
  have hA9:OSl tys.ob 12 v' (List.map Ob.row (b.objs.take (aV b)++[EA ((aV b:Int) + 1) p pw tn true]++b.objs.drop (aV b))) A8:=by
   rw [List.map_append,List.map_append,List.map_take,List.map_drop]
   exact hA8
  have ho2:=backo _ _ _ hA9
  obtain ⟨_,⟨_,_,bf0,_⟩,⟨_,_,bf1,_⟩,_⟩:=hB
  rcases hp01 with rfl | rfl
  ·refine ab ?_
   refine ⟨.i64,0,rfl,fun _=>?_,fun e=>absurd rfl e⟩
   refine ab ?_
   refine af fun r5=>?_
   obtain ⟨A,R,hp,hA,back⟩:=OwnB.pick_f0 ho2
   refine aD (rows:=aG b.s0.field) (news:=[[iV ((aV b:Int) + 1)]]) (O1:=A) (O2:=R++(X8++X)) (e:=aM) (size:=1) (bytes:=8) (by kernel_rfl) (by
    have:(A8++X8++(Ro++X)).Perm (A8++Ro++(X8++X)):=by
     rw [List.append_assoc,List.append_assoc]
     exact (List.perm_append_comm_assoc X8 Ro X).append_left A8
    refine this.trans ?_
    rw [← List.append_assoc A R]
    exact hp.append_right _) hA (fun Hf _ hf=>Sl.block1 (hf _ List.mem_cons_self) rfl ⟨rfl,trivial⟩) (by simp [aG];omega) (by simp [aG];omega) ?_
   intro v2 A2 H9 l9 hA2
   have hA3:OSl aM 1 v2 (aG (b.s0.field++[(aV b:Int) + 1])) A2:=by rw [aG,List.map_append];exact hA2
   have hfin:=back _ _ _ hA3
   refine ⟨.i64,0,rfl,fun _=>?_,fun e=>absurd rfl e⟩
   refine ab (ab (ab (ab ?_)))
   refine ah ⟨{ w with o:=v',f0:=v2 },A2++R,X8++X,by rw [List.append_assoc],?_,?_⟩
   ·rw [e];rfl
   ·rw [e];exact hfin
  ·refine ab ?_
   refine ⟨.i64,1,rfl,fun e=>absurd e (by omega),fun _=>⟨.i64,1,rfl,fun _=>?_,fun e=>absurd rfl e⟩⟩
   refine ab ?_
   refine af fun r5=>?_
   obtain ⟨A,R,hp,hA,back⟩:=OwnB.pick_f1 ho2
   refine aD (rows:=aG b.s1.field) (news:=[[iV ((aV b:Int) + 1)]]) (O1:=A) (O2:=R++(X8++X)) (e:=aM) (size:=1) (bytes:=8) (by kernel_rfl) (by
    have:(A8++X8++(Ro++X)).Perm (A8++Ro++(X8++X)):=by
     rw [List.append_assoc,List.append_assoc]
     exact (List.perm_append_comm_assoc X8 Ro X).append_left A8
    refine this.trans ?_
    rw [← List.append_assoc A R]
    exact hp.append_right _) hA (fun Hf _ hf=>Sl.block1 (hf _ List.mem_cons_self) rfl ⟨rfl,trivial⟩) (by simp [aG];omega) (by simp [aG];omega) ?_
   intro v2 A2 H9 l9 hA2
   have hA3:OSl aM 1 v2 (aG (b.s1.field++[(aV b:Int) + 1])) A2:=by rw [aG,List.map_append];exact hA2
   have hfin:=back _ _ _ hA3
   refine ⟨.i64,1,rfl,fun e=>absurd e (by omega),fun _=>⟨.i64,1,rfl,fun _=>?_,fun e=>absurd rfl e⟩⟩
   refine ab (ab (ab (ab ?_)))
   refine ah ⟨{ w with o:=v',f1:=v2 },A2++R,X8++X,by rw [List.append_assoc],?_,?_⟩
   ·rw [e];rfl
   ·rw [e];exact hfin
 ·have hge:500≤aV b:=by
   refine Nat.le_of_not_lt fun hlt=>?_
   have h3:=hall _ hlt
   simp only [PH,List.any_eq_true,beq_iff_eq] at h3
   obtain ⟨o,ho',he⟩:=h3
   exact (qb hval).2.2 o ho' he
  have e:yJ b p pw tn most=(b,0,0):=by rw [yJ,if_neg hcond,if_neg hmost,if_pos hge]
  refine ⟨[iV 0,iV 7],rfl,⟨rfl,rfl,trivial⟩,?_⟩
  refine aa _ (ba _ _) (aj (fun _=>?_) (fun hb=>by cases hb))
  refine ab (ab (ab ?_))
  exact ah ⟨w,OB,X,List.perm_append_comm,by rw [e];rfl,by rw [e];exact ho⟩
end Go.Proofs.YtdhobpmnkfmcfaaGreatDoor
namespace Go.Proofs.YtdhobpmnkfmcfaaGreatDoor
open Go Go.Sx
set_option maxRecDepth 100000
set_option maxHeartbeats 1000000
def S4 (l:List Int) (e:Eff):Bool:=((l.contains e.target && e.n == 0) && e.m == 0) && e.colour == 0
def inR (n lo hi:Int):Bool:=decide (n ≥ lo) && max 0 (min n hi) == n
def RI (l:List Int) (most:Int) (e:Eff):Bool:=inR e.n 1 most && S4 l { e with n:=0 }
def RH (l:List Int) (Rz:Int) (e:Eff):Bool:=((inR e.n 0 9 && inR e.m Rz 9) && decide (e.n + e.m > 0)) && S4 l { e with n:=0,m:=0 }
def S3 (l:List Int) (most:Int) (e:Eff):Bool:=inR e.colour 0 3 && RI l most { e with colour:=0 }
inductive Rl where
 | no
 | bare (l:List Int)
 | cnt (l:List Int) (m:Int)
 | par (l:List Int) (m:Int)
 | col (l:List Int) (m:Int)
def vw (c:Int):Rl :=
 if c=1 then .cnt [1,2,3,4,5] 99 else if c=2 then .cnt [0,4] 7 else if c=3∨c=4 then .cnt [0,4] 99
 else if c=5∨c=6∨c=11 then .bare [1,2,3] else if c=7 then .bare [6] else if c=8 then .par [1,2,3,0] 0
 else if c=9 then .cnt [1,2,3,0] 9 else if c=10 then .par [0] 1 else if c=12 then .col [0] 9 else .no
def Rl.fits:Rl→Eff→Bool
 | .no,_=>false
 | .bare l,e=>S4 l e
 | .cnt l m,e=>RI l m e
 | .par l m,e=>RH l m e
 | .col l m,e=>S3 l m e
def IP (e:Eff):Bool:=(vw e.code).fits e
def AW (a b:Int):Int:=min 99 (max 0 a + max 0 b)
def dI (n most:Int):Int:=max 0 (min n most)
def VU (cs:List CdX):List Int:=Dp (cs.map CdX.base)
def onB (cs:List CdX) (b:Bd) (id:Int):Bool:=bm b id == 0 && (eU (VU cs) (fU b id) && (aF b (fU b id).owner).field.contains id)
def dT (b:Bd) (id:Int) (f:Ob→Ob):Bd:=if (Ew b (f (fU b id))).2=0 then (Ew b (f (fU b id))).1 else b
def pV (b:Bd) (p x:Int):Bd:=bu b p { aF b p with life:=x }
def jN (s:St) (c n:Int):St:=if c=0 then { s with p0:=dI (s.p0 + n) 99 } else if c=1 then { s with p1:=dI (s.p1 + n) 99 } else if c=2 then { s with p2:=dI (s.p2 + n) 99 } else { s with p3:=dI (s.p3 + n) 99 }
def FZ (e:Eff) (o:Ob):Ob :=
 if e.code=5 then { o with doom:=true } else if e.code=11 then { o with tap:=true }
 else if e.code=8 then { o with pp:=AW o.pp e.n,pt:=AW o.pt e.m } else if e.code=9 then { o with cnt:=AW o.cnt e.n } else o
def bh (cs:List CdX) (b:Bd) (p who id:Int) (e:Eff) (most:Int):Bd :=
 if e.code=1 then (if id > 0 then dT b id fun o=>{ o with dmg:=AW o.dmg e.n } else pV b who (dI ((aF b who).life - e.n) 9999))
 else if e.code=2 then (oL b who e.n).1
 else if e.code=3 then pV b who (dI ((aF b who).life + e.n) 9999)
 else if e.code=4 then pV b who (dI ((aF b who).life - e.n) 9999)
 else if e.code=6 then (fG b id 1).1
 else if e.code=7 then (dm b id).1
 else if e.code=10 then (yJ b p e.n e.m most).1
 else if e.code=12 then bu b who (jN (aF b who) e.colour e.n)
 else if onB cs b id=true then dT b id (FZ e) else b
def NS (p:Int) (e:Eff) (t:Tg):Int:=if e.target=0 then p else t.player
def idE (src:Int) (e:Eff) (t:Tg):Int:=if e.target=0 then src else t.id
def Ti (cs:List CdX) (b:Bd) (p:Int) (e:Eff) (t:Tg):Prop:=e.target ≠ 0∧vA (cs.map CdX.base) b p e.target t=false
instance (cs:List CdX) (b:Bd) (p:Int) (e:Eff) (t:Tg):Decidable (Ti cs b p e t):=by unfold Ti;infer_instance
def xN (cs:List CdX) (b:Bd) (p src:Int) (e:Eff) (t:Tg) (most:Int):Bd :=
 if Ti cs b p e t then b else bh cs b p (NS p e t) (idE src e t) e most
end Go.Proofs.YtdhobpmnkfmcfaaGreatDoor
namespace Go.Sx
open Go
def Heap.insO (H:Heap) (O:Own):Heap:=⟨fun b=>match H b with
 | some x=>some x
 | none=>(O.find? fun p=>p.1 == b).map (·.2),H.env⟩
def Heap.minus (H:Heap) (O:Own):Heap:=⟨fun b=>if O.any (fun p=>p.1 == b) then none else H b,H.env⟩
theorem PC (H:Heap) (O:Own):Heap.le H (H.insO O):=⟨fun b o h=>by simp only [Heap.insO];rw [h],rfl⟩
theorem Lx:∀ {O:Own},(O.map (·.1)).Nodup→∀ {p:Nat × Obj},p ∈ O→(O.find? fun q=>q.1 == p.1)=some p
 | [],_,p,h=>by simp at h
 | a::O,hn,p,h=>by
  simp only [List.map_cons,List.nodup_cons] at hn
  rw [List.find?_cons]
  by_cases e:a.1=p.1
  ·rcases List.mem_cons.1 h with rfl | hm
   ·simp
   ·exact absurd (e ▸ List.mem_map_of_mem hm) hn.1
  ·have:(a.1 == p.1)=false:=by simpa using e
   rw [this]
   rcases List.mem_cons.1 h with rfl | hm
   ·exact absurd rfl e
   ·exact Lx hn.2 hm
theorem RB {H:Heap} {O:Own} (hc:Cons H O) {p:Nat × Obj} (hp:p ∈ O):H.insO O p.1=some p.2:=by
 simp only [Heap.insO]
 rw [hc.none hp]
 simp only []
 rw [Lx hc.nodup hp];rfl
theorem JJ {w:World} {H:Heap} {O F:Own} (h:Models w H (O++F)):Models w (H.insO O) F:=by
 have hc:Cons H O:=⟨w,F,h⟩
 have hn:=h.nodup
 rw [List.map_append,List.nodup_append] at hn
 refine ⟨fun b x hb=>?_,fun p hp=>?_,hn.2.1,h.env⟩
 ·simp only [Heap.insO] at hb
  split at hb
  ·rename_i y hy;cases hb;exact h.pers b _ hy
  ·obtain ⟨q,hq,rfl⟩:=Option.map_eq_some_iff.1 hb
   have e:q.1=b:=by simpa using List.find?_some hq
   rw [← e]
   exact (h.own q (List.mem_append_left _ (List.mem_of_find?_eq_some hq))).1
 ·obtain ⟨h1,h2⟩:=h.own p (List.mem_append_right _ hp)
  refine ⟨h1,?_⟩
  simp only [Heap.insO]
  rw [h2]
  simp only []
  cases hf:O.find? fun q=>q.1 == p.1 with
  | none=>rfl
  | some q =>
   exfalso
   have e:q.1=p.1:=by simpa using List.find?_some hf
   exact hn.2.2 q.1 (List.mem_map_of_mem (List.mem_of_find?_eq_some hf)) p.1 (List.mem_map_of_mem hp) e
theorem RD {H H':Heap} {O:Own} (hc:Cons H O) (hg:Ghost H O H' []):Heap.le H' (H.insO O):=by
 obtain ⟨w,F,hm⟩:=hc
 obtain ⟨hm',hle⟩:=hg w F hm
 have hm':Models w H' F:=by simpa using hm'
 refine ⟨fun b o hb=>?_,hle.2.symm⟩
 simp only [Heap.insO]
 cases hH:H b with
 | some x =>
  have:=hle.1 b x hH
  rw [hb] at this
  simp only []
  exact this.symm
 | none =>
  simp only []
  have hw:=hm'.pers b o hb
  cases hf:O.find? fun q=>q.1 == b with
  | some q =>
   have e:q.1=b:=by simpa using List.find?_some hf
   have h1:=(hm.own q (List.mem_append_left _ (List.mem_of_find?_eq_some hf))).1
   rw [e,hw] at h1
   rw [Option.map_some,Option.some.inj h1]
  | none =>
   exfalso
   obtain ⟨o',ho'⟩:∃ o':Obj,o' ≠ o:=by
    by_cases h:(Obj.cells #[] 0 (0,0))=o
    ·exact ⟨Obj.cells #[] 1 (0,0),fun e=>by rw [← h] at e;cases e⟩
    ·exact ⟨_,h⟩
   have hlt:b < w.heap.size:=by
    rcases Nat.lt_or_ge b w.heap.size with h | h
    ·exact h
    ·simp [Array.getElem?_eq_none h] at hw
   have hO:∀ p ∈ O,p.1 ≠ b:=fun p hp e=>by
    have:=List.find?_eq_none.1 hf p hp
    simp [e] at this
   have hF:∀ p ∈ F,p.1 ≠ b:=fun p hp e=>by
    have:=(hm'.own p hp).2
    rw [e,hb] at this
    cases this
   have hset:∀ c,c ≠ b→(w.heap.set b o' hlt)[c]?=w.heap[c]?:=fun c hne=>by
    rw [Array.getElem?_set]
    rw [if_neg (fun h=>hne h.symm)]
   have hm2:Models { w with heap:=w.heap.set b o' hlt } H (O++F):=by
    refine ⟨fun c x hcx=>?_,fun p hp=>?_,hm.nodup,hm.env⟩
    ·have hne:c ≠ b:=fun e=>by rw [e,hH] at hcx;cases hcx
     show (w.heap.set b o' hlt)[c]?=some x
     rw [hset c hne];exact hm.pers c x hcx
    ·have hne:p.1 ≠ b:=by
      rcases List.mem_append.1 hp with h | h
      ·exact hO p h
      ·exact hF p h
     obtain ⟨h1,h2⟩:=hm.own p hp
     refine ⟨?_,h2⟩
     show (w.heap.set b o' hlt)[p.1]?=some p.2
     rw [hset _ hne];exact h1
   have h3:=(hg _ F hm2).1.pers b o hb
   have h4:(w.heap.set b o' hlt)[b]?=some o':=by simp
   have h5:(w.heap.set b o' hlt)[b]?=some o:=h3
   rw [h4] at h5
   exact ho' (Option.some.inj h5)
theorem RetO.thaw {P:Program} {f:FuncId} {args:List Value} {H:Heap} {O:Own} {r:Value} {S:Heap→Prop} (hS:∀ H H',Heap.le H H'→S H→S H') (hf:Cons H O→∃ H',Ghost H O H' []∧S H')
  (h:∀ Hf,Heap.le H Hf→S Hf→RetO P f args Hf [] r):RetO P f args H O r:=by
 intro w F hm
 have hc:Cons H O:=⟨w,F,hm⟩
 obtain ⟨H',g,s⟩:=hf hc
 have s2:=hS _ _ (RD hc g) s
 refine (h (H.insO O) (PC H O) s2 w F (by simpa using JJ hm)).mono ?_
 rintro e w' ⟨v,H1,O1,rfl,⟨rfl,rfl⟩,hle,hm'⟩
 have hm':Models w' H1 F:=by simpa using hm'
 have hno:∀ b o,H b=some o→O.any (fun p=>p.1 == b)=false:=fun b o hb=>by
  rw [List.any_eq_false]
  intro p hp e
  have e:p.1=b:=by simpa using e
  have:=hc.none hp
  rw [e,hb] at this
  cases this
 refine ⟨_,H1.minus O,O,rfl,⟨rfl,rfl⟩,⟨fun b o hb=>?_,?_⟩,⟨fun b o hb=>?_,fun p hp=>?_,hm.nodup,hm'.env⟩⟩
 ·simp only [Heap.minus]
  rw [hno b o hb]
  exact hle.1 b o ((PC H O).1 b o hb)
 ·exact hle.2
 ·simp only [Heap.minus] at hb
  split at hb
  ·cases hb
  ·exact hm'.pers b o hb
 ·rcases List.mem_append.1 hp with hp | hp
  ·refine ⟨hm'.pers _ _ (hle.1 _ _ (RB hc hp)),?_⟩
   simp only [Heap.minus]
   rw [if_pos (List.any_eq_true.2 ⟨p,hp,by simp⟩)]
  ·obtain ⟨h1,h2⟩:=hm'.own p hp
   refine ⟨h1,?_⟩
   simp only [Heap.minus]
   split
   ·rfl
   ·exact h2
theorem OwnB.thaw {P:Program} {f:FuncId} {args:List Value} {H:Heap} {O:Own} {r:Value} {t:Tys} {w:dG} {b:Bd} (ho:OwnB t w b O) (h:∀ Hf,Heap.le H Hf→BdS Hf w b→RetO P f args Hf [] r):RetO P f args H O r :=
 RetO.thaw (S:=fun Hf=>BdS Hf w b) (fun _ _ hl h=>h.le hl) (fun hc=>by
  obtain ⟨H',g,k,_⟩:=ho.freeze (X:=[]) (by simpa using hc)
  exact ⟨H',by simpa using g,k⟩) h
end Go.Sx
namespace Go.Proofs.YtdhobpmnkfmcfaaGreatDoor
open Go Go.Sx
set_option maxRecDepth 100000
set_option maxHeartbeats 1000000
theorem lS {P:Program} {t ty e:TypeId} {size:Nat} (ha:I8 P t e size=true) {ad:Addr} {rows news:List (List Value)} {x:Value} {H:Heap} {O:Own} {frz:List BV} {K:List Value→List (List Value)→Heap→Own→Prop}
  (hr:Sl H size (.slice (some ad) rows.length rows.length) rows) (hx:∀ Hf,Heap.le H Hf→(∀ b ∈ frz,Hf b.r=some b.obj.2)→Sl Hf size x news)
  (hb:(rows.length + news.length) * lg P e≤140737488355328) (h63:rows.length + news.length < 2 ^ 63) (hk:∀ v' H',Heap.le H H'→Sl H' size v' (rows++news)→K [v'] [] H' O) :
  dZ (fun H1 O1 R=>bY P ((PrimOp.bi .append #[t,t] ty).sem [.slice (some ad) rows.length rows.length,x]) H1 O1 R) false frz [] .one K H O:=by
 intro hc
 have hf:=io hc
 have hl:=Heap.le_insAll frz H
 refine ⟨H.insAll frz,[],O,_,Ghost.refl _ _,by simpa using FY (ty:=ty) ha (hr.le hl) (hx _ hl hf) hb h63,?_⟩
 rintro v' H' O' ⟨rfl,hle,hs⟩ _
 exact ⟨[v'],[],[],rfl,⟨hs.one,trivial⟩,trivial,rfl,hk v' H' (Heap.le_trans hl hle) hs⟩
theorem mY {P:Program} {t:TypeId} {d:TypeDesc} (hu:P.underlying t=some d) (hni:∀ m,d ≠ .interface m) {b:Bool} {args:List Value} {x:Value} (hx:(b=true∧x=.agg args.toArray)∨(b=false∧args=[x])) {frz:List BV} {H:Heap} {O:Own}
  {K:List Value→List (List Value)→Heap→Own→Prop} (hk:∀ H',Heap.le H H'→(∀ b ∈ frz,H' b.r=some b.obj.2)→K [.iface t x] [] H' O) :
  dZ (fun H1 O1 R=>bY P ((PrimOp.mkIface t b).sem args) H1 O1 R) false frz [] .one K H O:=by
 intro hc
 have hf:=io hc
 have hl:=Heap.le_insAll frz H
 have hrun:∀ w,((PrimOp.mkIface t b).sem args).run P w=.ok (.value (.iface t x)) w:=fun w=>by
  rcases hx with ⟨rfl,rfl⟩ | ⟨rfl,rfl⟩
  ·simp only [PrimOp.sem,Instr.makeInterface,Sem.run_bind,aH hu,Result.andThen_ok]
   cases d <;> first | rfl | exact absurd rfl (hni _)
  ·simp only [PrimOp.sem,Instr.makeInterface,Sem.run_bind,aH hu,Result.andThen_ok]
   cases d <;> first | rfl | exact absurd rfl (hni _)
 refine ⟨H.insAll frz,[],O,fun v H' O'=>v=.iface t x∧H'=H.insAll frz∧O'=[],Ghost.refl _ _,fun w F hm=>⟨_,w,H.insAll frz,[],hrun w,⟨rfl,rfl,rfl⟩,Heap.le_refl _,by simpa using hm⟩,?_⟩
 rintro v' H' O' ⟨rfl,rfl,rfl⟩ _
 exact ⟨[_],[],[],rfl,⟨rfl,trivial⟩,trivial,rfl,hk _ hl hf⟩
theorem J4 (r:Nat) (H:Heap):Ret PP cX [.slice (some ⟨r,0,none⟩) 3 3] H (.slice (some ⟨r,0,none⟩) 3 3):=by
 refine fE (vs:=[.slice (some ⟨r,0,none⟩) 3 3]) (by kernel_rfl) ⟨rfl,trivial⟩ ?_
 simp only [bP]
 exact aa (iV 3) rfl (aa (iV 3) rfl (aa (.slice (some ⟨r,0,none⟩) 3 3) rfl (ah ⟨rfl,rfl⟩)))
def VL (H:Heap):Rl→Value→Prop
 | .no,r=>r=.nilIface
 | .bare l,r=>∃ s,r=.iface 151 s∧Sl H 1 s (aG l)
 | .cnt l m,r=>∃ s,r=.iface 154 (.agg #[s,iV m])∧Sl H 1 s (aG l)
 | .par l m,r=>∃ s,r=.iface 156 (.agg #[s,iV m])∧Sl H 1 s (aG l)
 | .col l m,r=>∃ s,r=.iface 158 (.agg #[s,iV m])∧Sl H 1 s (aG l)
def OfQ (c:Int) (r:Value) (H':Heap) (O':Own):Prop:=VL H' (vw c) r∧O'=[]
theorem VW {H:Heap} {r:Nat} {T:TypeId} (h:H r=some (.cells [iV 1,iV 2,iV 3].toArray T (0,0))):Sl H 1 (.slice (some ⟨r,0,none⟩) 3 3) (aG [1,2,3]):=Sl.block h ⟨rfl,rfl,rfl,trivial⟩ rfl (by decide)
theorem Ws {H:Heap} {r:Nat} {T:TypeId} {a b:Int} (h:H r=some (.cells [iV a,iV b].toArray T (0,0))):Sl H 1 (.slice (some ⟨r,0,none⟩) 2 2) (aG [a,b]):=Sl.block h ⟨rfl,rfl,trivial⟩ rfl (by decide)
theorem VI {H:Heap} {r:Nat} {T:TypeId} {a:Int} (h:H r=some (.cells [iV a].toArray T (0,0))):Sl H 1 (.slice (some ⟨r,0,none⟩) 1 1) (aG [a]):=Sl.block h ⟨rfl,trivial⟩ rfl (by decide)
def Ri:Option TypeDesc→Bool
 | none=>false
 | some (.interface _)=>false
 | some _=>true
theorem mI {o:Option TypeDesc} (h:Ri o=true):∃ d,o=some d∧∀ m,d ≠ .interface m:=by
 cases o with
 | none=>cases h
 | some d=>exact ⟨d,rfl,fun m e=>by rw [e] at h;cases h⟩
theorem Wt:∃ d,PP.underlying 151=some d∧∀ m,d ≠ .interface m:=mI (by kernel_rfl)
theorem WJ:∃ d,PP.underlying 154=some d∧∀ m,d ≠ .interface m:=mI (by kernel_rfl)
theorem WW:∃ d,PP.underlying 156=some d∧∀ m,d ≠ .interface m:=mI (by kernel_rfl)
theorem WZ:∃ d,PP.underlying 158=some d∧∀ m,d ≠ .interface m:=mI (by kernel_rfl)
theorem Wc {c:Int} {k:Bool} {r2 r0:Nat} {H:Heap} (h1:k=true→c=5∨c=6∨c=11) (h2:k=false→¬ (c=1∨c=2∨c=3∨c=4∨c=5∨c=6∨c=11)):(kA (.bool k) r2 [iV c] r0).den PP (OfQ c) H []:=by
 simp only [kA]
 obtain ⟨d1,u1,n1⟩:=Wt
 obtain ⟨d3,u3,n3⟩:=WW
 obtain ⟨d4,u4,n4⟩:=WZ
 refine aj (fun hk=>?_) (fun hk=>?_)
 ·refine mY u1 n1 (.inr ⟨rfl,rfl⟩) fun H1 l1 hf=>?_
  refine ah ⟨?_,rfl⟩
  rw [vw,if_neg (by have:=h1 hk;omega),if_neg (by have:=h1 hk;omega),if_neg (by have:=h1 hk;omega),if_pos (h1 hk)]
  exact ⟨_,rfl,VW (hf _ List.mem_cons_self)⟩
 have hn:=h2 hk
 refine aa _ (aC _ _) (aj (fun h=>?_) (fun h=>?_))
 ·have h:c=7:=by simpa using h
  subst h
  refine af fun r4=>?_
  refine mY u1 n1 (.inr ⟨rfl,rfl⟩) fun H1 l1 hf=>?_
  exact ah ⟨⟨_,rfl,VI (hf _ List.mem_cons_self)⟩,rfl⟩
 have n7:c ≠ 7:=by simpa using h
 refine aa _ (aC _ _) (aj (fun h=>?_) (fun h=>?_))
 ·have h:c=8:=by simpa using h
  subst h
  refine DX _ (fun Hf _ _=>J4 r2 Hf) rfl ⟨rfl,trivial⟩ fun H1 l1 hf=>?_
  refine af fun r5=>?_
  refine lS (ad:=⟨r2,0,none⟩) (rows:=aG [1,2,3]) (news:=aG [0]) (size:=1) (e:=36) (by kernel_rfl) (VW (hf _ List.mem_cons_self)) (fun Hf _ hf2=>VI (hf2 _ List.mem_cons_self)) (by rw [show lg PP 36=8 by kernel_rfl];decide) (by decide) fun v' H2 l2 hs=>?_
  exact ah ⟨⟨_,rfl,hs⟩,rfl⟩
 have n8:c ≠ 8:=by simpa using h
 refine aa _ (aC _ _) (aj (fun h=>?_) (fun h=>?_))
 ·have h:c=9:=by simpa using h
  subst h
  refine DX _ (fun Hf _ _=>J4 r2 Hf) rfl ⟨rfl,trivial⟩ fun H1 l1 hf=>?_
  refine af fun r5=>?_
  refine lS (ad:=⟨r2,0,none⟩) (rows:=aG [1,2,3]) (news:=aG [0]) (size:=1) (e:=36) (by kernel_rfl) (VW (hf _ List.mem_cons_self)) (fun Hf _ hf2=>VI (hf2 _ List.mem_cons_self)) (by rw [show lg PP 36=8 by kernel_rfl];decide) (by decide) fun v' H2 l2 hs=>?_
  exact ah ⟨⟨_,rfl,hs⟩,rfl⟩
 have n9:c ≠ 9:=by simpa using h
 refine aa _ (aC _ _) (aj (fun h=>?_) (fun h=>?_))
 ·have h:c=10:=by simpa using h
  subst h
  refine mY u3 n3 (.inl ⟨rfl,rfl⟩) fun H1 l1 hf=>?_
  exact ah ⟨⟨_,rfl,VI (hf _ List.mem_cons_self)⟩,rfl⟩
 have n10:c ≠ 10:=by simpa using h
 refine aa _ (aC _ _) (aj (fun h=>?_) (fun h=>?_))
 ·have h:c=12:=by simpa using h
  subst h
  refine mY u4 n4 (.inl ⟨rfl,rfl⟩) fun H1 l1 hf=>?_
  exact ah ⟨⟨_,rfl,VI (hf _ List.mem_cons_self)⟩,rfl⟩
 have n12:c ≠ 12:=by simpa using h
 refine ah ⟨?_,rfl⟩
 rw [vw,if_neg (by omega),if_neg (by omega),if_neg (by omega),if_neg (by omega),if_neg n7,if_neg n8,if_neg n9,if_neg n10,if_neg n12]
 rfl
theorem WI {c:Int} {k:Bool} {r1 r2 r0:Nat} {H:Heap} (h1:k=true→c=3∨c=4) (h2:k=false→¬ (c=1∨c=2∨c=3∨c=4)):(mT (.bool k) r1 [iV c] r2 r0).den PP (OfQ c) H []:=by
 simp only [mT]
 obtain ⟨d2,u2,n2⟩:=WJ
 refine aj (fun hk=>?_) (fun hk=>?_)
 ·refine mY u2 n2 (.inl ⟨rfl,rfl⟩) fun H1 l1 hf=>?_
  refine ah ⟨?_,rfl⟩
  rw [vw,if_neg (by have:=h1 hk;omega),if_neg (by have:=h1 hk;omega),if_pos (h1 hk)]
  exact ⟨_,rfl,Ws (hf _ List.mem_cons_self)⟩
 have hn:=h2 hk
 refine aa _ (aC _ _) (aj (fun h=>?_) (fun h=>?_))
 ·have h':c=5:=by simpa using h
  exact Wc (fun _=>.inl h') (fun e=>by rw [h] at e;cases e)
 have n5:c ≠ 5:=by simpa using h
 refine aa _ (aC _ _) (aj (fun h=>?_) (fun h=>?_))
 ·have h':c=6:=by simpa using h
  exact Wc (fun _=>.inr (.inl h')) (fun e=>by rw [h] at e;cases e)
 have n6:c ≠ 6:=by simpa using h
 refine aa _ (aC _ _) ?_
 exact Wc (fun e=>.inr (.inr (by simpa using e))) (fun e=>by have:c ≠ 11:=(by simpa using e);omega)
theorem W2 (c:Int) (H:Heap):Triple PP Ep [iV c] H [] (OfQ c):=by
 refine Gl (vs:=[iV c]) (by kernel_rfl) ⟨rfl,trivial⟩ ?_
 simp only [wM]
 obtain ⟨d2,u2,n2⟩:=WJ
 refine af fun r0=>af fun r1=>af fun r2=>?_
 refine aa _ (aC _ _) (aj (fun h=>?_) (fun h=>?_))
 ·have h:c=1:=by simpa using h
  subst h
  refine DX _ (fun Hf _ _=>J4 r2 Hf) rfl ⟨rfl,trivial⟩ fun H1 l1 hf=>?_
  refine af fun r5=>?_
  refine lS (ad:=⟨r2,0,none⟩) (rows:=aG [1,2,3]) (news:=aG [4,5]) (size:=1) (e:=36) (by kernel_rfl) (VW (hf _ List.mem_cons_self)) (fun Hf _ hf2=>Ws (hf2 _ List.mem_cons_self)) (by rw [show lg PP 36=8 by kernel_rfl];decide) (by decide) fun v' H2 l2 hs=>?_
  exact ah ⟨⟨_,rfl,hs⟩,rfl⟩
 have n1:c ≠ 1:=by simpa using h
 refine aa _ (aC _ _) (aj (fun h=>?_) (fun h=>?_))
 ·have h:c=2:=by simpa using h
  subst h
  refine mY u2 n2 (.inl ⟨rfl,rfl⟩) fun H1 l1 hf=>?_
  exact ah ⟨⟨_,rfl,Ws (hf _ List.mem_cons_self)⟩,rfl⟩
 have n2':c ≠ 2:=by simpa using h
 refine aa _ (aC _ _) (aj (fun h=>?_) (fun h=>?_))
 ·have h':c=3:=by simpa using h
  exact WI (fun _=>.inl h') (fun e=>by rw [h] at e;cases e)
 have n3:c ≠ 3:=by simpa using h
 refine aa _ (aC _ _) ?_
 exact WI (fun e=>.inr (by simpa using e)) (fun e=>by have:c ≠ 4:=(by simpa using e);omega)
theorem RV {H:Heap} {O:Own} {v:Value} {l:List Int} (h:RSl H O 1 v (l.map fun n=>[I n])) (x:Int):RetO PP cT [v,I x] H O (I (qO l x 0)):=by
 refine eZ (vs:=[v,I x]) (by kernel_rfl) ⟨h.one,rfl,trivial⟩ ?_
 simp only [bK]
 refine aa _ h.len ?_
 refine aX l.length (fun i H' O'=>O'=O∧Heap.le H H'∧qO l x 0=qO (l.drop i) x i) ⟨rfl,Heap.le_refl H,by simp⟩ ?_
 rintro i H' O' hi - ⟨rfl,hle,hor⟩
 refine aa _ (aI _ _) (aj (fun hb=>?_) (fun hb=>?_))
 ·have hlt:i < l.length:=by simpa using hb
  obtain ⟨a,h1,h2,_,h3,h4⟩:=(h.le hle).idx .i64 i [I l[i]] (by simp [hlt])
  refine aa _ h1 (aw h2 h3 h4 (aa _ (aC _ _) (aj (fun hb=>?_) (fun hb=>?_))))
  ·refine ah ⟨?_,rfl⟩
   rw [hor,List.drop_eq_getElem_cons hlt,qO,if_pos hb];rfl
  ·refine aa _ (aA (by have:=h.lenB;simp at this;omega)) (aR (by simp [Eqs,E]) hlt ⟨rfl,hle,?_⟩)
   rw [hor,List.drop_eq_getElem_cons hlt,qO,if_neg (by rw [hb];simp)];rfl
 ·have hge:l.length≤i:=by simpa using hb
  refine ah ⟨?_,rfl⟩
  rw [hor,List.drop_of_length_le hge];rfl
theorem J0 {H:Heap} {O:Own} {v:Value} {l:List Int} (h:RSl H O 1 v (l.map fun n=>[I n])) (x:Int):RetO PP cD [v,I x] H O (.bool (l.contains x)):=by
 refine eJ (vs:=[v,I x]) (by kernel_rfl) ⟨h.one,rfl,trivial⟩ ?_
 simp only [bE]
 refine ai (RV h x) rfl ⟨rfl,trivial⟩ fun H1 _=>aa _ (dt _ _) (ah ⟨?_,rfl⟩)
 rw [← JP l x 0 (by omega)]
theorem xW (n lo hi:Int) (H:Heap) (O:Own):RetO PP uM [iV n,iV lo,iV hi] H O (.bool (inR n lo hi)):=by
 refine yQ (vs:=[iV n,iV lo,iV hi]) (by kernel_rfl) ⟨rfl,rfl,rfl,trivial⟩ ?_
 simp only [nF]
 refine aa _ (dt _ _) (aj (fun h=>?_) (fun h=>?_))
 ·refine ai (J5 n hi) rfl ⟨rfl,trivial⟩ fun H1 _=>aa _ (aC _ _) (ah ⟨?_,rfl⟩)
  rw [inR,h,Bool.true_and]
 ·refine ah ⟨?_,rfl⟩
  rw [inR,h,Bool.false_and]
theorem zf {H:Heap} {O:Own} {s:Value} {l:List Int} (h:RSl H O 1 s (aG l)) (e:Eff):RetO PP kF [s,.agg e.row.toArray] H O (.bool (S4 l e)):=by
 refine vk (vs:=s::e.row) (by kernel_rfl) ⟨h.one,kY e⟩ ?_
 simp only [kp]
 refine af fun r0=>?_
 refine ab ?_
 refine ai (J0 h e.target) rfl ⟨rfl,trivial⟩ fun H1 _=>?_
 refine ab (ae (ae ?_))
 refine aa _ (aC _ _) ?_
 refine ae ?_
 refine aa _ (aU _ _) ?_
 refine ab (ae (ae ?_))
 refine aa _ (aC _ _) ?_
 refine ae ?_
 refine aa _ (aU _ _) ?_
 refine ab (ae (ae ?_))
 refine aa _ (aC _ _) ?_
 refine ae ?_
 refine aa _ (aU _ _) ?_
 exact ah ⟨rfl,rfl⟩
theorem I1 {H:Heap} {O:Own} {s:Value} {l:List Int} (h:RSl H O 1 s (aG l)) (m:Int) (e:Eff):RetO PP ii [.agg #[s,iV m],.agg e.row.toArray] H O (.bool (RI l m e)):=by
 refine qG (vs:=s::iV m::e.row) (by kernel_rfl) ⟨h.one,rfl,kY e⟩ ?_
 simp only [ie]
 refine af fun r0=>af fun r1=>?_
 refine ab (ab (ab ?_))
 refine ai (xW e.n 1 m _ _) rfl ⟨rfl,trivial⟩ fun H1 l1=>aj (fun hb=>?_) (fun hb=>?_)
 ·refine ab (ab ?_)
  refine ai (zf (h.le l1) { e with n:=0 }) rfl ⟨rfl,trivial⟩ fun H2 _=>ah ⟨?_,rfl⟩
  rw [RI,hb,Bool.true_and];rfl
 ·refine ah ⟨?_,rfl⟩
  rw [RI,hb,Bool.false_and]
theorem Qk {H:Heap} {O:Own} {s:Value} {l:List Int} (h:RSl H O 1 s (aG l)) {m:Int} (hm:0≤m) (e:Eff):RetO PP ja [.agg #[s,iV m],.agg e.row.toArray] H O (.bool (RH l m e)):=by
 refine sL (vs:=s::iV m::e.row) (by kernel_rfl) ⟨h.one,rfl,kY e⟩ ?_
 simp only [iW]
 refine af fun r0=>af fun r1=>?_
 refine ab (ab (ab (ab ?_)))
 refine ai (xW e.n 0 9 _ _) rfl ⟨rfl,trivial⟩ fun H1 l1=>aj (fun hb=>?_) (fun hb=>?_)
 rotate_left
 ·refine ah ⟨?_,rfl⟩
  rw [RH,hb];rfl
 refine ab ?_
 refine ai (xW e.m m 9 _ _) rfl ⟨rfl,trivial⟩ fun H2 l2=>?_
 refine ae (ae ?_)
 have hw:∃ z,ak (.bin .add .int) [iV e.n,iV e.m]=some (iV z)∧(inR e.m m 9=true→z=e.n + e.m):=by
  refine ⟨IntKind.i64.wrap (e.n + e.m),rfl,fun hm9=>?_⟩
  simp only [inR,Bool.and_eq_true,decide_eq_true_eq,beq_iff_eq] at hb hm9
  exact gC (by omega) (by omega)
 obtain ⟨z,hz,hze⟩:=hw
 refine aa _ hz ?_
 refine ae ?_
 refine aa _ (bN _ _) ?_
 refine ae ?_
 refine aa _ (aU _ _) (aj (fun hc=>?_) (fun hc=>?_))
 ·rw [Bool.and_eq_true] at hc
  refine ab (ab ?_)
  refine ai (zf (h.le (Heap.le_trans l1 l2)) { e with n:=0,m:=0 }) rfl ⟨rfl,trivial⟩ fun H3 _=>ah ⟨?_,rfl⟩
  rw [RH,hb,hc.1,← hze hc.1,hc.2];rfl
 ·refine ah ⟨?_,rfl⟩
  rw [RH,hb,Bool.true_and]
  by_cases hm9:inR e.m m 9=true
  ·rw [hm9,Bool.true_and] at hc
   rw [hm9,← hze hm9,Bool.true_and,hc];rfl
  ·rw [show inR e.m m 9=false by simpa using hm9];rfl
theorem Qn {H:Heap} {O:Own} {s:Value} {l:List Int} (h:RSl H O 1 s (aG l)) (m:Int) (e:Eff):RetO PP gi [.agg #[s,iV m],.agg e.row.toArray] H O (.bool (S3 l m e)):=by
 refine pJ (vs:=s::iV m::e.row) (by kernel_rfl) ⟨h.one,rfl,kY e⟩ ?_
 simp only [gf]
 refine af fun r0=>af fun r1=>?_
 refine ab (ab ?_)
 refine ai (xW e.colour 0 3 _ _) rfl ⟨rfl,trivial⟩ fun H1 l1=>aj (fun hb=>?_) (fun hb=>?_)
 ·refine ab (ab ?_)
  refine ai (I1 (h.le l1) m { e with colour:=0 }) rfl ⟨rfl,trivial⟩ fun H2 _=>ah ⟨?_,rfl⟩
  rw [S3,hb,Bool.true_and];rfl
 ·refine ah ⟨?_,rfl⟩
  rw [S3,hb,Bool.false_and]
end Go.Proofs.YtdhobpmnkfmcfaaGreatDoor
namespace Go.Proofs.YtdhobpmnkfmcfaaGreatDoor
open Go Go.Sx
set_option maxRecDepth 100000
set_option maxHeartbeats 1000000
def sm (n:Int):Prop:=-1000000000≤n∧n≤1000000000
theorem W5 {x y:Int} (hx:sm x) (hy:sm y):ak (.bin .add .int) [iV x,iV y]=some (iV (x + y)):=by
 obtain ⟨a,b⟩:=hx
 obtain ⟨c,d⟩:=hy
 exact zl (by omega) (by omega)
theorem WY {x:Int} (hx:sm x):ak .neg [iV x]=some (iV (-x)):=by
 obtain ⟨a,b⟩:=hx
 have h:IntKind.i64.wrap (0 - x)=-x:=by rw [gC (by omega) (by omega)];omega
 simp only [ak,h]
theorem Qj {H:Heap} {O:Own} {a b:Int} (ha:sm a) (hb:sm b):RetO PP zC [iV a,iV b] H O (iV (a + b)):=by
 refine zL (vs:=[iV a,iV b]) (by kernel_rfl) ⟨rfl,rfl,trivial⟩ ?_
 simp only [u6]
 refine aa _ (W5 ha hb) ?_
 refine aa _ (bN _ _) ?_
 refine ae ?_
 refine aa _ (bN _ _) ?_
 refine ae ?_
 refine aa _ (aU _ _) ?_
 refine ae ?_
 refine aa _ (eY _ _) ?_
 refine ae ?_
 refine aa _ (aU _ _) (aj (fun h=>?_) (fun h=>?_))
 ·exfalso
  have h:((decide (a > 0) && decide (b > 0)) && decide (a + b≤0))=true:=h
  simp only [Bool.and_eq_true,decide_eq_true_eq] at h
  omega
 refine aa _ (aI _ _) ?_
 refine ae ?_
 refine aa _ (aI _ _) ?_
 refine ae ?_
 refine aa _ (aU _ _) ?_
 refine ae ?_
 refine aa _ (dt _ _) ?_
 refine ae ?_
 refine aa _ (aU _ _) (aj (fun h=>?_) (fun h=>?_))
 ·exfalso
  have h:((decide (a < 0) && decide (b < 0)) && decide (a + b ≥ 0))=true:=h
  simp only [Bool.and_eq_true,decide_eq_true_eq] at h
  omega
 exact ah ⟨rfl,rfl⟩
theorem jj {H:Heap} {O:Own} {a b:Int} (ha:sm a) (hb:sm b) (m:Int):RetO PP En [iV a,iV b,iV m] H O (iV (dI (a + b) m)):=by
 refine BX (vs:=[iV a,iV b,iV m]) (by kernel_rfl) ⟨rfl,rfl,rfl,trivial⟩ ?_
 simp only [yh]
 refine ai (Qj ha hb) rfl ⟨rfl,trivial⟩ fun H1 l1=>?_
 refine ai (J5 (a + b) m) rfl ⟨rfl,trivial⟩ fun H2 l2=>?_
 exact ah ⟨rfl,rfl⟩
theorem LH {H:Heap} {O:Own} {a b:Int} (ha:sm a) (hb:sm b) (m:Int):RetO PP Jg [iV a,iV b,iV m] H O (iV (dI (a - b) m)):=by
 refine Jq (vs:=[iV a,iV b,iV m]) (by kernel_rfl) ⟨rfl,rfl,rfl,trivial⟩ ?_
 simp only [D9]
 refine aa _ (aC _ _) (aj (fun h=>?_) (fun h=>?_))
 ·exfalso
  have h:b=-9223372036854775808:=by simpa using h
  obtain ⟨c,d⟩:=hb
  omega
 refine aa _ (WY hb) ?_
 refine ai (jj ha (show sm (-b) by obtain ⟨c,d⟩:=hb;constructor <;> omega) m) rfl ⟨rfl,trivial⟩ fun H1 l1=>?_
 rw [show a - b=a + -b by omega]
 exact ah ⟨rfl,rfl⟩
theorem GW {H:Heap} {O:Own} {a b:Int} (ha:sm a) (hb:sm b):RetO PP rU [iV a,iV b] H O (iV (AW a b)):=by
 refine tI (vs:=[iV a,iV b]) (by kernel_rfl) ⟨rfl,rfl,trivial⟩ ?_
 simp only [mR]
 obtain ⟨c,d⟩:=ha
 obtain ⟨e,f⟩:=hb
 refine aa _ (Dk _ _) (aa _ (Dk _ _) ?_)
 refine ai (jj (a:=max 0 a) (b:=max 0 b) (by constructor <;> omega) (by constructor <;> omega) 99) rfl ⟨rfl,trivial⟩ fun H1 l1=>?_
 refine ah ⟨?_,rfl⟩
 show iV (dI (max 0 a + max 0 b) 99)=iV (AW a b)
 rw [dI,AW]
 congr 1
 omega
def smO (o:Ob):Prop:=sm o.dmg∧sm o.cnt∧sm o.pp∧sm o.pt
theorem Wq {H:Heap} {O:Own} {o:Ob} (ho:smO o) {n:Int} (hn:sm n):RetO PP Aq [.agg o.row.toArray,iV n] H O (.agg (Ob.row { o with dmg:=AW o.dmg n }).toArray):=by
 refine ED (vs:=o.row++[iV n]) (by kernel_rfl) (aE (bG o) ⟨rfl,trivial⟩) ?_
 simp only [uw]
 refine af fun r0=>af fun r1=>?_
 refine ab ?_
 refine ai (GW ho.1 hn) rfl ⟨rfl,trivial⟩ fun H1 l1=>?_
 refine ab (ab (ab (ab ?_)))
 exact ah ⟨rfl,rfl⟩
theorem Si {H:Heap} {O:Own} {o:Ob} (ho:smO o) {n:Int} (hn:sm n):RetO PP vP [.agg o.row.toArray,iV n] H O (.agg (Ob.row { o with cnt:=AW o.cnt n }).toArray):=by
 refine AH (vs:=o.row++[iV n]) (by kernel_rfl) (aE (bG o) ⟨rfl,trivial⟩) ?_
 simp only [o7]
 refine af fun r0=>af fun r1=>?_
 refine ab ?_
 refine ai (GW ho.2.1 hn) rfl ⟨rfl,trivial⟩ fun H1 l1=>?_
 refine ab (ab (ab (ab ?_)))
 exact ah ⟨rfl,rfl⟩
theorem VG {H:Heap} {O:Own} {o:Ob} (ho:smO o) {n m:Int} (hn:sm n) (hm:sm m):RetO PP yw [.agg o.row.toArray,iV n,iV m] H O (.agg (Ob.row { o with pp:=AW o.pp n,pt:=AW o.pt m }).toArray):=by
 refine B2 (vs:=o.row++[iV n,iV m]) (by kernel_rfl) (aE (bG o) ⟨rfl,rfl,trivial⟩) ?_
 simp only [rG]
 refine af fun r0=>af fun r1=>?_
 refine ab (ab ?_)
 refine ai (GW ho.2.2.1 hn) rfl ⟨rfl,trivial⟩ fun H1 l1=>?_
 refine ai (GW ho.2.2.2 hm) rfl ⟨rfl,trivial⟩ fun H2 l2=>?_
 refine ab (ab (ab (ab (ab ?_))))
 exact ah ⟨rfl,rfl⟩
theorem Qo {H:Heap} {O:Own} {o:Ob} (ho:smO o) {e:Eff} (hn:sm e.n) (hm:sm e.m):RetO PP ql [.agg o.row.toArray,.agg e.row.toArray] H O (.agg (FZ e o).row.toArray):=by
 refine vW (vs:=o.row++e.row) (by kernel_rfl) (aE (bG o) (kY e)) ?_
 simp only [lh]
 refine af fun r0=>af fun r1=>af fun r2=>?_
 refine ab ?_
 refine aa _ (aC _ _) (aj (fun h=>?_) (fun h=>?_))
 ·refine ab (ab (ab (ab ?_)))
  refine ah ⟨?_,rfl⟩
  rw [FZ,if_pos (by simpa using h)];rfl
 have n5:e.code ≠ 5:=by simpa using h
 refine aa _ (aC _ _) (aj (fun h=>?_) (fun h=>?_))
 ·refine ab (ab (ab (ab ?_)))
  refine ah ⟨?_,rfl⟩
  rw [FZ,if_neg n5,if_pos (by simpa using h)];rfl
 have n11:e.code ≠ 11:=by simpa using h
 refine aa _ (aC _ _) (aj (fun h=>?_) (fun h=>?_))
 ·refine ab (ab (ab ?_))
  refine ai (VG ho hn hm) rfl (vs:=Ob.row { o with pp:=AW o.pp e.n,pt:=AW o.pt e.m }) (bG _) fun H1 l1=>?_
  refine ab (ab ?_)
  refine ah ⟨?_,rfl⟩
  rw [FZ,if_neg n5,if_neg n11,if_pos (by simpa using h)];rfl
 have n8:e.code ≠ 8:=by simpa using h
 refine aa _ (aC _ _) (aj (fun h=>?_) (fun h=>?_))
 ·refine ab (ab ?_)
  refine ai (Si ho hn) rfl (vs:=Ob.row { o with cnt:=AW o.cnt e.n }) (bG _) fun H1 l1=>?_
  refine ab (ab ?_)
  refine ah ⟨?_,rfl⟩
  rw [FZ,if_neg n5,if_neg n11,if_neg n8,if_pos (by simpa using h)];rfl
 have n9:e.code ≠ 9:=by simpa using h
 refine ab (ab (ab ?_))
 refine ah ⟨?_,rfl⟩
 rw [FZ,if_neg n5,if_neg n11,if_neg n8,if_neg n9];rfl
end Go.Proofs.YtdhobpmnkfmcfaaGreatDoor
namespace Go.Proofs.YtdhobpmnkfmcfaaGreatDoor
open Go Go.Sx
set_option maxRecDepth 100000
set_option maxHeartbeats 1000000
theorem Lh {t:TypeId} {v:Value}:∀ w,((PrimOp.eqv .neq 113 true).sem [.iface t v,.nilIface]).run PP w=.ok (.value (.bool true)) w:=fun w=>by kernel_rfl
theorem Uh:∀ w,((PrimOp.eqv .neq 113 true).sem [.nilIface,.nilIface]).run PP w=.ok (.value (.bool false)) w:=fun w=>by kernel_rfl
theorem Rq (v:Value):Am PP "zeitnot/effect.fits" (.iface 151 v) kF v:=⟨_,_,rfl,fun w=>by kernel_rfl⟩
theorem Um (v:Value):Am PP "zeitnot/effect.fits" (.iface 154 v) ii v:=⟨_,_,rfl,fun w=>by kernel_rfl⟩
theorem Uk (v:Value):Am PP "zeitnot/effect.fits" (.iface 156 v) ja v:=⟨_,_,rfl,fun w=>by kernel_rfl⟩
theorem Ul (v:Value):Am PP "zeitnot/effect.fits" (.iface 158 v) gi v:=⟨_,_,rfl,fun w=>by kernel_rfl⟩
theorem Ot {H:Heap} {R:Rl} {r:Value} (h:VL H R r):r.oneCell'=true:=by
 cases R with
 | no=>rw [show r=.nilIface from h];rfl
 | bare l=>obtain ⟨s,rfl,_⟩:=h;rfl
 | cnt l m=>obtain ⟨s,rfl,_⟩:=h;rfl
 | par l m=>obtain ⟨s,rfl,_⟩:=h;rfl
 | col l m=>obtain ⟨s,rfl,_⟩:=h;rfl
theorem TZ {c:Int} {l:List Int} {m:Int} (h:vw c=.par l m):0≤m:=by
 rw [vw] at h
 repeat' (split at h)
 all_goals first | (injection h with h1 h2;omega) | cases h
theorem FU (e:Eff) (H:Heap):RetO PP vQ [.agg e.row.toArray] H [] (.bool (IP e)):=by
 refine AI (vs:=e.row) (by kernel_rfl) (kY e) ?_
 simp only [o9]
 refine af fun r0=>?_
 refine ab ?_
 refine ax (W2 e.code H) ?_
 rintro r H1 _ ⟨hr,rfl⟩ l1
 refine ⟨[r],rfl,⟨Ot hr,trivial⟩,?_⟩
 have hpp:=@TZ e.code
 rw [IP]
 generalize vw e.code=R at hr hpp
 cases R with
 | no =>
  rw [show r=.nilIface from hr]
  refine ⟨_,fun _=>Uh,rfl,aj (fun hd=>by cases hd) (fun _=>?_)⟩
  exact ah ⟨rfl,rfl⟩
 | bare l =>
  obtain ⟨s,rfl,hs⟩:=hr
  refine ⟨_,fun _=>Lh,rfl,aj (fun _=>?_) (fun hd=>by cases hd)⟩
  refine ab ?_
  exact xT (Rq s) (jm ay (by decide)) (zf (hs.rsl []) e) rfl ⟨rfl,trivial⟩ fun H2 l2=>ah ⟨rfl,rfl⟩
 | cnt l m =>
  obtain ⟨s,rfl,hs⟩:=hr
  refine ⟨_,fun _=>Lh,rfl,aj (fun _=>?_) (fun hd=>by cases hd)⟩
  refine ab ?_
  exact xT (Um _) (jm ay (by decide)) (I1 (hs.rsl []) m e) rfl ⟨rfl,trivial⟩ fun H2 l2=>ah ⟨rfl,rfl⟩
 | par l m =>
  obtain ⟨s,rfl,hs⟩:=hr
  refine ⟨_,fun _=>Lh,rfl,aj (fun _=>?_) (fun hd=>by cases hd)⟩
  refine ab ?_
  exact xT (Uk _) (jm ay (by decide)) (Qk (hs.rsl []) (hpp rfl) e) rfl ⟨rfl,trivial⟩ fun H2 l2=>ah ⟨rfl,rfl⟩
 | col l m =>
  obtain ⟨s,rfl,hs⟩:=hr
  refine ⟨_,fun _=>Lh,rfl,aj (fun _=>?_) (fun hd=>by cases hd)⟩
  refine ab ?_
  exact xT (Ul _) (jm ay (by decide)) (Qn (hs.rsl []) m e) rfl ⟨rfl,trivial⟩ fun H2 l2=>ah ⟨rfl,rfl⟩
theorem W1 {H:Heap} {O:Own} {cv:Value} {cs:List CdX} (hk:CardsX H cv cs) {v:dG} {b:Bd} (h:BdR H O v b) {id:Int} (hid:i64 id):RetO PP Ap [cv,.agg (ao v b).toArray,iV id] H O (.bool (onB cs b id)):=by
 refine EC (vs:=cv::(ao v b++[iV id])) (by kernel_rfl) ⟨hk.one,aE (ap h) ⟨rfl,trivial⟩⟩ ?_
 simp only [ut]
 refine af fun r0=>?_
 refine ab ?_
 refine ai (Tc h hid) rfl (vs:=(fU b id).row++[iV (bm b id)]) (aE (bG _) ⟨rfl,trivial⟩) fun H1 l1=>af fun r1=>?_
 refine ab ?_
 refine aa _ (aC _ _) (aj (fun hi=>?_) (fun hi=>?_))
 rotate_left
 ·refine ah ⟨?_,rfl⟩
  rw [onB,show (bm b id == 0)=false from hi,Bool.false_and]
 have hi:(bm b id == 0)=true:=hi
 have hb:(bm b id != 0)=false:=by rw [bne,hi];rfl
 obtain ⟨hval,k,o,e1,e2,e3,e4⟩:=qa hb
 have hfo:=qW hb e1 e3
 have hown:=(dr (aS hval).1 e1).2.2.2
 rw [hfo]
 refine ab ?_
 refine ai (FV (hk.le l1).base.kinds o) rfl ⟨rfl,trivial⟩ fun H2 l2=>aj (fun hc=>?_) (fun hc=>?_)
 rotate_left
 ·refine ah ⟨?_,rfl⟩
  rw [onB,hi,Bool.true_and,hfo,show eU (VU cs) o=false from hc,Bool.false_and]
 have h2:=h.le (Heap.le_trans l1 l2)
 have hr:onB cs b id=(aF b o.owner).field.contains id:=by rw [onB,hi,Bool.true_and,hfo,show eU (VU cs) o=true from hc,Bool.true_and]
 rw [hr]
 rcases hown with hown | hown
 ·rw [hown]
  refine ab ?_
  refine ⟨.i64,o.owner,rfl,fun _=>?_,fun e=>absurd hown e⟩
  refine ab ?_
  exact ai (eF h2.s0.field id) rfl ⟨rfl,trivial⟩ fun H3 l3=>ah ⟨rfl,rfl⟩
 ·rw [hown]
  refine ab ?_
  refine ⟨.i64,o.owner,rfl,fun e=>absurd e (by omega),fun _=>⟨.i64,o.owner,rfl,fun _=>?_,fun e=>absurd hown e⟩⟩
  refine ab ?_
  exact ai (eF h2.s1.field id) rfl ⟨rfl,trivial⟩ fun H3 l3=>ah ⟨rfl,rfl⟩
def Qw (r:Nat) (e:Eff):BV:=⟨r,39,e.row⟩
theorem I5 {r:Nat} {e:Eff} {H:Heap} {O:Own} (off m:Nat) (hm:off + m≤5):Reads H ((Qw r e).obj::O) (.pointer (some ⟨r,off,none⟩)) m ((e.row.drop off).take m) :=
 .inr ⟨⟨r,off,none⟩,e.row.toArray,39,rfl,rfl,List.mem_cons_self,rfl,by simp [Eff.row];omega⟩
theorem VB {H:Heap} {o:Ob} (ho:smO o) {e:Eff} (hn:sm e.n) (r:Nat):RetO PP kE [.agg o.row.toArray,.pointer (some ⟨r,0,none⟩)] H [(Qw r e).obj] (.agg (Ob.row { o with dmg:=AW o.dmg e.n }).toArray):=by
 refine vj (vs:=o.row++[.pointer (some ⟨r,0,none⟩)]) (by kernel_rfl) (aE (bG o) ⟨rfl,trivial⟩) ?_
 simp only [kl]
 refine af fun r0=>af fun r1=>?_
 refine ab (aK rfl ?_)
 refine aw (vs:=[iV e.n]) (I5 2 1 (by omega)) rfl ⟨rfl,trivial⟩ ?_
 refine ai (Wq ho hn) rfl (vs:=Ob.row { o with dmg:=AW o.dmg e.n }) (bG _) fun H1 l1=>?_
 refine ab (ab ?_)
 exact ah ⟨rfl,rfl⟩
theorem VA {H:Heap} {o:Ob} (ho:smO o) {e:Eff} (hn:sm e.n) (hm:sm e.m) (r:Nat):RetO PP ov [.agg o.row.toArray,.pointer (some ⟨r,0,none⟩)] H [(Qw r e).obj] (.agg (FZ e o).row.toArray):=by
 refine vi (vs:=o.row++[.pointer (some ⟨r,0,none⟩)]) (by kernel_rfl) (aE (bG o) ⟨rfl,trivial⟩) ?_
 simp only [kj]
 refine af fun r0=>af fun r1=>?_
 refine ab ?_
 refine aw (vs:=e.row) (I5 0 5 (by omega)) rfl (kY e) ?_
 refine ai (Qo ho hn hm) rfl (vs:=(FZ e o).row) (bG _) fun H1 l1=>?_
 refine ab (ab ?_)
 exact ah ⟨rfl,rfl⟩
theorem LI {H:Heap} {v:dG} {b:Bd} (h:BdS H v b) (hB:bdB b) {id:Int} (hid:i64 id) {f:FuncId} {r:Nat} {e:Eff} {g:Ob→Ob} (hok:vr PP f)
  (hf:∀ H',RetO PP f [.agg (fU b id).row.toArray,.pointer (some ⟨r,0,none⟩)] H' [(Qw r e).obj] (.agg (g (fU b id)).row.toArray)) (hg:i64 (g (fU b id)).id) (hz:(Ew b (g (fU b id))).2=0) :
  Triple PP sd [.agg (ao v b).toArray,iV id,.func (.func f) #[] #[.pointer (some ⟨r,0,none⟩)]] H [(Qw r e).obj] fun x _ O'=>∃ X,O'=(Qw r e).obj::X∧∃ w,x=.agg (ao w (dT b id g)).toArray∧OwnB tys w (dT b id g) X:=by
 refine xe (vs:=ao v b++[iV id,.func (.func f) #[] #[.pointer (some ⟨r,0,none⟩)]]) (by kernel_rfl) (aE (ap (h.r [])) ⟨rfl,rfl,trivial⟩) ?_
 simp only [lV]
 refine af fun r0=>af fun r1=>?_
 refine ab ?_
 refine ai (Tc (h.r _) hid) rfl (vs:=(fU b id).row++[iV (bm b id)]) (aE (bG _) ⟨rfl,trivial⟩) fun H1 l1=>af fun r2=>?_
 have h:=h.le l1
 refine ab (ab (ab ?_))
 refine gV rfl hok (hf H1) rfl (vs:=(g (fU b id)).row) (bG _) fun H2 l2=>?_
 have h:=h.le l2
 refine ax (Wn h hB hg) ?_
 rintro _ H3 O3 ⟨w,rfl,ho⟩ l3
 refine ⟨ao w (Ew b (g (fU b id))).1++[iV (Ew b (g (fU b id))).2],rfl,aE (bM H3 ho) ⟨rfl,trivial⟩,af fun r3=>?_⟩
 have ec:dT b id g=(Ew b (g (fU b id))).1:=by rw [dT,if_pos hz]
 rw [ec,hz]
 refine ab ?_
 refine aa _ (ba _ _) (aj (fun hd=>by cases hd) (fun _=>?_))
 refine ab (ab (ab ?_))
 intro hc
 exact ⟨H3,(Qw r e).obj::O3,Ghost.perm (List.perm_append_comm (l₁:=O3) (l₂:=[(Qw r e).obj])),O3,rfl,w,rfl,ho⟩
end Go.Proofs.YtdhobpmnkfmcfaaGreatDoor
namespace Go.Proofs.YtdhobpmnkfmcfaaGreatDoor
open Go Go.Sx
set_option maxRecDepth 100000
set_option maxHeartbeats 1000000
theorem F2 (a b:Int):au (AW a b) 0 99=true:=by
 have h:0≤AW a b∧AW a b≤99:=by simp only [AW];omega
 simp only [au,decide_eq_true_eq];exact h
theorem to {b:Bd} (hv:ar b=true) (q:Int):bc (aF b q)=true:=by
 simp only [ar,Bool.and_eq_true] at hv
 rw [aF]
 split
 ·exact hv.2.2.2.2.2.1
 ·exact hv.2.2.2.2.2.2.1
theorem tp {b:Bd} (hv:ar b=true) (q:Int):0≤(aF b q).life∧(aF b q).life≤9999:=by
 have h:=to hv q
 simp only [bc,Bool.and_eq_true,au,decide_eq_true_eq] at h
 exact h.1
theorem lu {b:Bd} (hv:ar b=true) (q:Int):sm (aF b q).p0∧sm (aF b q).p1∧sm (aF b q).p2∧sm (aF b q).p3:=by
 have h:=to hv q
 simp only [bc,Bool.and_eq_true,au,decide_eq_true_eq,List.all_cons,List.all_nil] at h
 obtain ⟨_,⟨⟨a1,a2⟩,⟨a3,a4⟩,⟨a5,a6⟩,⟨a7,a8⟩,_⟩,_⟩:=h
 refine ⟨?_,?_,?_,?_⟩ <;> constructor <;> omega
theorem Hr {o:Ob} (h:aY o=true):smO o:=by
 simp only [aY,Bool.and_eq_true,List.all_cons,List.all_nil,au,decide_eq_true_eq] at h
 obtain ⟨⟨⟨_,_,a,b,c,d,_⟩,_⟩,_⟩:=h
 refine ⟨?_,?_,?_,?_⟩ <;> constructor <;> omega
theorem qV {b:Bd} {id:Int} (hi:bm b id=0):∃ k,b.objs[k]?=some (fU b id)∧(fU b id).id=id∧fM b id=(k:Nat)∧aY (fU b id)=true∧((fU b id).owner=0∨(fU b id).owner=1):=by
 have hb:(bm b id != 0)=false:=by rw [hi];rfl
 obtain ⟨hval,k,o,e1,e2,e3,_⟩:=qa hb
 have hfo:=qW hb e1 e3
 obtain ⟨h1,_,_,h4⟩:=dr (aS hval).1 e1
 rw [hfo]
 exact ⟨k,e1,e2,e3,h1,h4⟩
theorem Kz {b:Bd} {id:Int} (hi:bm b id=0) {o:Ob} (h1:o.id=id) (h2:o.card=(fU b id).card) (h3:o.owner=(fU b id).owner) (hvo:aY o=true):Ew b o=(eB b (fM b id).toNat o,0):=by
 rw [Ew,if_pos hvo,h1,if_neg (by rw [hi];simp),if_neg (by rw [h2,h3];simp)]
theorem Jb (e:Eff) (o:Ob):(FZ e o).id=o.id∧(FZ e o).card=o.card∧(FZ e o).owner=o.owner:=by
 simp only [FZ]
 repeat' split
 all_goals exact ⟨rfl,rfl,rfl⟩
theorem Ja {e:Eff} {o:Ob} (h:aY o=true):aY (FZ e o)=true:=by
 have ha:=F2
 simp only [aY,Bool.and_eq_true,List.all_cons,List.all_nil] at h ⊢
 simp only [FZ]
 obtain ⟨⟨⟨a,b,c,d,f,g,k⟩,q⟩,r⟩:=h
 repeat' split
 all_goals first
  | exact ⟨⟨⟨a,b,c,d,f,g,k⟩,q⟩,r⟩
  | exact ⟨⟨⟨a,b,c,d,ha _ _,ha _ _,k⟩,q⟩,r⟩
  | exact ⟨⟨⟨a,b,c,ha _ _,f,g,k⟩,q⟩,r⟩
theorem IQ {o:Ob} (h:aY o=true) (n:Int):aY { o with dmg:=AW o.dmg n }=true:=by
 have ha:=F2
 simp only [aY,Bool.and_eq_true,List.all_cons,List.all_nil] at h ⊢
 obtain ⟨⟨⟨a,b,c,d,f,g,k⟩,q⟩,r⟩:=h
 exact ⟨⟨⟨a,b,ha _ _,d,f,g,k⟩,q⟩,r⟩
theorem oi {e:Eff} (h:IP e=true):0≤e.n∧e.n≤99∧0≤e.m∧e.m≤99∧0≤e.colour∧e.colour≤3:=by
 have hB:∀ {l:List Int} {e:Eff},S4 l e=true→e.n=0∧e.m=0∧e.colour=0:=fun h=>by
  simp only [S4,Bool.and_eq_true,beq_iff_eq] at h
  exact ⟨h.1.1.2,h.1.2,h.2⟩
 have hC:∀ {l:List Int} {k:Int} {e:Eff},k≤99→RI l k e=true→0≤e.n∧e.n≤99∧e.m=0∧e.colour=0:=fun hk h=>by
  simp only [RI,inR,Bool.and_eq_true,beq_iff_eq,decide_eq_true_eq] at h
  obtain ⟨_,h2,h3⟩:=hB h.2
  exact ⟨by omega,by omega,h2,h3⟩
 rw [IP] at h
 have hR:∀ {R:Rl},(match R with | .cnt _ m=>m≤99 | .col _ m=>m≤99 | .par _ m=>0≤m | _=>True)→R.fits e=true→0≤e.n∧e.n≤99∧0≤e.m∧e.m≤99∧0≤e.colour∧e.colour≤3:=by
  intro R hm h
  cases R with
  | no=>cases h
  | bare l=>obtain ⟨a,b,c⟩:=hB h;omega
  | cnt l m=>obtain ⟨a,b,c,d⟩:=hC hm h;omega
  | par l m =>
   have h:RH l m e=true:=h
   have hm:0≤m:=hm
   simp only [RH,inR,Bool.and_eq_true,beq_iff_eq,decide_eq_true_eq] at h
   have h3:e.colour=0:=(hB h.2).2.2
   omega
  | col l m =>
   have h:S3 l m e=true:=h
   simp only [S3,inR,Bool.and_eq_true,beq_iff_eq,decide_eq_true_eq] at h
   obtain ⟨a,b,c,_⟩:=hC hm h.2
   have a:0≤e.n:=a
   have b:e.n≤99:=b
   have c:e.m=0:=c
   omega
 refine hR ?_ h
 rw [vw]
 repeat' split
 all_goals first | trivial | (rename_i hh;revert hh;repeat' split) 
 all_goals first | (intro hh;cases hh;omega) | (intro hh;injection hh;omega) | (intro hh;cases hh) | trivial
end Go.Proofs.YtdhobpmnkfmcfaaGreatDoor
namespace Go.Proofs.YtdhobpmnkfmcfaaGreatDoor
open Go Go.Sx
set_option maxRecDepth 100000
set_option maxHeartbeats 1000000
theorem lC {P:Program} {f:FuncId} {args:List Value} {H:Heap} {O:Own} {tt:Tys} {w:dG} {b:Bd} {R:Value→Heap→Own→Prop} {shp:Shp} {K:List Value→List (List Value)→Heap→Own→Prop}
  (ho:OwnB tt w b O) (h:∀ Hf,Heap.le H Hf→BdS Hf w b→Triple P f args Hf [] R) (hk:∀ v H' O1,R v H' O1→Heap.le H H'→∃ vs,shp.open v=some vs∧Ones vs∧K vs [] H' O1) :
  dZ (fun H1 O1 R=>Triple P f args H1 O1 R) false [] [] shp K H O:=by
 intro hc
 obtain ⟨Hf,g,k,lf⟩:=ho.freeze (X:=[]) (by simpa using hc)
 refine ⟨Hf,[],[],R,(by rw [List.append_nil] at g;exact g:Ghost H O Hf []),h Hf lf k,fun v H' O' hr hle=>?_⟩
 obtain ⟨vs,h1,h2,h3⟩:=hk v H' O' hr (Heap.le_trans lf hle)
 exact ⟨vs,[],O',h1,h2,trivial,rfl,by rw [List.append_nil];exact h3⟩
theorem FR {P:Program} {f:FuncId} {args:List Value} {H:Heap} {O:Own} {tt:Tys} {w:dG} {b:Bd} {R:Value→Heap→Own→Prop} {bv:BV} (hbv:Ones bv.vs) {shp:Shp} {K:List Value→List (List Value)→Heap→Own→Prop}
  (ho:OwnB tt w b O) (h:∀ Hf,Heap.le H Hf→BdS Hf w b→Triple P f args Hf [bv.obj] fun r H' O'=>∃ X,O'=bv.obj::X∧R r H' X) (hk:∀ v H' O1,R v H' O1→Heap.le H H'→∃ vs,shp.open v=some vs∧Ones vs∧K vs [bv.vs] H' O1) :
  dZ (fun H1 O1 R=>Triple P f args H1 O1 R) false [] [bv] shp K H O:=by
 intro hc
 have hc:Cons H ([bv.obj]++O):=hc
 have hcO:Cons H (O++[]):=by
  obtain ⟨w0,F,hm⟩:=hc
  exact ⟨w0,F,hm.sub (by rw [List.append_nil];exact (List.sublist_append_right [bv.obj] O).append_right F)⟩
 obtain ⟨Hf,g,k,lf⟩:=ho.freeze (X:=[]) hcO
 refine ⟨Hf,[],[],_,(by rw [List.append_nil] at g;exact g:Ghost H O Hf []),h Hf lf k,?_⟩
 rintro v H' O' ⟨X,rfl,hr⟩ hle
 obtain ⟨vs,h1,h2,h3⟩:=hk v H' X hr (Heap.le_trans lf hle)
 exact ⟨vs,[bv.vs],X,h1,h2,⟨rfl,hbv,trivial⟩,rfl,by rw [List.append_nil];exact h3⟩
theorem je {v:dG} {b:Bd} {O:Own} (ho:OwnB tys v b O) {q:Int} {s:St} (h1:s.lib=(aF b q).lib) (h2:s.hand=(aF b q).hand) (h3:s.field=(aF b q).field) (h4:s.grave=(aF b q).grave):OwnB tys v (bu b q s) O:=by
 obtain ⟨Oo,A0,B0,C0,D0,A1,B1,C1,D1,Os,Oq,Oa,Obk,hp,h⟩:=ho
 refine ⟨Oo,A0,B0,C0,D0,A1,B1,C1,D1,Os,Oq,Oa,Obk,hp,?_⟩
 by_cases hq:q=0
 ·rw [aF,if_pos hq] at h1 h2 h3 h4
  rw [bu,if_pos hq]
  exact ⟨h.objs,by rw [h1];exact h.l0,by rw [h2];exact h.h0,by rw [h3];exact h.f0,by rw [h4];exact h.g0,h.l1,h.h1,h.f1,h.g1,h.stack,h.queue,h.att,h.blocks⟩
 ·rw [aF,if_neg hq] at h1 h2 h3 h4
  rw [bu,if_neg hq]
  exact ⟨h.objs,h.l0,h.h0,h.f0,h.g0,by rw [h1];exact h.l1,by rw [h2];exact h.h1,by rw [h3];exact h.f1,by rw [h4];exact h.g1,h.stack,h.queue,h.att,h.blocks⟩
def Tj (x:Bd) (r:Value) (_:Heap) (O':Own):Prop:=∃ w,r=.agg (ao w x).toArray∧OwnB tys w x O'
theorem IE {H:Heap} {O:Own} {cv:Value} {v:dG} {b:Bd} (ho:OwnB tys v b O) (hv:ar b=true) {p src most:Int} {e:Eff} {t:Tg} (hev:IP e=true) {l:List Value} (hl:l=(cv::(ao v b++(iV p::iV src::(e.row++(t.row++[iV most])))))) {ra rb rc:Nat} :
  (gm ra rb l rc).den PP (Tj (pV b 0 (dI ((aF b 0).life - e.n) 9999))) H O:=by
 obtain ⟨n0,n99,m0,m99,c0,c3⟩:=oi hev
 simp only [gm]
 subst hl
 refine ab (ab ?_)
 refine ai (LH (a:=(aF b 0).life) (b:=e.n) (by have:=tp hv 0;constructor <;> omega) (by constructor <;> omega) 9999) rfl ⟨rfl,trivial⟩ fun H1 l1=>?_
 refine ab (ab (ab (ab ?_)))
 exact ah ⟨v,rfl,je ho rfl rfl rfl rfl⟩
theorem IC {H:Heap} {O:Own} {cv:Value} {v:dG} {b:Bd} (ho:OwnB tys v b O) (hv:ar b=true) {p src most:Int} {e:Eff} {t:Tg} (hev:IP e=true) {l:List Value} (hl:l=(cv::(ao v b++(iV p::iV src::(e.row++(t.row++[iV most])))))) {ra rb rc:Nat} :
  (fB ra rb l rc).den PP (Tj (pV b 1 (dI ((aF b 1).life - e.n) 9999))) H O:=by
 obtain ⟨n0,n99,m0,m99,c0,c3⟩:=oi hev
 simp only [fB]
 subst hl
 refine ab (ab ?_)
 refine ai (LH (a:=(aF b 1).life) (b:=e.n) (by have:=tp hv 1;constructor <;> omega) (by constructor <;> omega) 9999) rfl ⟨rfl,trivial⟩ fun H1 l1=>?_
 refine ab (ab (ab (ab ?_)))
 exact ah ⟨v,rfl,je ho rfl rfl rfl rfl⟩
theorem PR {H:Heap} {O:Own} {cv:Value} {v:dG} {b:Bd} (ho:OwnB tys v b O) (hB:bdB b) {p src most:Int} {e:Eff} {t:Tg} (hev:IP e=true) {l:List Value} (hl:l=(cv::(ao v b++(iV p::iV src::(e.row++(t.row++[iV most])))))) {ra rb rc m:Nat} {id:Int} (qm:g l m=iV id) (hid:i64 id) (hi:bm b id=0) :
  (gu ra l m rb rc).den PP (Tj (dT b id fun o=>{ o with dmg:=AW o.dmg e.n })) H O:=by
 obtain ⟨n0,n99,m0,m99,c0,c3⟩:=oi hev
 obtain ⟨k,f1,f2,f3,f4,f5⟩:=qV hi
 have q5:G5 l 41=e.row:=by rw [hl];rfl
 have q38:ag (G38 l 1)=.agg (ao v b).toArray:=by rw [hl];rfl
 simp only [gu]
 rw [qm,q5,q38]
 generalize hg:(fun o:Ob=>{ o with dmg:=AW o.dmg e.n })=gg
 have g1:∀ o,(gg o).id=o.id∧(gg o).card=o.card∧(gg o).owner=o.owner:=fun o=>by rw [← hg];exact ⟨rfl,rfl,rfl⟩
 have g2:aY (gg (fU b id))=true:=by rw [← hg];exact IQ f4 _
 have g3:∀ H',RetO PP kE [.agg (fU b id).row.toArray,.pointer (some ⟨rb,0,none⟩)] H' [(Qw rb e).obj] (.agg (gg (fU b id)).row.toArray):=fun H'=>by
  rw [← hg];exact VB (Hr f4) (by constructor <;> omega) rb
 clear hg
 refine ab ?_
 refine FR (bv:=Qw rb e) (R:=fun r _ X=>∃ w,r=.agg (ao w (dT b id gg)).toArray∧OwnB tys w (dT b id gg) X) (kY e) ho (fun Hf lf hf=>LI hf hB hid (jm ay (by decide)) g3 (by rw [(g1 _).1,f2];exact hid) (by rw [Kz hi ((g1 _).1.trans f2) (g1 _).2.1 (g1 _).2.2 g2])) ?_
 rintro _ H2 O2 ⟨w2,rfl,h2⟩ l2
 refine ⟨ao w2 _,rfl,bM H2 h2,?_⟩
 refine ab (ab ?_)
 exact ah ⟨w2,rfl,h2⟩
theorem PU {H:Heap} {O:Own} {cv:Value} {cs:List CdX} (hk:CardsX H cv cs) {v:dG} {b:Bd} (ho:OwnB tys v b O) (hB:bdB b) {p src most:Int} {e:Eff} {t:Tg} (hev:IP e=true) {l:List Value} (hl:l=(cv::(ao v b++(iV p::iV src::(e.row++(t.row++[iV most])))))) {ra rb rc m:Nat} {id:Int} (qm:g l m=iV id) (hid:i64 id) :
  (gw ra l m rc rb).den PP (Tj (if onB cs b id=true then dT b id (FZ e) else b)) H O:=by
 obtain ⟨n0,n99,m0,m99,c0,c3⟩:=oi hev
 have q5:G5 l 41=e.row:=by rw [hl];rfl
 have q38:ag (G38 l 1)=.agg (ao v b).toArray:=by rw [hl];rfl
 have q0:g l 0=cv:=by rw [hl];rfl
 simp only [gw]
 rw [qm,q5,q38,q0]
 refine ab ?_
 refine ai (W1 hk (ho.r (fun p hp=>hp) H) hid) rfl ⟨rfl,trivial⟩ fun H1 l1=>?_
 refine aa _ (aJ _) (aj (fun h=>?_) (fun h=>?_))
 ·have h:onB cs b id=false:=vz h
  rw [if_neg (by rw [h];simp)]
  refine ab (ab (ab ?_))
  exact ah ⟨v,rfl,ho⟩
 have h:onB cs b id=true:=sN h
 rw [if_pos h]
 have hi:bm b id=0:=by
  rw [onB,Bool.and_eq_true] at h
  simpa using h.1
 obtain ⟨k,f1,f2,f3,f4,f5⟩:=qV hi
 obtain ⟨a1,a2,a3⟩:=Jb e (fU b id)
 refine ab ?_
 refine FR (bv:=Qw rb e) (R:=fun r _ X=>∃ w,r=.agg (ao w (dT b id (FZ e))).toArray∧OwnB tys w (dT b id (FZ e)) X) (kY e) ho (fun Hf lf hf=>LI hf hB hid (jm ay (by decide)) (fun H'=>VA (Hr f4) (by constructor <;> omega) (by constructor <;> omega) rb) (by rw [a1,f2];exact hid) (by rw [Kz hi (a1.trans f2) a2 a3 (Ja f4)])) ?_
 rintro _ H2 O2 ⟨w2,rfl,h2⟩ l2
 refine ⟨ao w2 _,rfl,bM H2 h2,?_⟩
 refine ab (ab ?_)
 exact ah ⟨w2,rfl,h2⟩
section
variable {H:Heap} {O:Own} {cv:Value} {cs:List CdX} (hgl:GlobOk Dz H) (hk:CardsX H cv cs) {v:dG} {b:Bd} (ho:OwnB tys v b O) (hv:ar b=true) (hB:bdB b) {p src most:Int} {e:Eff} {t:Tg} (hev:IP e=true) {l:List Value} (hl:l=(cv::(ao v b++(iV p::iV src::(e.row++(t.row++[iV most]))))))
 {r1 r0 r3 n m:Nat} {who id:Int}
include hgl hk ho hv hB hev hl
theorem PT (hw:who=0) (qn:g l n=iV who) (qm:g l m=iV id) (hid:i64 id) (hD:e.code=1→id > 0→bm b id=0) :
  (cM l n r1 m r0 r3).den PP (Tj (bh cs b p who id e most)) H O:=by
 obtain ⟨n0,n99,m0,m99,c0,c3⟩:=oi hev
 have nsm:sm e.n:=by constructor <;> omega
 have msm:sm e.m:=by constructor <;> omega
 have lsm:sm (aF b 0).life:=by have:=tp hv 0;constructor <;> omega
 have q41:g l 41=iV e.code:=by rw [hl];rfl
 simp only [cM]
 refine ⟨.i64,who,qn,fun _=>?_,fun h=>absurd hw h⟩
 subst hw
 refine ab ?_
 rw [q41,qm]
 refine aa _ (aC _ _) (aj (fun h=>?_) (fun h=>?_))
 ·have hc:e.code=1:=by simpa using h
  refine aa _ (bN _ _) (aj (fun hp=>?_) (fun hp=>?_))
  ·have hp:id > 0:=of_decide_eq_true hp
   have ec:bh cs b p 0 id e most=dT b id fun o=>{ o with dmg:=AW o.dmg e.n }:=by rw [bh,if_pos hc,if_pos hp]
   rw [ec]
   exact PR ho hB hev hl qm hid (hD hc hp)
  ·have ec:bh cs b p 0 id e most=pV b 0 (dI ((aF b 0).life - e.n) 9999):=by rw [bh,if_pos hc,if_neg (of_decide_eq_false hp)]
   rw [ec]
   exact IE ho hv hev hl
 have k1:e.code ≠ 1:=by simpa using h
 refine aa _ (aC _ _) (aj (fun h=>?_) (fun h=>?_))
 ·have hc:e.code=2:=by simpa using h
  have ec:bh cs b p 0 id e most=(oL b 0 e.n).1:=by rw [bh,if_neg k1,if_pos hc]
  rw [ec]
  simp only [gq]
  rw [qn]
  subst hl
  refine ab (ab ?_)
  refine lC ho (fun Hf lf hf=>Td hf hB 0 e.n (by omega)) ?_
  rintro _ H2 O2 ⟨w2,rfl,h2⟩ l2
  refine ⟨ao w2 (oL b 0 e.n).1++[iV (oL b 0 e.n).2],rfl,aE (bM H2 h2) ⟨rfl,trivial⟩,?_⟩
  refine ab (ab (ab (ab ?_)))
  exact ah ⟨w2,rfl,h2⟩
 have k2:e.code ≠ 2:=by simpa using h
 refine aa _ (aC _ _) (aj (fun h=>?_) (fun h=>?_))
 ·have hc:e.code=3:=by simpa using h
  have ec:bh cs b p 0 id e most=pV b 0 (dI ((aF b 0).life + e.n) 9999):=by rw [bh,if_neg k1,if_neg k2,if_pos hc]
  rw [ec]
  subst hl
  refine ab (ab ?_)
  refine ai (jj lsm nsm 9999) rfl ⟨rfl,trivial⟩ fun H1 l1=>?_
  refine ab (ab (ab (ab ?_)))
  exact ah ⟨v,rfl,je ho rfl rfl rfl rfl⟩
 have k3:e.code ≠ 3:=by simpa using h
 refine aa _ (aC _ _) (aj (fun h=>?_) (fun h=>?_))
 ·have hc:e.code=4:=by simpa using h
  have ec:bh cs b p 0 id e most=pV b 0 (dI ((aF b 0).life - e.n) 9999):=by rw [bh,if_neg k1,if_neg k2,if_neg k3,if_pos hc]
  rw [ec]
  exact IE ho hv hev hl
 have k4:e.code ≠ 4:=by simpa using h
 refine aa _ (aC _ _) (aj (fun h=>?_) (fun h=>?_))
 ·have hc:e.code=6:=by simpa using h
  have ec:bh cs b p 0 id e most=(fG b id 1).1:=by rw [bh,if_neg k1,if_neg k2,if_neg k3,if_neg k4,if_pos hc]
  rw [ec]
  simp only [gp]
  rw [qm]
  subst hl
  refine ab ?_
  refine lC ho (fun Hf lf hf=>LJ hf hB hid 1) ?_
  rintro _ H2 O2 ⟨w2,rfl,h2⟩ l2
  refine ⟨ao w2 (fG b id 1).1++[iV (fG b id 1).2],rfl,aE (bM H2 h2) ⟨rfl,trivial⟩,?_⟩
  refine ab (ab (ab (ab ?_)))
  exact ah ⟨w2,rfl,h2⟩
 have k6:e.code ≠ 6:=by simpa using h
 refine aa _ (aC _ _) (aj (fun h=>?_) (fun h=>?_))
 ·have hc:e.code=7:=by simpa using h
  have ec:bh cs b p 0 id e most=(dm b id).1:=by rw [bh,if_neg k1,if_neg k2,if_neg k3,if_neg k4,if_neg k6,if_pos hc]
  rw [ec]
  simp only [gn]
  rw [qm]
  subst hl
  refine ab ?_
  refine lC ho (fun Hf lf hf=>I3 hf hB hid) ?_
  rintro _ H2 O2 ⟨w2,rfl,h2⟩ l2
  refine ⟨ao w2 (dm b id).1++[iV (dm b id).2],rfl,aE (bM H2 h2) ⟨rfl,trivial⟩,?_⟩
  refine ab (ab (ab (ab ?_)))
  exact ah ⟨w2,rfl,h2⟩
 have k7:e.code ≠ 7:=by simpa using h
 refine aa _ (aC _ _) (aj (fun h=>?_) (fun h=>?_))
 ·have hc:e.code=10:=by simpa using h
  have ec:bh cs b p 0 id e most=(yJ b p e.n e.m most).1:=by rw [bh,if_neg k1,if_neg k2,if_neg k3,if_neg k4,if_neg k6,if_neg k7,if_pos hc]
  rw [ec]
  simp only [gv]
  subst hl
  refine ab (ab (ab ?_))
  refine lC ho (fun Hf lf hf=>Qs (hgl.le lf) hf hB (p:=p) (pw:=e.n) (tn:=e.m) (most:=most) (by omega) (by omega)) ?_
  rintro _ H2 O2 ⟨w2,OB,X,hp2,rfl,h2⟩ l2
  refine ⟨ao w2 (yJ b p e.n e.m most).1++[iV (yJ b p e.n e.m most).2.1,iV (yJ b p e.n e.m most).2.2],rfl,aE (bM H2 h2) ⟨rfl,rfl,trivial⟩,?_⟩
  refine ab (ab (ab (ab ?_)))
  exact yV hp2 ⟨w2,rfl,h2⟩
 have k10:e.code ≠ 10:=by simpa using h
 refine aa _ (aC _ _) (aj (fun h=>?_) (fun h=>?_))
 ·have hc:e.code=12:=by simpa using h
  have ec:bh cs b p 0 id e most=bu b 0 (jN (aF b 0) e.colour e.n):=by rw [bh,if_neg k1,if_neg k2,if_neg k3,if_neg k4,if_neg k6,if_neg k7,if_neg k10,if_pos hc]
  rw [ec]
  subst hl
  refine ab (ab ?_)
  obtain hc | hc | hc | hc:e.colour=0∨e.colour=1∨e.colour=2∨e.colour=3:=by omega
  ·refine ⟨.i64,e.colour,rfl,fun _=>?_,fun h=>absurd hc h⟩
   refine ab (ab ?_)
   refine ai (jj (lu hv 0).1 nsm 99) rfl ⟨rfl,trivial⟩ fun H1 l1=>?_
   simp only [aW]
   refine ⟨.i64,e.colour,rfl,fun _=>?_,fun h=>absurd hc h⟩
   refine ab (ab (ab (ab ?_)))
   refine ah ⟨v,?_,?_⟩
   ·rw [jN,if_pos hc];rfl
   ·rw [jN,if_pos hc];exact je ho rfl rfl rfl rfl
  ·refine ⟨.i64,e.colour,rfl,fun h=>absurd (hc.symm.trans h) (by omega),fun _=>⟨.i64,e.colour,rfl,fun _=>?_,fun h=>absurd hc h⟩⟩
   refine ab (ab ?_)
   refine ai (jj (lu hv 0).2.1 nsm 99) rfl ⟨rfl,trivial⟩ fun H1 l1=>?_
   simp only [aW]
   refine ⟨.i64,e.colour,rfl,fun h=>absurd (hc.symm.trans h) (by omega),fun _=>⟨.i64,e.colour,rfl,fun _=>?_,fun h=>absurd hc h⟩⟩
   refine ab (ab (ab (ab ?_)))
   refine ah ⟨v,?_,?_⟩
   ·rw [jN,if_neg (by omega),if_pos hc];rfl
   ·rw [jN,if_neg (by omega),if_pos hc];exact je ho rfl rfl rfl rfl
  ·refine ⟨.i64,e.colour,rfl,fun h=>absurd (hc.symm.trans h) (by omega),fun _=>⟨.i64,e.colour,rfl,fun h=>absurd (hc.symm.trans h) (by omega),fun _=>⟨.i64,e.colour,rfl,fun _=>?_,fun h=>absurd hc h⟩⟩⟩
   refine ab (ab ?_)
   refine ai (jj (lu hv 0).2.2.1 nsm 99) rfl ⟨rfl,trivial⟩ fun H1 l1=>?_
   simp only [aW]
   refine ⟨.i64,e.colour,rfl,fun h=>absurd (hc.symm.trans h) (by omega),fun _=>⟨.i64,e.colour,rfl,fun h=>absurd (hc.symm.trans h) (by omega),fun _=>⟨.i64,e.colour,rfl,fun _=>?_,fun h=>absurd hc h⟩⟩⟩
   refine ab (ab (ab (ab ?_)))
   refine ah ⟨v,?_,?_⟩
   ·rw [jN,if_neg (by omega),if_neg (by omega),if_pos hc];rfl
   ·rw [jN,if_neg (by omega),if_neg (by omega),if_pos hc];exact je ho rfl rfl rfl rfl
  ·refine ⟨.i64,e.colour,rfl,fun h=>absurd (hc.symm.trans h) (by omega),fun _=>⟨.i64,e.colour,rfl,fun h=>absurd (hc.symm.trans h) (by omega),fun _=>⟨.i64,e.colour,rfl,fun h=>absurd (hc.symm.trans h) (by omega),fun _=>⟨.i64,e.colour,rfl,fun _=>?_,fun h=>absurd hc h⟩⟩⟩⟩
   refine ab (ab ?_)
   refine ai (jj (lu hv 0).2.2.2 nsm 99) rfl ⟨rfl,trivial⟩ fun H1 l1=>?_
   simp only [aW]
   refine ⟨.i64,e.colour,rfl,fun h=>absurd (hc.symm.trans h) (by omega),fun _=>⟨.i64,e.colour,rfl,fun h=>absurd (hc.symm.trans h) (by omega),fun _=>⟨.i64,e.colour,rfl,fun h=>absurd (hc.symm.trans h) (by omega),fun _=>⟨.i64,e.colour,rfl,fun _=>?_,fun h=>absurd hc h⟩⟩⟩⟩
   refine ab (ab (ab (ab ?_)))
   refine ah ⟨v,?_,?_⟩
   ·rw [jN,if_neg (by omega),if_neg (by omega),if_neg (by omega)];rfl
   ·rw [jN,if_neg (by omega),if_neg (by omega),if_neg (by omega)];exact je ho rfl rfl rfl rfl
 have k12:e.code ≠ 12:=by simpa using h
 have ec:bh cs b p 0 id e most=if onB cs b id=true then dT b id (FZ e) else b:=by rw [bh,if_neg k1,if_neg k2,if_neg k3,if_neg k4,if_neg k6,if_neg k7,if_neg k10,if_neg k12]
 rw [ec]
 exact PU hk ho hB hev hl qm hid
include hgl hk ho hv hB hev hl
theorem PS (hw:who=1) (qn:g l n=iV who) (qm:g l m=iV id) (hid:i64 id) (hD:e.code=1→id > 0→bm b id=0) :
  (cM l n r1 m r0 r3).den PP (Tj (bh cs b p who id e most)) H O:=by
 obtain ⟨n0,n99,m0,m99,c0,c3⟩:=oi hev
 have nsm:sm e.n:=by constructor <;> omega
 have msm:sm e.m:=by constructor <;> omega
 have lsm:sm (aF b 1).life:=by have:=tp hv 1;constructor <;> omega
 have q41:g l 41=iV e.code:=by rw [hl];rfl
 simp only [cM]
 refine ⟨.i64,who,qn,fun h=>absurd (hw.symm.trans h) (by omega),fun _=>⟨.i64,who,qn,fun _=>?_,fun h=>absurd hw h⟩⟩
 subst hw
 refine ab ?_
 rw [q41,qm]
 refine aa _ (aC _ _) (aj (fun h=>?_) (fun h=>?_))
 ·have hc:e.code=1:=by simpa using h
  refine aa _ (bN _ _) (aj (fun hp=>?_) (fun hp=>?_))
  ·have hp:id > 0:=of_decide_eq_true hp
   have ec:bh cs b p 1 id e most=dT b id fun o=>{ o with dmg:=AW o.dmg e.n }:=by rw [bh,if_pos hc,if_pos hp]
   rw [ec]
   exact PR ho hB hev hl qm hid (hD hc hp)
  ·have ec:bh cs b p 1 id e most=pV b 1 (dI ((aF b 1).life - e.n) 9999):=by rw [bh,if_pos hc,if_neg (of_decide_eq_false hp)]
   rw [ec]
   exact IC ho hv hev hl
 have k1:e.code ≠ 1:=by simpa using h
 refine aa _ (aC _ _) (aj (fun h=>?_) (fun h=>?_))
 ·have hc:e.code=2:=by simpa using h
  have ec:bh cs b p 1 id e most=(oL b 1 e.n).1:=by rw [bh,if_neg k1,if_pos hc]
  rw [ec]
  simp only [gq]
  rw [qn]
  subst hl
  refine ab (ab ?_)
  refine lC ho (fun Hf lf hf=>Td hf hB 1 e.n (by omega)) ?_
  rintro _ H2 O2 ⟨w2,rfl,h2⟩ l2
  refine ⟨ao w2 (oL b 1 e.n).1++[iV (oL b 1 e.n).2],rfl,aE (bM H2 h2) ⟨rfl,trivial⟩,?_⟩
  refine ab (ab (ab (ab ?_)))
  exact ah ⟨w2,rfl,h2⟩
 have k2:e.code ≠ 2:=by simpa using h
 refine aa _ (aC _ _) (aj (fun h=>?_) (fun h=>?_))
 ·have hc:e.code=3:=by simpa using h
  have ec:bh cs b p 1 id e most=pV b 1 (dI ((aF b 1).life + e.n) 9999):=by rw [bh,if_neg k1,if_neg k2,if_pos hc]
  rw [ec]
  subst hl
  refine ab (ab ?_)
  refine ai (jj lsm nsm 9999) rfl ⟨rfl,trivial⟩ fun H1 l1=>?_
  refine ab (ab (ab (ab ?_)))
  exact ah ⟨v,rfl,je ho rfl rfl rfl rfl⟩
 have k3:e.code ≠ 3:=by simpa using h
 refine aa _ (aC _ _) (aj (fun h=>?_) (fun h=>?_))
 ·have hc:e.code=4:=by simpa using h
  have ec:bh cs b p 1 id e most=pV b 1 (dI ((aF b 1).life - e.n) 9999):=by rw [bh,if_neg k1,if_neg k2,if_neg k3,if_pos hc]
  rw [ec]
  exact IC ho hv hev hl
 have k4:e.code ≠ 4:=by simpa using h
 refine aa _ (aC _ _) (aj (fun h=>?_) (fun h=>?_))
 ·have hc:e.code=6:=by simpa using h
  have ec:bh cs b p 1 id e most=(fG b id 1).1:=by rw [bh,if_neg k1,if_neg k2,if_neg k3,if_neg k4,if_pos hc]
  rw [ec]
  simp only [gp]
  rw [qm]
  subst hl
  refine ab ?_
  refine lC ho (fun Hf lf hf=>LJ hf hB hid 1) ?_
  rintro _ H2 O2 ⟨w2,rfl,h2⟩ l2
  refine ⟨ao w2 (fG b id 1).1++[iV (fG b id 1).2],rfl,aE (bM H2 h2) ⟨rfl,trivial⟩,?_⟩
  refine ab (ab (ab (ab ?_)))
  exact ah ⟨w2,rfl,h2⟩
 have k6:e.code ≠ 6:=by simpa using h
 refine aa _ (aC _ _) (aj (fun h=>?_) (fun h=>?_))
 ·have hc:e.code=7:=by simpa using h
  have ec:bh cs b p 1 id e most=(dm b id).1:=by rw [bh,if_neg k1,if_neg k2,if_neg k3,if_neg k4,if_neg k6,if_pos hc]
  rw [ec]
  simp only [gn]
  rw [qm]
  subst hl
  refine ab ?_
  refine lC ho (fun Hf lf hf=>I3 hf hB hid) ?_
  rintro _ H2 O2 ⟨w2,rfl,h2⟩ l2
  refine ⟨ao w2 (dm b id).1++[iV (dm b id).2],rfl,aE (bM H2 h2) ⟨rfl,trivial⟩,?_⟩
  refine ab (ab (ab (ab ?_)))
  exact ah ⟨w2,rfl,h2⟩
 have k7:e.code ≠ 7:=by simpa using h
 refine aa _ (aC _ _) (aj (fun h=>?_) (fun h=>?_))
 ·have hc:e.code=10:=by simpa using h
  have ec:bh cs b p 1 id e most=(yJ b p e.n e.m most).1:=by rw [bh,if_neg k1,if_neg k2,if_neg k3,if_neg k4,if_neg k6,if_neg k7,if_pos hc]
  rw [ec]
  simp only [gv]
  subst hl
  refine ab (ab (ab ?_))
  refine lC ho (fun Hf lf hf=>Qs (hgl.le lf) hf hB (p:=p) (pw:=e.n) (tn:=e.m) (most:=most) (by omega) (by omega)) ?_
  rintro _ H2 O2 ⟨w2,OB,X,hp2,rfl,h2⟩ l2
  refine ⟨ao w2 (yJ b p e.n e.m most).1++[iV (yJ b p e.n e.m most).2.1,iV (yJ b p e.n e.m most).2.2],rfl,aE (bM H2 h2) ⟨rfl,rfl,trivial⟩,?_⟩
  refine ab (ab (ab (ab ?_)))
  exact yV hp2 ⟨w2,rfl,h2⟩
 have k10:e.code ≠ 10:=by simpa using h
 refine aa _ (aC _ _) (aj (fun h=>?_) (fun h=>?_))
 ·have hc:e.code=12:=by simpa using h
  have ec:bh cs b p 1 id e most=bu b 1 (jN (aF b 1) e.colour e.n):=by rw [bh,if_neg k1,if_neg k2,if_neg k3,if_neg k4,if_neg k6,if_neg k7,if_neg k10,if_pos hc]
  rw [ec]
  subst hl
  refine ab (ab ?_)
  obtain hc | hc | hc | hc:e.colour=0∨e.colour=1∨e.colour=2∨e.colour=3:=by omega
  ·refine ⟨.i64,e.colour,rfl,fun _=>?_,fun h=>absurd hc h⟩
   refine ab (ab ?_)
   refine ai (jj (lu hv 1).1 nsm 99) rfl ⟨rfl,trivial⟩ fun H1 l1=>?_
   simp only [aW]
   refine ⟨.i64,e.colour,rfl,fun _=>?_,fun h=>absurd hc h⟩
   refine ab (ab (ab (ab ?_)))
   refine ah ⟨v,?_,?_⟩
   ·rw [jN,if_pos hc];rfl
   ·rw [jN,if_pos hc];exact je ho rfl rfl rfl rfl
  ·refine ⟨.i64,e.colour,rfl,fun h=>absurd (hc.symm.trans h) (by omega),fun _=>⟨.i64,e.colour,rfl,fun _=>?_,fun h=>absurd hc h⟩⟩
   refine ab (ab ?_)
   refine ai (jj (lu hv 1).2.1 nsm 99) rfl ⟨rfl,trivial⟩ fun H1 l1=>?_
   simp only [aW]
   refine ⟨.i64,e.colour,rfl,fun h=>absurd (hc.symm.trans h) (by omega),fun _=>⟨.i64,e.colour,rfl,fun _=>?_,fun h=>absurd hc h⟩⟩
   refine ab (ab (ab (ab ?_)))
   refine ah ⟨v,?_,?_⟩
   ·rw [jN,if_neg (by omega),if_pos hc];rfl
   ·rw [jN,if_neg (by omega),if_pos hc];exact je ho rfl rfl rfl rfl
  ·refine ⟨.i64,e.colour,rfl,fun h=>absurd (hc.symm.trans h) (by omega),fun _=>⟨.i64,e.colour,rfl,fun h=>absurd (hc.symm.trans h) (by omega),fun _=>⟨.i64,e.colour,rfl,fun _=>?_,fun h=>absurd hc h⟩⟩⟩
   refine ab (ab ?_)
   refine ai (jj (lu hv 1).2.2.1 nsm 99) rfl ⟨rfl,trivial⟩ fun H1 l1=>?_
   simp only [aW]
   refine ⟨.i64,e.colour,rfl,fun h=>absurd (hc.symm.trans h) (by omega),fun _=>⟨.i64,e.colour,rfl,fun h=>absurd (hc.symm.trans h) (by omega),fun _=>⟨.i64,e.colour,rfl,fun _=>?_,fun h=>absurd hc h⟩⟩⟩
   refine ab (ab (ab (ab ?_)))
   refine ah ⟨v,?_,?_⟩
   ·rw [jN,if_neg (by omega),if_neg (by omega),if_pos hc];rfl
   ·rw [jN,if_neg (by omega),if_neg (by omega),if_pos hc];exact je ho rfl rfl rfl rfl
  ·refine ⟨.i64,e.colour,rfl,fun h=>absurd (hc.symm.trans h) (by omega),fun _=>⟨.i64,e.colour,rfl,fun h=>absurd (hc.symm.trans h) (by omega),fun _=>⟨.i64,e.colour,rfl,fun h=>absurd (hc.symm.trans h) (by omega),fun _=>⟨.i64,e.colour,rfl,fun _=>?_,fun h=>absurd hc h⟩⟩⟩⟩
   refine ab (ab ?_)
   refine ai (jj (lu hv 1).2.2.2 nsm 99) rfl ⟨rfl,trivial⟩ fun H1 l1=>?_
   simp only [aW]
   refine ⟨.i64,e.colour,rfl,fun h=>absurd (hc.symm.trans h) (by omega),fun _=>⟨.i64,e.colour,rfl,fun h=>absurd (hc.symm.trans h) (by omega),fun _=>⟨.i64,e.colour,rfl,fun h=>absurd (hc.symm.trans h) (by omega),fun _=>⟨.i64,e.colour,rfl,fun _=>?_,fun h=>absurd hc h⟩⟩⟩⟩
   refine ab (ab (ab (ab ?_)))
   refine ah ⟨v,?_,?_⟩
   ·rw [jN,if_neg (by omega),if_neg (by omega),if_neg (by omega)];rfl
   ·rw [jN,if_neg (by omega),if_neg (by omega),if_neg (by omega)];exact je ho rfl rfl rfl rfl
 have k12:e.code ≠ 12:=by simpa using h
 have ec:bh cs b p 1 id e most=if onB cs b id=true then dT b id (FZ e) else b:=by rw [bh,if_neg k1,if_neg k2,if_neg k3,if_neg k4,if_neg k6,if_neg k7,if_neg k10,if_neg k12]
 rw [ec]
 exact PU hk ho hB hev hl qm hid
end
end Go.Proofs.YtdhobpmnkfmcfaaGreatDoor
namespace Go.Proofs.YtdhobpmnkfmcfaaGreatDoor
open Go Go.Sx
set_option maxRecDepth 100000
set_option maxHeartbeats 1000000
theorem Rf {b:Bd} (hv:ar b=true) {k:Nat} {o:Ob} (hk:b.objs[k]?=some o):bm b o.id=0∧fU b o.id=o∧fM b o.id=(k:Nat):=by
 have e3:=(dr (aS hv).1 hk).2.2.1
 have hE0:bm b o.id=0:=by
  have:¬ fM b o.id < 0:=by omega
  simp [bm,hv,this]
 exact ⟨hE0,qW (by rw [hE0];rfl) hk e3,e3⟩
theorem KW {cs:List CdX} {b:Bd} (hv:ar b=true) {q x:Int} (hq:q=0∨q=1) (h:x ∈ s5 (cs.map CdX.base) b q):onB cs b x=true:=by
 obtain ⟨o,ho,rfl,ho2,hc,hf⟩:=(OZ hv hq).1 h
 obtain ⟨k,hk⟩:=List.mem_iff_getElem?.1 ho
 obtain ⟨h1,h2,_⟩:=Rf hv hk
 rw [onB,h1,h2,ho2]
 have hc:eU (VU cs) o=true:=hc
 rw [hc]
 simpa using hf
theorem Qx {cs:List CdX} {b:Bd} (hv:ar b=true) {q x:Int} (hq:q=0∨q=1) (h:x ∈ yc (cs.map CdX.base) b q):onB cs b x=true:=by
 rcases Sr.1 h with h | h
 ·exact KW hv hq h
 ·exact KW hv (by omega) h
theorem OM {cs:List CdX} {b:Bd} {x:Int} (h:onB cs b x=true):1≤x∧x≤500∧bm b x=0:=by
 have hi:bm b x=0:=by
  rw [onB,Bool.and_eq_true] at h
  simpa using h.1
 obtain ⟨k,f1,f2,f3,f4,f5⟩:=qV hi
 have:=wW f4
 rw [f2] at this
 exact ⟨this.1,this.2,hi⟩
theorem Fv {cs:List CdX} {b:Bd} {p k:Int} {t:Tg} (h:vA (cs.map CdX.base) b p k t=true):(p=0∨p=1)∧ar b=true∧(t.player=0∨t.player=1) ∧
  ((k ≠ 6∧t.player=0∧onB cs b t.id=true∧k ≠ 4)∨(t.id=0∧(k=4∨k=5))∨(k=6∧t.player=0∧∃ x ∈ b.stack,x.id=t.id∧x.trig < 0)):=by
 obtain ⟨y,hy,he⟩:=List.any_eq_true.1 h
 have hty:t=y:=by simpa using he
 subst hty
 rw [zA] at hy
 split at hy
 case isFalse=>cases hy
 rename_i hc
 rw [Bool.and_eq_true] at hc
 obtain ⟨hw,hv⟩:=hc
 have hp:p=0∨p=1:=by simp only [au,decide_eq_true_eq] at hw;omega
 refine ⟨hp,hv,?_⟩
 have htg:∀ {l:List Int},t ∈ tgs l→t.player=0∧t.id ∈ l:=fun hm=>by
  obtain ⟨x,hx,rfl⟩:=List.mem_map.1 hm
  exact ⟨rfl,hx⟩
 have hpl:t ∈ plT p→t.id=0∧(t.player=0∨t.player=1):=fun hm=>by
  simp only [plT,List.mem_cons,List.not_mem_nil,or_false] at hm
  rcases hm with rfl | rfl
  ·exact ⟨rfl,by show 1 - p=0∨1 - p=1;omega⟩
  ·exact ⟨rfl,hp⟩
 rw [GB] at hy
 split at hy
 ·obtain ⟨a,c⟩:=htg hy
  exact ⟨.inl a,.inl ⟨by omega,a,Qx hv hp c,by omega⟩⟩
 split at hy
 ·obtain ⟨a,c⟩:=htg hy
  exact ⟨.inl a,.inl ⟨by omega,a,KW hv (by omega) c,by omega⟩⟩
 split at hy
 ·obtain ⟨a,c⟩:=htg hy
  exact ⟨.inl a,.inl ⟨by omega,a,KW hv hp c,by omega⟩⟩
 split at hy
 ·obtain ⟨a,c⟩:=hpl hy
  exact ⟨c,.inr (.inl ⟨a,.inl (by assumption)⟩)⟩
 split at hy
 ·rcases List.mem_append.1 hy with hy | hy
  ·obtain ⟨a,c⟩:=hpl hy
   exact ⟨c,.inr (.inl ⟨a,.inr (by assumption)⟩)⟩
  ·obtain ⟨a,c⟩:=htg hy
   exact ⟨.inl a,.inl ⟨by omega,a,Qx hv hp c,by omega⟩⟩
 split at hy
 ·obtain ⟨a,c⟩:=htg hy
  obtain ⟨x,hx,hxe⟩:=List.mem_map.1 c
  obtain ⟨hx1,hx2⟩:=List.mem_filter.1 hx
  refine ⟨.inl a,.inr (.inr ⟨by assumption,a,x,List.mem_reverse.1 hx1,hxe,?_⟩)⟩
  simp only [nc,Bool.and_eq_true,decide_eq_true_eq] at hx2
  omega
 ·cases hy
theorem DK {e:Eff} (h:IP e=true):(e.code=1→e.target=1∨e.target=2∨e.target=3∨e.target=4∨e.target=5)∧(e.code=2∨e.code=3∨e.code=4→e.target=0∨e.target=4) ∧
  (e.code=5∨e.code=6∨e.code=11→e.target=1∨e.target=2∨e.target=3)∧(e.code=7→e.target=6)∧(e.code=8∨e.code=9→e.target=0∨e.target=1∨e.target=2∨e.target=3)∧(e.code=10∨e.code=12→e.target=0)∧1≤e.code∧e.code≤12:=by
 have hB:∀ {l:List Int} {e:Eff},S4 l e=true→e.target ∈ l:=fun h=>by
  simp only [S4,Bool.and_eq_true] at h
  simpa using h.1.1.1
 have hC:∀ {l:List Int} {k:Int} {e:Eff},RI l k e=true→e.target ∈ l:=fun h=>by
  simp only [RI,Bool.and_eq_true] at h
  have:=hB h.2
  exact this
 have hP:∀ {l:List Int} {k:Int} {e:Eff},RH l k e=true→e.target ∈ l:=fun h=>by
  simp only [RH,Bool.and_eq_true] at h
  have:=hB h.2
  exact this
 have hM:∀ {l:List Int} {k:Int} {e:Eff},S3 l k e=true→e.target ∈ l:=fun h=>by
  simp only [S3,Bool.and_eq_true] at h
  have:=hC h.2
  exact this
 rw [IP,vw] at h
 repeat' (split at h)
 all_goals first
  | (have hm:=hC h;simp only [List.mem_cons,List.not_mem_nil,or_false] at hm;omega)
  | (have hm:=hB h;simp only [List.mem_cons,List.not_mem_nil,or_false] at hm;omega)
  | (have hm:=hP h;simp only [List.mem_cons,List.not_mem_nil,or_false] at hm;omega)
  | (have hm:=hM h;simp only [List.mem_cons,List.not_mem_nil,or_false] at hm;omega)
  | cases h
theorem SL {cs:List CdX} {b:Bd} {p:Int} {e:Eff} {t:Tg} (h:¬ Ti cs b p e t) (ht:e.target ≠ 0):vA (cs.map CdX.base) b p e.target t=true:=by
 cases hl:vA (cs.map CdX.base) b p e.target t
 ·exact absurd ⟨ht,hl⟩ h
 ·rfl
theorem IF {cs:List CdX} {b:Bd} {p src:Int} {e:Eff} {t:Tg} (hp:p=0∨p=1) (hs:i64 src) (hev:IP e=true) (h:¬ Ti cs b p e t) :
  (NS p e t=0∨NS p e t=1)∧i64 (idE src e t)∧(e.code=1→idE src e t > 0→bm b (idE src e t)=0):=by
 by_cases h0:e.target=0
 ·rw [NS,idE,if_pos h0,if_pos h0]
  refine ⟨hp,hs,fun hc=>?_⟩
  have:=(DK hev).1 hc
  omega
 ·rw [NS,idE,if_neg h0,if_neg h0]
  obtain ⟨_,hv,h1,h2⟩:=Fv (SL h h0)
  refine ⟨h1,?_,fun hc hpos=>?_⟩
  ·rcases h2 with ⟨_,_,h2,_⟩ | ⟨h2,_⟩ | ⟨_,_,x,hx,hxe,_⟩
   ·have:=OM h2;constructor <;> omega
   ·constructor <;> omega
   ·have hxf:=yH hv hx
    simp only [cZ,au,Bool.and_eq_true,decide_eq_true_eq] at hxf
    constructor <;> omega
  ·have:=(DK hev).1 hc
   rcases h2 with ⟨_,_,h2,_⟩ | ⟨h2,_⟩ | ⟨_,_,x,hx,hxe,_⟩
   ·exact (OM h2).2.2
   ·omega
   ·omega
theorem RQ {H:Heap} {O:Own} {cv:Value} {cs:List CdX} (hgl:GlobOk Dz H) (hk:CardsX H cv cs) (hli:eQ (cs.map CdX.base)=true) {v:dG} {b:Bd} (ho:OwnB tys v b O) (hv:ar b=true) (hB:bdB b) {p src most:Int} (hp:p=0∨p=1) (hs:i64 src) {e:Eff} {t:Tg} (hev:IP e=true) :
  Triple PP sc [cv,.agg (ao v b).toArray,iV p,iV src,.agg e.row.toArray,.agg t.row.toArray,iV most] H O (Tj (xN cs b p src e t most)):=by
 refine xd (vs:=cv::(ao v b++(iV p::iV src::(e.row++(t.row++[iV most]))))) (by kernel_rfl) ⟨hk.one,aE (bM H ho) ⟨rfl,rfl,aE (kY e) (aE (s8 t) ⟨rfl,trivial⟩)⟩⟩ ?_
 simp only [lU]
 refine af fun r0=>af fun r1=>af fun r2=>af fun r3=>?_
 have h200:=Bz hv
 have core:∀ {n m r1 r0 r3:Nat} {H':Heap},Heap.le H H'→¬ Ti cs b p e t→g (cv::(ao v b++(iV p::iV src::(e.row++(t.row++[iV most]))))) n=iV (NS p e t)→g (cv::(ao v b++(iV p::iV src::(e.row++(t.row++[iV most]))))) m=iV (idE src e t) →
   (cM (cv::(ao v b++(iV p::iV src::(e.row++(t.row++[iV most]))))) n r1 m r0 r3).den PP (Tj (xN cs b p src e t most)) H' O:=by
  intro n m r1 r0 r3 H' hle hb qn qm
  obtain ⟨f1,f2,f3⟩:=IF hp hs hev hb
  rw [xN,if_neg hb]
  rcases f1 with f1 | f1
  ·exact PT (hgl.le hle) (hk.le hle) ho hv hB hev rfl f1 qn qm f2 f3
  ·exact PS (hgl.le hle) (hk.le hle) ho hv hB hev rfl f1 qn qm f2 f3
 refine ab ?_
 refine aa _ (ba _ _) (aj (fun h0=>?_) (fun h0=>?_))
 ·have h0:e.target ≠ 0:=by simpa using h0
  refine ab (ab (ab ?_))
  refine ai (OwnB.thaw ho fun Hf lf hf=>US (hk.le lf).base hli hf (by omega) p e.target t) rfl ⟨rfl,trivial⟩ fun H1 l1=>?_
  refine aa _ (aJ _) (aj (fun hg=>?_) (fun hg=>?_))
  ·have hg:vA (cs.map CdX.base) b p e.target t=false:=vz hg
   rw [xN,if_pos ⟨h0,hg⟩]
   refine ab (ab (ab ?_))
   exact ah ⟨v,rfl,ho⟩
  have hg:vA (cs.map CdX.base) b p e.target t=true:=sN hg
  refine ab (ab ?_)
  exact core l1 (fun hb=>by rw [hb.2] at hg;cases hg) (by rw [NS,if_neg h0];rfl) (by rw [idE,if_neg h0];rfl)
 ·have h0:e.target=0:=by simpa using h0
  exact core (Heap.le_refl _) (fun hb=>hb.1 h0) (by rw [NS,if_pos h0];rfl) (by rw [idE,if_pos h0];rfl)
def bZ (cs:List CdX) (b:Bd) (p src:Int) (e:Eff) (t:Tg) (most:Int):Bd × Int:=if (au p 0 1 && (IP e && ar b))=true then (xN cs b p src e t most,0) else (zBd,2)
theorem GZ {H:Heap} {cv:Value} {cs:List CdX} (hgl:GlobOk Dz H) (hk:CardsX H cv cs) (hli:eQ (cs.map CdX.base)=true) {v:dG} {b:Bd} (h:BdS H v b) (hB:bdB b) (p:Int) {src:Int} (most:Int) (hs:i64 src) (e:Eff) (t:Tg) :
  Triple PP se [cv,.agg (ao v b).toArray,iV p,iV src,.agg e.row.toArray,.agg t.row.toArray,iV most] H [] fun r _ O'=>∃ w,r=.tuple #[.agg (ao w (bZ cs b p src e t most).1).toArray,iV (bZ cs b p src e t most).2]∧OwnB tys w (bZ cs b p src e t most).1 O':=by
 refine xf (vs:=cv::(ao v b++(iV p::iV src::(e.row++(t.row++[iV most]))))) (by kernel_rfl) ⟨hk.one,aE (ap (h.r [])) ⟨rfl,rfl,aE (kY e) (aE (s8 t) ⟨rfl,trivial⟩)⟩⟩ ?_
 simp only [lW]
 refine af fun r0=>af fun r1=>af fun r2=>af fun r3=>?_
 refine aa _ (aI _ _) ?_
 refine ae ?_
 refine aa _ (bN _ _) ?_
 refine ae ?_
 refine aa _ (aP _ _) (aj (fun hc=>?_) (fun hc=>?_))
 ·have hc:(decide (p < 0) || decide (p > 1))=true:=hc
  rw [qw] at hc
  have e1:bZ cs b p src e t most=(zBd,2):=by rw [bZ,if_neg (by rw [vz hc];simp)]
  rw [e1]
  refine ab (ab ?_)
  exact ah ⟨AP,rfl,OwnB.zero tys⟩
 have hc:(decide (p < 0) || decide (p > 1))=false:=hc
 rw [qw] at hc
 have hw:=sN hc
 have hp:p=0∨p=1:=by simp only [au,decide_eq_true_eq] at hw;omega
 refine ab ?_
 refine ai (FU e H) rfl ⟨rfl,trivial⟩ fun H1 l1=>?_
 refine aa _ (aJ _) (aj (fun hc=>?_) (fun hc=>?_))
 ·have e1:bZ cs b p src e t most=(zBd,2):=by rw [bZ,if_neg (by rw [vz hc];simp)]
  rw [e1]
  refine ab (ab ?_)
  exact ah ⟨AP,rfl,OwnB.zero tys⟩
 have hev:=sN hc
 have h:=h.le l1
 refine ab ?_
 refine ai (dD (h.r [])) rfl ⟨rfl,trivial⟩ fun H2 l2=>?_
 refine aa _ (aJ _) (aj (fun hc=>?_) (fun hc=>?_))
 ·have e1:bZ cs b p src e t most=(zBd,2):=by rw [bZ,if_neg (by rw [vz hc];simp)]
  rw [e1]
  refine ab (ab ?_)
  exact ah ⟨AP,rfl,OwnB.zero tys⟩
 have hv:=sN hc
 have h:=h.le l2
 have e1:bZ cs b p src e t most=(xN cs b p src e t most,0):=by rw [bZ,if_pos (by rw [hw,hev,hv];rfl)]
 rw [e1]
 refine ab (ab (ab ?_))
 refine ax (I4 h hB) ?_
 rintro _ H3 O3 ⟨w,rfl,ho⟩ l3
 refine ⟨ao w b,rfl,bM H3 ho,?_⟩
 have l13:=Heap.le_trans l1 (Heap.le_trans l2 l3)
 refine xU (O1:=O3) (O2:=[]) (List.Perm.refl _) (RQ (hgl.le l13) (hk.le l13) hli ho hv hB hp hs hev) ?_
 rintro _ H4 O4 ⟨w4,rfl,h4⟩ l4
 refine ⟨ao w4 _,rfl,bM H4 h4,?_⟩
 rw [List.append_nil]
 refine ab (ab ?_)
 exact ah ⟨w4,rfl,h4⟩
end Go.Proofs.YtdhobpmnkfmcfaaGreatDoor
namespace Go.Proofs.YtdhobpmnkfmcfaaGreatDoor
open Go Go.Sx
set_option maxRecDepth 100000
set_option maxHeartbeats 1000000
end Go.Proofs.YtdhobpmnkfmcfaaGreatDoor
