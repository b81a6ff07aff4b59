/- slices.Insert of one object. -/
import Derived.Test.YtdhobpmnkfmcfaaGreatDoorC51
import Derived.Test.YtdhobpmnkfmcfaaGreatDoorRW
import Derived.Test.YtdhobpmnkfmcfaaGreatDoorC32
import Derived.Test.YtdhobpmnkfmcfaaGreatDoorC21
namespace Go.Proofs.YtdhobpmnkfmcfaaGreatDoor
open Go Go.Sx
set_option maxRecDepth 100000
set_option maxHeartbeats 1000000
theorem KZ {size n k cap:Nat} {cs row src:List Value} {rows:List (List Value)} (hn:rows.length=n) (hk:k≤n) (hl:∀ row ∈ rows,row.length=size) (ht:cs.take (n * size)=rows.flatten) (hr:row.length=size) (hcl:cs.length=cap * size) (hcap:n + 1≤cap)
  (hsrc:src=(cs.drop (k * size)).take ((n - k) * size)) :
  let cs1:=cs.take ((k + 1) * size)++src++cs.drop ((k + 1) * size + src.length)
  let cs2:=cs1.take (k * size)++row++cs1.drop (k * size + row.length)
  cs1.length=cap * size∧cs2.length=cap * size∧cs2.take ((n + 1) * size)=(rows.take k++[row]++rows.drop k).flatten:=by
 subst hn
 obtain ⟨a1,a2⟩:=vu hl ht hk
 rw [← hsrc] at a2
 have e1:(k + 1) * size=k * size + size:=by rw [Nat.add_mul,Nat.one_mul]
 have e2:(rows.length + 1) * size=rows.length * size + size:=by rw [Nat.add_mul,Nat.one_mul]
 have e3:(rows.length - k) * size=rows.length * size - k * size:=Nat.sub_mul _ _ _
 have e4:k * size≤rows.length * size:=Nat.mul_le_mul_right _ hk
 have e5:(rows.length + 1) * size≤cap * size:=Nat.mul_le_mul_right _ hcap
 have hsl:src.length=rows.length * size - k * size:=by rw [hsrc,List.length_take,List.length_drop];omega
 intro cs1 cs2
 have h1:cs1.length=cap * size:=by
  show (cs.take ((k + 1) * size)++src++cs.drop ((k + 1) * size + src.length)).length=_
  rw [List.length_append,List.length_append,List.length_take,List.length_drop];omega
 have hd:cs1.drop (k * size + row.length)=src++cs.drop ((k + 1) * size + src.length):=by
  show (cs.take ((k + 1) * size)++src++cs.drop ((k + 1) * size + src.length)).drop _=_
  rw [List.append_assoc,List.drop_append_of_le_length (by rw [List.length_take];omega),List.drop_eq_nil_of_le (by rw [List.length_take];omega),List.nil_append]
 have htk:cs1.take (k * size)=(rows.take k).flatten:=by
  show (cs.take ((k + 1) * size)++src++cs.drop ((k + 1) * size + src.length)).take _=_
  rw [List.append_assoc,List.take_append_of_le_length (by rw [List.length_take];omega),List.take_take,Nat.min_eq_left (by omega),a1]
 have hkl:(rows.take k).flatten.length=k * size:=by rw [a1,List.length_take];omega
 have h2:cs2=(rows.take k++[row]++rows.drop k).flatten++cs.drop ((k + 1) * size + src.length):=by
  show cs1.take (k * size)++row++cs1.drop (k * size + row.length)=_
  rw [hd,htk,List.flatten_append,List.flatten_append,← a2,List.flatten_cons,List.flatten_nil,List.append_nil,List.append_assoc,List.append_assoc,List.append_assoc]
 have h3:(rows.take k++[row]++rows.drop k).flatten.length=(rows.length + 1) * size:=by
  rw [List.flatten_append,List.flatten_append,List.length_append,List.length_append,hkl,List.flatten_cons,List.flatten_nil,List.append_nil,a2,hr,hsl];omega
 refine ⟨h1,?_,?_⟩
 ·rw [h2,List.length_append,h3,List.length_drop];omega
 ·rw [h2,List.take_append_of_le_length (by omega),← h3,List.take_length]
theorem D7 {r n cap k:Nat} (hk:k≤n) (hnc:n≤cap) (hck:k < cap):ak (.slc 12 true false false) [.slice (some ⟨r,0,none⟩) n cap,iV (k:Int)]=some (.slice (some ⟨r,k * 12,none⟩) (n - k) (cap - k)):=by
 have b3:bO n cap (some (iV (k:Int))) none none=some (k,n,cap):=by
  simp [bO,cY,eQ,qe,asI,hk]
 simp only [ak,fm,jW,b3,Option.map_some]
 rw [if_neg (by omega)]
 show some (Value.slice (some ((⟨r,0,none⟩:Addr).add (k * 12))) (n - k) (cap - k))=_
 rw [cZ,Nat.zero_add]
theorem Ui {r n cap k:Nat} (hk:k≤cap):ak (.slc 12 false true false) [.slice (some ⟨r,0,none⟩) n cap,iV (k:Int)]=some (.slice (some ⟨r,0,none⟩) k cap):=by
 have b2:bO n cap none (some (iV (k:Int))) none=some (0,k,cap):=by
  simp [bO,cY,eQ,qe,asI,hk]
 simp only [ak,fm,jW,b2,Option.map_some]
 simp [Addr.add]
theorem TZ {H:Heap} {A:Own} {v:Value} {rows:List (List Value)} (h:OSl aM 12 v rows A) {k:Nat} (hk:k≤rows.length) (hlen:rows.length≤1000000) {rb:Nat} {row:List Value} (hrl:row.length=12) (hro:Ones row) (hrb:H rb=some (.cells row.toArray aM (0,0))) :
  Triple PP dS [v,iV (k:Int),.slice (some ⟨rb,0,none⟩) 1 1] H A fun v' _ O'=>∃ A' X,O'=A'++X∧OSl aM 12 v' (rows.take k++[row]++rows.drop k) A':=by
 refine io (vs:=[v,iV (k:Int),.slice (some ⟨rb,0,none⟩) 1 1]) (by kernel_rfl) ⟨h.one,rfl,rfl,trivial⟩ ?_
 simp only [cw]
 obtain ⟨hu,inf,hinf,hsz⟩:=Px (P:=PP) (t:=23) (e:=aM) (size:=12) (bytes:=80) (by kernel_rfl)
 have hvl:=h.len
 by_cases hkn:k=rows.length
 ·
  have hsl:∃ u,ak (.slc 12 true false false) [v,iV (k:Int)]=some u∧u.oneCell'=true:=by
   rcases h with ⟨⟨a,rfl⟩,rfl,rfl⟩ | ⟨r,cs,cap,rfl,rfl,hcl,hlc,hcap,hl,ho,ht⟩
   ·subst hkn;exact ⟨_,rfl,by cases a <;> rfl⟩
   ·have b3:bO rows.length cap (some (iV (k:Int))) none none=some (k,rows.length,cap):=by
     simp [bO,cY,eQ,qe,asI,hk]
    simp only [ak,fm,jW,b3,Option.map_some]
    exact ⟨_,rfl,by split <;> rfl⟩
  obtain ⟨u,hu1,hu2⟩:=hsl
  refine ab _ hu1 ?_
  refine ab (iV 1) rfl ?_
  refine ab _ (aA _ _) (aj (fun hb=>by simp at hb) (fun _=>?_))
  refine ab _ hvl ?_
  refine ab _ (aA _ _) (aj (fun _=>?_) (fun hb=>by simp [hkn] at hb))
  refine aH (rows:=rows) (news:=[row]) (O1:=A) (O2:=[]) (e:=aM) (size:=12) (bytes:=80) (by kernel_rfl) (by simp) h (fun Hf lf _=>Sl.block1 (lf.1 _ _ hrb) hrl hro) (by simp;omega) (by simp;omega) ?_
  intro v' A' H6 l6 hA'
  refine ah ⟨A',[],rfl,?_⟩
  rw [hkn,List.take_length,List.drop_length,List.append_nil]
  exact hA'
 ·have hkl:k < rows.length:=by omega
  rcases h with ⟨⟨a,rfl⟩,rfl,rfl⟩ | ⟨r,cs,cap,rfl,rfl,hcl,hlc,hcap,hl,ho,ht⟩
  ·simp at hkl
  have hsl:=D7 (r:=r) hk hlc (by omega)
  refine ab _ hsl ?_
  refine ab (iV 1) rfl ?_
  refine ab _ (aA _ _) (aj (fun hb=>by simp at hb) (fun _=>?_))
  refine ab _ hvl ?_
  refine ab _ (aA _ _) (aj (fun hb=>by simp at hb;omega) (fun _=>?_))
  refine ab _ (aE (by omega)) ?_
  refine ab (iV (cap:Int)) rfl ?_
  refine ab _ (bG _ _) (aj (fun hb=>?_) (fun hb=>?_))
  ·
   have hroom:cap < rows.length + 1:=by simp at hb;omega
   have hce:cap=rows.length:=by omega
   obtain ⟨z,hz⟩:∃ z,inf.zero=some z:=by
    have:((PP.info? aM).bind (·.zero)).isSome=true:=by kernel_rfl
    rw [hinf] at this
    exact Option.isSome_iff_exists.1 this
   have hz':z=.agg #[iV 0,iV 0,iV 0,iV 0,iV 0,iV 0,iV 0,iV 0,iV 0,.bool false,.bool false,.bool false]:=by
    have:(PP.info? aM).bind (·.zero)=some (.agg #[iV 0,iV 0,iV 0,iV 0,iV 0,iV 0,iV 0,iV 0,iV 0,.bool false,.bool false,.bool false]):=by kernel_rfl
    rw [hinf] at this
    exact Option.some.inj (hz.symm.trans this)
   have hby:inf.bytes≤1000:=by
    have:((PP.info? aM).map fun i=>decide (i.bytes≤1000))=some true:=by kernel_rfl
    rw [hinf] at this
    simpa using this
   refine ab _ (Ui (k:=k) (by omega)) ?_
   refine ab _ (aE (by omega)) ?_
   refine ab (iV ((rows.length + 1 - k:Nat):Int)) (by
    have:=HU (x:=((rows.length + 1:Nat):Int)) (y:=(k:Int)) (by omega) (by omega)
    rw [show ((rows.length + 1:Nat):Int) - k=((rows.length + 1 - k:Nat):Int) by omega] at this
    exact this) ?_
   refine Ry (n:=k) (m:=rows.length + 1 - k) (cs:=cs) (e:=aM) (O2:=[]) (kn:=.i64) hu (by kernel_rfl) hinf hz (by rw [hsz,hz'];rfl) (by rw [hz'];simp [Value.cells,Value.oneCell']) (by omega) hby (List.Perm.refl _) (by rw [hsz];omega) (by omega) (by omega) (by omega) fun r2 c2 zs hzl hc1 hc2 hzo=>?_
   rw [hsz] at hzl ⊢
   rw [show k + (rows.length + 1 - k)=rows.length + 1 by omega] at hc1 ⊢
   have hctl:(cs.take (k * 12)).length=k * 12:=by rw [List.length_take];omega
   have hnl:(cs.take (k * 12)++zs).length=c2 * 12:=by rw [List.length_append,hctl,hzl];omega
   refine ab _ (D7 (k:=k) (by omega) hc1 (by omega)) ?_
   refine FA (r:=r2) (off:=k * 12) (e:=aM) (O2:=[(r,.cells cs.toArray aM (0,0))]) (m:=1) (k:=1) (src:=row) hu hinf (List.Perm.refl _) (fun _=>rfl) (by omega) (fun w F hm=>by
    rw [hsz]
    have:=J9 hm (P:=PP) (size:=12) (k:=1) (n:=1) (cap:=1) hrb (by omega)
    rwa [show 1 * 12=row.length by omega,List.take_length] at this) (by rw [hnl,hrl];omega) (jM hro) ?_
   refine ab _ (aE (by omega)) ?_
   refine ab _ (D7 (k:=k + 1) (by omega) hc1 (by omega)) ?_
   refine ab _ hsl ?_
   have hsrcl:((cs.drop (k * 12)).take ((rows.length - k) * 12)).length=(rows.length - k) * 12:=by rw [List.length_take,List.length_drop];omega
   have hsone:∀ u ∈ (cs.drop (k * 12)).take ((rows.length - k) * 12),u.oneCell'=true:=by
    rw [← (vu hl ht hk).2]
    intro u hu'
    obtain ⟨rw',hr,hu2⟩:=List.mem_flatten.1 hu'
    exact jM (ho rw' (List.mem_of_mem_drop hr)) u hu2
   have e1:(cs.take (k * 12)++zs).take (k * 12)=cs.take (k * 12):=by rw [List.take_append_of_le_length (by omega),List.take_take,Nat.min_self]
   have hn1:((cs.take (k * 12)++zs).take (k * 12)++row++(cs.take (k * 12)++zs).drop (k * 12 + row.length)).length=c2 * 12:=by
    rw [List.length_append,List.length_append,e1,hctl,List.length_drop,hnl,hrl];omega
   refine Pe (r:=r2) (off:=(k + 1) * 12) (e:=aM) (Y:=[(r,.cells cs.toArray aM (0,0))]) (O2:=[]) (m:=rows.length - k) (k:=rows.length - k) (src:=(cs.drop (k * 12)).take ((rows.length - k) * 12)) hu hinf (List.Perm.refl _) (fun _=>rfl) (by omega) (fun w F hm=>by
    rw [hsz]
    exact E6 (hm.perm (List.perm_append_comm_assoc _ _ _)) (by omega)) (by rw [hn1,hsrcl];omega) hsone ?_
   refine ah ⟨_,[(r,.cells cs.toArray aM (0,0))],by rw [List.append_nil],.inr ⟨r2,_,c2,?_,rfl,?_,?_,hc2,?_,?_,?_⟩⟩
   ·show Value.slice _ _ _=Value.slice _ _ _
    rw [show (rows.take k++[row]++rows.drop k).length=rows.length + 1 by rw [List.length_append,List.length_append,List.length_take,List.length_drop,List.length_singleton];omega]
   ·rw [List.length_append,List.length_append,List.length_take,List.length_drop,hn1,hsrcl];omega
   ·rw [List.length_append,List.length_append,List.length_take,List.length_drop,List.length_singleton];omega
   ·intro x hx
    simp only [List.mem_append,List.mem_singleton] at hx
    rcases hx with (hx | rfl) | hx
    ·exact hl x (List.mem_of_mem_take hx)
    ·exact hrl
    ·exact hl x (List.mem_of_mem_drop hx)
   ·intro x hx
    simp only [List.mem_append,List.mem_singleton] at hx
    rcases hx with (hx | rfl) | hx
    ·exact ho x (List.mem_of_mem_take hx)
    ·exact hro
    ·exact ho x (List.mem_of_mem_drop hx)
   ·have f1:(rows.take k++[row]++rows.drop k).flatten=cs.take (k * 12)++row++(cs.drop (k * 12)).take ((rows.length - k) * 12):=by
     rw [List.flatten_append,List.flatten_append,(vu hl ht hk).1,(vu hl ht hk).2,List.flatten_cons,List.flatten_nil,List.append_nil]
    have f2:(rows.take k++[row]++rows.drop k).length * 12=(rows.length + 1) * 12:=by simp;omega
    rw [f1,f2,e1]
    have g1:(cs.take (k * 12)++row).length=(k + 1) * 12:=by rw [List.length_append,hctl,hrl];omega
    have g2:(cs.take (k * 12)++row++(cs.take (k * 12)++zs).drop (k * 12 + row.length)).take ((k + 1) * 12)=cs.take (k * 12)++row:=by
     rw [List.take_append_of_le_length (by omega),← g1,List.take_length]
    rw [g2]
    have g3:(cs.take (k * 12)++row++(cs.drop (k * 12)).take ((rows.length - k) * 12)).length=(rows.length + 1) * 12:=by rw [List.length_append,g1,hsrcl];omega
    rw [List.take_append_of_le_length (by omega),← g3,List.take_length]
  ·have hroom:rows.length + 1≤cap:=by simp at hb;omega
   refine ab _ (aE (by omega)) ?_
   refine ab _ (Ui hroom) ?_
   refine ab _ (aE (by omega)) ?_
   refine ab _ (D7 (k:=k + 1) (by omega) hroom (by omega)) ?_
   refine Pg (r:=r) (rb:=rb) (cs:=cs) (bs:=row) (e:=aM) (size:=12) (tS:=23) (tR:=I1) (O2:=[]) Tryz.func154 (by kernel_rfl) (by kernel_rfl) (by kernel_rfl) (by kernel_rfl) (by kernel_rfl) (by kernel_rfl) (List.Perm.refl _) hrb (by omega) ?_
   refine ab (.bool true) rfl (aj (fun _=>?_) (fun hb=>by cases hb))
   refine ab _ (aE (by omega)) ?_
   refine ab _ (D7 (k:=k + 1) (by omega) hroom (by omega)) ?_
   refine ab _ (D7 (k:=k) (by omega) hroom (by omega)) ?_
   obtain ⟨h1,h2,h3⟩:=KZ (size:=12) (n:=rows.length) (row:=row) rfl hk hl ht hrl hcl hroom (src:=(cs.drop (k * 12)).take ((rows.length - k) * 12)) rfl
   have hsrcl:((cs.drop (k * 12)).take ((rows.length - k) * 12)).length=(rows.length - k) * 12:=by rw [List.length_take,List.length_drop];omega
   have hsone:∀ u ∈ (cs.drop (k * 12)).take ((rows.length - k) * 12),u.oneCell'=true:=by
    rw [← (vu hl ht hk).2]
    intro u hu'
    obtain ⟨rw',hr,hu2⟩:=List.mem_flatten.1 hu'
    exact jM (ho rw' (List.mem_of_mem_drop hr)) u hu2
   refine FA (r:=r) (off:=(k + 1) * 12) (cs:=cs) (e:=aM) (O2:=[]) (m:=rows.length + 1 - k) (k:=rows.length - k) (src:=(cs.drop (k * 12)).take ((rows.length - k) * 12)) hu hinf (List.Perm.refl _) (fun _=>rfl) (by omega) (fun w F hm=>by rw [hsz];exact E6 hm (by omega)) (by rw [hsrcl];omega) hsone ?_
   refine ab _ (D7 (k:=k) (by omega) hroom (by omega)) ?_
   refine FA (r:=r) (off:=k * 12) (e:=aM) (O2:=[]) (m:=1) (k:=1) (src:=row) hu hinf (List.Perm.refl _) (fun _=>rfl) (by omega) (fun w F hm=>by
    rw [hsz]
    have:=J9 hm (P:=PP) (size:=12) (k:=1) (n:=1) (cap:=1) hrb (by omega)
    rwa [show 1 * 12=row.length by omega,List.take_length] at this) (by rw [h1,hrl];omega) (jM hro) ?_
   refine ah ⟨_,[],(List.append_nil _).symm,.inr ⟨r,_,cap,?_,rfl,h2,?_,hcap,?_,?_,?_⟩⟩
   ·simp;omega
   ·simp;omega
   ·intro x hx
    simp only [List.mem_append,List.mem_singleton] at hx
    rcases hx with (hx | rfl) | hx
    ·exact hl x (List.mem_of_mem_take hx)
    ·exact hrl
    ·exact hl x (List.mem_of_mem_drop hx)
   ·intro x hx
    simp only [List.mem_append,List.mem_singleton] at hx
    rcases hx with (hx | rfl) | hx
    ·exact ho x (List.mem_of_mem_take hx)
    ·exact hro
    ·exact ho x (List.mem_of_mem_drop hx)
   ·rw [← h3];congr 2;simp;omega
end Go.Proofs.YtdhobpmnkfmcfaaGreatDoor
namespace Go.Proofs.YtdhobpmnkfmcfaaGreatDoor
open Go Go.Sx
set_option maxRecDepth 100000
set_option maxHeartbeats 1000000
def J7:List Ob→Nat→Nat
 | [],m=>m
 | o::l,m=>if o.id=(m:Int) + 1 then J7 l (m + 1) else m
def bU (b:Bd):Nat:=J7 b.objs 0
theorem Ht:∀ (l:List Ob) (m:Nat),(l.map (·.id)).Pairwise (· < ·)→(∀ o ∈ l,(m:Int) < o.id)→m≤J7 l m∧J7 l m≤m + l.length∧(∀ j,m≤j→j < J7 l m→(l[j - m]?).map (·.id)=some ((j:Int) + 1))∧∀ o ∈ l,o.id ≠ (J7 l m:Int) + 1
 | [],m,_,_=>⟨Nat.le_refl _,Nat.le_refl _,fun j h1 h2=>absurd h2 (by simp only [J7];omega),fun o ho=>by simp at ho⟩
 | o::l,m,hp,hm=>by
  rw [List.map_cons,List.pairwise_cons] at hp
  have hl:∀ x ∈ l,o.id < x.id:=fun x hx=>hp.1 _ (List.mem_map_of_mem hx)
  rw [J7]
  by_cases e:o.id=(m:Int) + 1
  ·rw [if_pos e]
   obtain ⟨h1,h2,h3,h4⟩:=Ht l (m + 1) hp.2 fun x hx=>by have:=hl x hx;omega
   refine ⟨by omega,by rw [List.length_cons];omega,fun j hj1 hj2=>?_,fun x hx=>?_⟩
   ·rcases Nat.eq_or_lt_of_le hj1 with rfl | hlt
    ·rw [Nat.sub_self];show some o.id=_;rw [e]
    ·have:=h3 j hlt hj2
     rw [show j - m=(j - (m + 1)) + 1 by omega,List.getElem?_cons_succ]
     exact this
   ·rcases List.mem_cons.1 hx with rfl | hx
    ·omega
    ·exact h4 x hx
  ·rw [if_neg e]
   refine ⟨Nat.le_refl _,by omega,fun j hj1 hj2=>by omega,fun x hx=>?_⟩
   have h0:=hm o List.mem_cons_self
   rcases List.mem_cons.1 hx with rfl | hx
   ·exact e
   ·have:=hl x hx;omega
theorem rD {b:Bd} (h:ay b=true):bU b≤b.objs.length∧(∀ j,j < bU b→(b.objs[j]?).map (·.id)=some ((j:Int) + 1))∧∀ o ∈ b.objs,o.id ≠ (bU b:Int) + 1:=by
 obtain ⟨_,h2,h3,h4⟩:=Ht b.objs 0 (mA (ir (aY h).1).1) fun o ho=>by have:=((yQ h).1 o ho).1;omega
 exact ⟨by simpa [bU] using h2,fun j hj=>h3 j (Nat.zero_le _) hj,h4⟩
def Q1 (l:List Ob) (m:Nat):Bool:=l.any fun o=>o.id == (m:Int) + 1
theorem Q0 {b:Bd} (h:ay b=true) {m:Nat} (h1:Q1 b.objs m=false) (h2:∀ j,j < m→Q1 b.objs j=true):m=bU b:=by
 obtain ⟨_,f2,f3⟩:=rD h
 have hno:∀ o ∈ b.objs,¬ o.id=(m:Int) + 1:=by simpa [Q1] using h1
 rcases Nat.lt_trichotomy m (bU b) with hlt | e | hgt
 ·have:=f2 m hlt
  simp only [Option.map_eq_some_iff] at this
  obtain ⟨o,ho,he⟩:=this
  exact absurd he (hno o (List.mem_of_getElem? ho))
 ·exact e
 ·have:=h2 _ hgt
  simp only [Q1,List.any_eq_true,beq_iff_eq] at this
  obtain ⟨o,ho,he⟩:=this
  exact absurd he (f3 o ho)
theorem QZ {l:List Ob} {i:Nat} (h:i < l.length) (m:Nat):Q1 (l.take (i + 1)) m=(Q1 (l.take i) m || (l[i].id == (m:Int) + 1)):=by
 rw [Q1,List.take_add_one,List.getElem?_eq_getElem h,Option.toList_some,List.any_append]
 simp [Q1]
def UU (b:Bd) (m:Nat) (p pw tn:Int):Bd:=rU { b with objs:=b.objs.take m++[Py ((m:Int) + 1) p pw tn true]++b.objs.drop m } p 2 ((m:Int) + 1)
def Aj (b:Bd) (p pw tn most:Int):Bd × Int × Int :=
 if (!ay b || !aw p 0 1)=true then (zBd,0,2) else if (b.objs.length:Int) ≥ most then (b,0,0) else if 500≤bU b then (b,0,0) else (UU b (bU b) p pw tn,(bU b:Int) + 1,0)
end Go.Proofs.YtdhobpmnkfmcfaaGreatDoor
namespace Go.Proofs.YtdhobpmnkfmcfaaGreatDoor
open Go Go.Sx
set_option maxRecDepth 100000
set_option maxHeartbeats 1000000
theorem OZ {P:Program} {f:FuncId} {args:List Value} {H:Heap} {O O1 O2:Own} {frz:List BV} {shp:Shp} {K:List Value→List (List Value)→Heap→Own→Prop} {R:Value→Heap→Own→Prop}
  (hO:O.Perm (O1++O2)) (h:∀ Hf,Heap.le H Hf→(∀ b ∈ frz,Hf b.r=some b.obj.2)→Triple P f args Hf O1 R) (hk:∀ v H' O3,R v H' O3→Heap.le H H'→∃ vs,shp.open v=some vs∧Ones vs∧K vs [] H' (O3++O2)) :
  dN (fun H1 O1 R=>Triple P f args H1 O1 R) false frz [] shp K H O:=by
 intro hc
 have hf:=iY hc
 refine ⟨H.insAll frz,O1,O2,R,Ghost.perm hO,by simpa using h _ (Heap.le_insAll frz H) hf,?_⟩
 intro v H' O' hr hle
 obtain ⟨vs,h1,h2,h3⟩:=hk v H' O' hr (Heap.le_trans (Heap.le_insAll frz H) hle)
 exact ⟨vs,[],O',h1,h2,trivial,rfl,h3⟩
theorem TJ {n:Int} (h1:1≤n) (h2:n≤500):∃ q r:Nat,r < 64∧64 * q + r < 500∧n=((64 * q + r:Nat):Int) + 1 :=
 ⟨(n - 1).toNat / 64,(n - 1).toNat % 64,by omega,by omega,by omega⟩
theorem NU {ws:List Nat} {f g:Nat→Bool} (h:BitsOk ws f) (e:∀ m,f m=g m):BitsOk ws g:=by
 rwa [← (funext e:f=g)]
def Yq (b:Bd) (p pw tn most:Int) (v:Value) (O':Own):Prop :=
 ∃ w OB X,O'.Perm (OB++X)∧v=.tuple #[.agg (ap w (Aj b p pw tn most).1).toArray,iV (Aj b p pw tn most).2.1,iV (Aj b p pw tn most).2.2]∧OwnB tys w (Aj b p pw tn most).1 OB
theorem RQ {H:Heap} (hgl:GlobOk AT H) {v:cP} {b:Bd} (h:BdS H v b) (hB:bdB b) {p pw tn most:Int} (h1:pw < 9223372036854775808) (h2:tn < 9223372036854775808) :
  Triple PP Af [.agg (ap v b).toArray,iV p,iV pw,iV tn,iV most] H [] fun r _ O'=>Yq b p pw tn most r O':=by
 refine Ez (vs:=ap v b++[iV p,iV pw,iV tn,iV most]) (by kernel_rfl) (az (ao (h.r [])) ⟨rfl,rfl,rfl,rfl,trivial⟩) ?_
 simp only [tN]
 refine af fun r0=>af fun r1=>?_
 refine aa ?_
 refine ai (dY (h.r [])) rfl ⟨rfl,trivial⟩ fun H1 l1=>ab _ (aN _) (aj (fun hb=>?_) (fun hb=>?_))
 ·have e:Aj b p pw tn most=(zBd,0,2):=by rw [Aj,if_pos (by rw [show ay b=false from wR hb];rfl)]
  refine aa (aa ?_)
  exact ah ⟨BJ,[],[],by simp,by rw [e];rfl,by rw [e];exact OwnB.zero tys⟩
 have hval:ay b=true:=rx hb
 refine ai (dt p 0 1 H1 []) rfl ⟨rfl,trivial⟩ fun H2 l2=>ab _ (aN _) (aj (fun hb=>?_) (fun hb=>?_))
 ·have e:Aj b p pw tn most=(zBd,0,2):=by rw [Aj,if_pos (by rw [show aw p 0 1=false from wR hb];simp)]
  refine aa (aa ?_)
  exact ah ⟨BJ,[],[],by simp,by rw [e];rfl,by rw [e];exact OwnB.zero tys⟩
 have hw:aw p 0 1=true:=rx hb
 have hcond:¬ ((!ay b || !aw p 0 1)=true):=by rw [hval,hw];simp
 have hp01:p=0∨p=1:=by simp only [aw,decide_eq_true_eq] at hw;omega
 have l12:=Heap.le_trans l1 l2
 refine aa ?_
 refine ax (KD (h.le l12) hB) ?_
 rintro _ H3 OB ⟨w,rfl,ho⟩ l3
 refine ⟨ap w b,rfl,bq H3 ho,?_⟩
 rw [List.append_nil]
 have hlen:ak .len [w.o]=some (iV b.objs.length):=by have:=(ho.r (fun p hp=>hp) H3).objs.len;rwa [List.length_map] at this
 have hol:=yP hval
 refine aa (aa ?_)
 refine ab _ hlen ?_
 refine ab _ (di _ _) (aj (fun hb=>?_) (fun hb=>?_))
 ·have e:Aj b p pw tn most=(b,0,0):=by rw [Aj,if_neg hcond,if_pos (by simpa using hb)]
  refine aa (aa (aa ?_))
  exact ah ⟨w,OB,[],by simp,by rw [e];rfl,by rw [e];exact ho⟩
 have hmost:¬ ((b.objs.length:Int) ≥ most):=by simpa using hb
 refine ax TR ?_
 rintro _ H4 A0 ⟨pv,rfl,hA0⟩ l4
 have hpv:pv.oneCell'=true:=by obtain ⟨r,s,A,rfl,_⟩:=hA0;rfl
 refine ⟨[pv,iV 0],rfl,⟨hpv,rfl,trivial⟩,?_⟩
 refine aa ?_
 refine ab _ hlen ?_
 refine aT b.objs.length (fun i H' O'=>Heap.le H4 H'∧∃ A ws,O'.Perm (A++OB)∧W7 pv ws A∧BitsOk ws (Q1 (b.objs.take i))) ⟨Heap.le_refl _,A0,_,List.Perm.refl _,hA0,NU Ub fun m=>by simp [Q1]⟩ ?_
 rintro i H' O' hi - ⟨hle,A,ws,hperm,hA,hbits⟩
 have hR:BdR H' O' w b:=ho.r (fun p hp=>hperm.mem_iff.2 (List.mem_append_right _ hp)) H'
 refine ab _ (aJ _ _) (aj (fun hb=>?_) (fun hb=>?_))
 ·have hlt:i < b.objs.length:=by simpa using hb
  obtain ⟨a,i1,i2,_,i3,i4⟩:=hR.objs.idx .i64 i (Ob.row b.objs[i]) (by rw [List.getElem?_map,List.getElem?_eq_getElem hlt];rfl)
  obtain ⟨d1,d2⟩:=(yQ hval).1 b.objs[i] (List.getElem_mem hlt)
  obtain ⟨q,rr,hr,h5,hid⟩:=TJ d1 d2
  refine ab _ i1 (ar i2 i3 i4 ?_)
  refine af fun r2=>?_
  refine aa (aa ?_)
  have hcl:=V5 (H:=H') hA hbits.len hbits.lt hr h5
  rw [idV,← hid] at hcl
  refine zu (O1:=A) (O2:=OB) hperm hcl ?_
  rintro _ H5 A5 ⟨⟨e5,rfl⟩,hA5⟩ l5
  refine ⟨[iV e5],rfl,⟨rfl,trivial⟩,?_⟩
  refine ab _ (aE (by omega)) (aP (by simp [Eqs]) hlt ⟨Heap.le_trans hle l5,A5,_,List.Perm.refl _,hA5,NU (hbits.claim (by omega) hr) fun m=>?_⟩)
  rw [QZ hlt]
  congr 1
  rw [Bool.eq_iff_iff]
  simp only [beq_iff_eq]
  omega
 have hil:i=b.objs.length:=by have:¬ i < b.objs.length:=(by simpa using hb);omega
 subst hil
 rw [List.take_length] at hbits
 have hle4:Heap.le H H':=Heap.le_trans l12 (Heap.le_trans l3 (Heap.le_trans l4 hle))
 refine zu (O1:=A) (O2:=OB) hperm (WX (hgl.le hle4) hA hbits) ?_
 rintro tv H6 X htv l6
 rcases htv with ⟨m,hm5,hmf,hmb,rfl⟩ | ⟨hall,rfl⟩
 ·obtain rfl:=Q0 hval hmf hmb
  have e:Aj b p pw tn most=(UU b (bU b) p pw tn,(bU b:Int) + 1,0):=by rw [Aj,if_neg hcond,if_neg hmost,if_neg (by omega)]
  have hfl:=(rD hval).1
  refine ⟨[iV ((bU b:Int) + 1),iV 0],rfl,⟨rfl,rfl,trivial⟩,?_⟩
  refine ab _ (bf _ _) (aj (fun hb=>by cases hb) (fun _=>?_))
  refine ai (Gu h1 h2) rfl (vs:=(Py ((bU b:Int) + 1) p pw tn false).row) (bD _) fun H7 l7=>?_
  refine af fun r3=>?_
  refine aa (aa (aa ?_))
  refine ab (iV (bU b:Int)) (by rw [show (iV (bU b:Int))=iV ((bU b:Int) + 1 - 1) by congr 1;omega];exact HU (by omega) (by omega)) ?_
  refine aa ?_
  refine af fun r4=>?_
  obtain ⟨Ao,Ro,po,hAo,backo⟩:=OwnB.pick_objs ho
  refine OZ (O1:=Ao) (O2:=Ro++X) (by
   refine List.perm_append_comm.trans ?_
   rw [← List.append_assoc]
   exact po.append_right X) (fun Hf lf hf=>TZ (k:=bU b) (row:=(Py ((bU b:Int) + 1) p pw tn true).row) hAo (by rw [List.length_map];exact hfl) (by rw [List.length_map];exact hol) rfl (bD _) (hf _ List.mem_cons_self)) ?_
  rintro v' H8 _ ⟨A8,X8,rfl,hA8⟩ l8
  refine ⟨[v'],rfl,⟨hA8.one,trivial⟩,?_⟩
  have hA9:OSl tys.ob 12 v' (List.map Ob.row (b.objs.take (bU b)++[Py ((bU b:Int) + 1) p pw tn true]++b.objs.drop (bU b))) A8:=by
   rw [List.map_append,List.map_append,List.map_take,List.map_drop]
   exact hA8
  have ho2:=backo _ _ _ hA9
  obtain ⟨_,⟨_,_,bf0,_⟩,⟨_,_,bf1,_⟩,_⟩:=hB
  rcases hp01 with rfl | rfl
  ·refine aa ?_
   refine ⟨.i64,0,rfl,fun _=>?_,fun e=>absurd rfl e⟩
   refine aa ?_
   refine af fun r5=>?_
   obtain ⟨A,R,hp,hA,back⟩:=OwnB.pick_f0 ho2
   refine aH (rows:=aI b.s0.field) (news:=[[iV ((bU b:Int) + 1)]]) (O1:=A) (O2:=R++(X8++X)) (e:=aO) (size:=1) (bytes:=8) (by kernel_rfl) (by
    have:(A8++X8++(Ro++X)).Perm (A8++Ro++(X8++X)):=by
     rw [List.append_assoc,List.append_assoc]
     exact (List.perm_append_comm_assoc X8 Ro X).append_left A8
    refine this.trans ?_
    rw [← List.append_assoc A R]
    exact hp.append_right _) hA (fun Hf _ hf=>Sl.block1 (hf _ List.mem_cons_self) rfl ⟨rfl,trivial⟩) (by simp [aI];omega) (by simp [aI];omega) ?_
   intro v2 A2 H9 l9 hA2
   have hA3:OSl aO 1 v2 (aI (b.s0.field++[(bU b:Int) + 1])) A2:=by rw [aI,List.map_append];exact hA2
   have hfin:=back _ _ _ hA3
   refine ⟨.i64,0,rfl,fun _=>?_,fun e=>absurd rfl e⟩
   refine aa (aa (aa (aa ?_)))
   refine ah ⟨{ w with o:=v',f0:=v2 },A2++R,X8++X,by rw [List.append_assoc],?_,?_⟩
   ·rw [e];rfl
   ·rw [e];exact hfin
  ·refine aa ?_
   refine ⟨.i64,1,rfl,fun e=>absurd e (by omega),fun _=>⟨.i64,1,rfl,fun _=>?_,fun e=>absurd rfl e⟩⟩
   refine aa ?_
   refine af fun r5=>?_
   obtain ⟨A,R,hp,hA,back⟩:=OwnB.pick_f1 ho2
   refine aH (rows:=aI b.s1.field) (news:=[[iV ((bU b:Int) + 1)]]) (O1:=A) (O2:=R++(X8++X)) (e:=aO) (size:=1) (bytes:=8) (by kernel_rfl) (by
    have:(A8++X8++(Ro++X)).Perm (A8++Ro++(X8++X)):=by
     rw [List.append_assoc,List.append_assoc]
     exact (List.perm_append_comm_assoc X8 Ro X).append_left A8
    refine this.trans ?_
    rw [← List.append_assoc A R]
    exact hp.append_right _) hA (fun Hf _ hf=>Sl.block1 (hf _ List.mem_cons_self) rfl ⟨rfl,trivial⟩) (by simp [aI];omega) (by simp [aI];omega) ?_
   intro v2 A2 H9 l9 hA2
   have hA3:OSl aO 1 v2 (aI (b.s1.field++[(bU b:Int) + 1])) A2:=by rw [aI,List.map_append];exact hA2
   have hfin:=back _ _ _ hA3
   refine ⟨.i64,1,rfl,fun e=>absurd e (by omega),fun _=>⟨.i64,1,rfl,fun _=>?_,fun e=>absurd rfl e⟩⟩
   refine aa (aa (aa (aa ?_)))
   refine ah ⟨{ w with o:=v',f1:=v2 },A2++R,X8++X,by rw [List.append_assoc],?_,?_⟩
   ·rw [e];rfl
   ·rw [e];exact hfin
 ·have hge:500≤bU b:=by
   refine Nat.le_of_not_lt fun hlt=>?_
   have h3:=hall _ hlt
   simp only [Q1,List.any_eq_true,beq_iff_eq] at h3
   obtain ⟨o,ho',he⟩:=h3
   exact (rD hval).2.2 o ho' he
  have e:Aj b p pw tn most=(b,0,0):=by rw [Aj,if_neg hcond,if_neg hmost,if_pos hge]
  refine ⟨[iV 0,iV 7],rfl,⟨rfl,rfl,trivial⟩,?_⟩
  refine ab _ (bf _ _) (aj (fun _=>?_) (fun hb=>by cases hb))
  refine aa (aa (aa ?_))
  exact ah ⟨w,OB,X,List.perm_append_comm,by rw [e];rfl,by rw [e];exact ho⟩
end Go.Proofs.YtdhobpmnkfmcfaaGreatDoor
namespace Go.Proofs.YtdhobpmnkfmcfaaGreatDoor
open Go Go.Sx
set_option maxRecDepth 100000
set_option maxHeartbeats 1000000
def UF (l:List Int) (e:Eff):Bool:=((l.contains e.target && e.n == 0) && e.m == 0) && e.colour == 0
def inR (n lo hi:Int):Bool:=decide (n ≥ lo) && max 0 (min n hi) == n
def TN (l:List Int) (most:Int) (e:Eff):Bool:=inR e.n 1 most && UF l { e with n:=0 }
def TM (l:List Int) (TE:Int) (e:Eff):Bool:=((inR e.n 0 9 && inR e.m TE 9) && decide (e.n + e.m > 0)) && UF l { e with n:=0,m:=0 }
def UE (l:List Int) (most:Int) (e:Eff):Bool:=inR e.colour 0 3 && TN l most { e with colour:=0 }
inductive Rl where
 | no
 | bare (l:List Int)
 | cnt (l:List Int) (m:Int)
 | par (l:List Int) (m:Int)
 | col (l:List Int) (m:Int)
def xw (c:Int):Rl :=
 if c=1 then .cnt [1,2,3,4,5] 99 else if c=2 then .cnt [0,4] 7 else if c=3∨c=4 then .cnt [0,4] 99
 else if c=5∨c=6∨c=11 then .bare [1,2,3] else if c=7 then .bare [6] else if c=8 then .par [1,2,3,0] 0
 else if c=9 then .cnt [1,2,3,0] 9 else if c=10 then .par [0] 1 else if c=12 then .col [0] 9 else .no
def Rl.fits:Rl→Eff→Bool
 | .no,_=>false
 | .bare l,e=>UF l e
 | .cnt l m,e=>TN l m e
 | .par l m,e=>TM l m e
 | .col l m,e=>UE l m e
def Hy (e:Eff):Bool:=(xw e.code).fits e
def pQ (a b:Int):Int:=min 99 (max 0 a + max 0 b)
def cu (n most:Int):Int:=max 0 (min n most)
def VJ (cs:List CdX):List Int:=EZ (cs.map CdX.base)
def onB (cs:List CdX) (b:Bd) (id:Int):Bool:=be b id == 0 && (eN (VJ cs) (dA b id) && (au b (dA b id).owner).field.contains id)
def cX (b:Bd) (id:Int) (f:Ob→Ob):Bd:=if (F7 b (f (dA b id))).2=0 then (F7 b (f (dA b id))).1 else b
def nV (b:Bd) (p x:Int):Bd:=bH b p { au b p with life:=x }
def fL (s:St) (c n:Int):St:=if c=0 then { s with p0:=cu (s.p0 + n) 99 } else if c=1 then { s with p1:=cu (s.p1 + n) 99 } else if c=2 then { s with p2:=cu (s.p2 + n) 99 } else { s with p3:=cu (s.p3 + n) 99 }
def uT (e:Eff) (o:Ob):Ob :=
 if e.code=5 then { o with doom:=true } else if e.code=11 then { o with tap:=true }
 else if e.code=8 then { o with pp:=pQ o.pp e.n,pt:=pQ o.pt e.m } else if e.code=9 then { o with cnt:=pQ o.cnt e.n } else o
def aL (cs:List CdX) (b:Bd) (p who id:Int) (e:Eff) (most:Int):Bd :=
 if e.code=1 then (if id > 0 then cX b id fun o=>{ o with dmg:=pQ o.dmg e.n } else nV b who (cu ((au b who).life - e.n) 9999))
 else if e.code=2 then (rG b who e.n).1
 else if e.code=3 then nV b who (cu ((au b who).life + e.n) 9999)
 else if e.code=4 then nV b who (cu ((au b who).life - e.n) 9999)
 else if e.code=6 then (fE b id 1).1
 else if e.code=7 then (bK b id).1
 else if e.code=10 then (Aj b p e.n e.m most).1
 else if e.code=12 then bH b who (fL (au b who) e.colour e.n)
 else if onB cs b id=true then cX b id (uT e) else b
def I4 (p:Int) (e:Eff) (t:Tg):Int:=if e.target=0 then p else t.player
def idE (src:Int) (e:Eff) (t:Tg):Int:=if e.target=0 then src else t.id
def UO (cs:List CdX) (b:Bd) (p:Int) (e:Eff) (t:Tg):Prop:=e.target ≠ 0∧vJ (cs.map CdX.base) b p e.target t=false
instance (cs:List CdX) (b:Bd) (p:Int) (e:Eff) (t:Tg):Decidable (UO cs b p e t):=by unfold UO;infer_instance
def vK (cs:List CdX) (b:Bd) (p src:Int) (e:Eff) (t:Tg) (most:Int):Bd :=
 if UO cs b p e t then b else aL cs b p (I4 p e t) (idE src e t) e most
end Go.Proofs.YtdhobpmnkfmcfaaGreatDoor
namespace Go.Sx
open Go
def Heap.insO (H:Heap) (O:Own):Heap:=⟨fun b=>match H b with
 | some x=>some x
 | none=>(O.find? fun p=>p.1 == b).map (·.2),H.env⟩
def Heap.minus (H:Heap) (O:Own):Heap:=⟨fun b=>if O.any (fun p=>p.1 == b) then none else H b,H.env⟩
theorem QY (H:Heap) (O:Own):Heap.le H (H.insO O):=⟨fun b o h=>by simp only [Heap.insO];rw [h],rfl⟩
theorem ND:∀ {O:Own},(O.map (·.1)).Nodup→∀ {p:Nat × Obj},p ∈ O→(O.find? fun q=>q.1 == p.1)=some p
 | [],_,p,h=>by simp at h
 | a::O,hn,p,h=>by
  simp only [List.map_cons,List.nodup_cons] at hn
  rw [List.find?_cons]
  by_cases e:a.1=p.1
  ·rcases List.mem_cons.1 h with rfl | hm
   ·simp
   ·exact absurd (e ▸ List.mem_map_of_mem hm) hn.1
  ·have:(a.1 == p.1)=false:=by simpa using e
   rw [this]
   rcases List.mem_cons.1 h with rfl | hm
   ·exact absurd rfl e
   ·exact ND hn.2 hm
theorem TF {H:Heap} {O:Own} (hc:Cons H O) {p:Nat × Obj} (hp:p ∈ O):H.insO O p.1=some p.2:=by
 simp only [Heap.insO]
 rw [hc.none hp]
 simp only []
 rw [ND hc.nodup hp];rfl
theorem Ly {w:World} {H:Heap} {O F:Own} (h:Models w H (O++F)):Models w (H.insO O) F:=by
 have hc:Cons H O:=⟨w,F,h⟩
 have hn:=h.nodup
 rw [List.map_append,List.nodup_append] at hn
 refine ⟨fun b x hb=>?_,fun p hp=>?_,hn.2.1,h.env⟩
 ·simp only [Heap.insO] at hb
  split at hb
  ·rename_i y hy;cases hb;exact h.pers b _ hy
  ·obtain ⟨q,hq,rfl⟩:=Option.map_eq_some_iff.1 hb
   have e:q.1=b:=by simpa using List.find?_some hq
   rw [← e]
   exact (h.own q (List.mem_append_left _ (List.mem_of_find?_eq_some hq))).1
 ·obtain ⟨h1,h2⟩:=h.own p (List.mem_append_right _ hp)
  refine ⟨h1,?_⟩
  simp only [Heap.insO]
  rw [h2]
  simp only []
  cases hf:O.find? fun q=>q.1 == p.1 with
  | none=>rfl
  | some q =>
   exfalso
   have e:q.1=p.1:=by simpa using List.find?_some hf
   exact hn.2.2 q.1 (List.mem_map_of_mem (List.mem_of_find?_eq_some hf)) p.1 (List.mem_map_of_mem hp) e
theorem TG {H H':Heap} {O:Own} (hc:Cons H O) (hg:Ghost H O H' []):Heap.le H' (H.insO O):=by
 obtain ⟨w,F,hm⟩:=hc
 obtain ⟨hm',hle⟩:=hg w F hm
 have hm':Models w H' F:=by simpa using hm'
 refine ⟨fun b o hb=>?_,hle.2.symm⟩
 simp only [Heap.insO]
 cases hH:H b with
 | some x =>
  have:=hle.1 b x hH
  rw [hb] at this
  simp only []
  exact this.symm
 | none =>
  simp only []
  have hw:=hm'.pers b o hb
  cases hf:O.find? fun q=>q.1 == b with
  | some q =>
   have e:q.1=b:=by simpa using List.find?_some hf
   have h1:=(hm.own q (List.mem_append_left _ (List.mem_of_find?_eq_some hf))).1
   rw [e,hw] at h1
   rw [Option.map_some,Option.some.inj h1]
  | none =>
   exfalso
   obtain ⟨o',ho'⟩:∃ o':Obj,o' ≠ o:=by
    by_cases h:(Obj.cells #[] 0 (0,0))=o
    ·exact ⟨Obj.cells #[] 1 (0,0),fun e=>by rw [← h] at e;cases e⟩
    ·exact ⟨_,h⟩
   have hlt:b < w.heap.size:=by
    rcases Nat.lt_or_ge b w.heap.size with h | h
    ·exact h
    ·simp [Array.getElem?_eq_none h] at hw
   have hO:∀ p ∈ O,p.1 ≠ b:=fun p hp e=>by
    have:=List.find?_eq_none.1 hf p hp
    simp [e] at this
   have hF:∀ p ∈ F,p.1 ≠ b:=fun p hp e=>by
    have:=(hm'.own p hp).2
    rw [e,hb] at this
    cases this
   have hset:∀ c,c ≠ b→(w.heap.set b o' hlt)[c]?=w.heap[c]?:=fun c hne=>by
    rw [Array.getElem?_set]
    rw [if_neg (fun h=>hne h.symm)]
   have hm2:Models { w with heap:=w.heap.set b o' hlt } H (O++F):=by
    refine ⟨fun c x hcx=>?_,fun p hp=>?_,hm.nodup,hm.env⟩
    ·have hne:c ≠ b:=fun e=>by rw [e,hH] at hcx;cases hcx
     show (w.heap.set b o' hlt)[c]?=some x
     rw [hset c hne];exact hm.pers c x hcx
    ·have hne:p.1 ≠ b:=by
      rcases List.mem_append.1 hp with h | h
      ·exact hO p h
      ·exact hF p h
     obtain ⟨h1,h2⟩:=hm.own p hp
     refine ⟨?_,h2⟩
     show (w.heap.set b o' hlt)[p.1]?=some p.2
     rw [hset _ hne];exact h1
   have h3:=(hg _ F hm2).1.pers b o hb
   have h4:(w.heap.set b o' hlt)[b]?=some o':=by simp
   have h5:(w.heap.set b o' hlt)[b]?=some o:=h3
   rw [h4] at h5
   exact ho' (Option.some.inj h5)
theorem RetO.thaw {P:Program} {f:FuncId} {args:List Value} {H:Heap} {O:Own} {r:Value} {S:Heap→Prop} (hS:∀ H H',Heap.le H H'→S H→S H') (hf:Cons H O→∃ H',Ghost H O H' []∧S H')
  (h:∀ Hf,Heap.le H Hf→S Hf→RetO P f args Hf [] r):RetO P f args H O r:=by
 intro w F hm
 have hc:Cons H O:=⟨w,F,hm⟩
 obtain ⟨H',g,s⟩:=hf hc
 have s2:=hS _ _ (TG hc g) s
 refine (h (H.insO O) (QY H O) s2 w F (by simpa using Ly hm)).mono ?_
 rintro e w' ⟨v,H1,O1,rfl,⟨rfl,rfl⟩,hle,hm'⟩
 have hm':Models w' H1 F:=by simpa using hm'
 have hno:∀ b o,H b=some o→O.any (fun p=>p.1 == b)=false:=fun b o hb=>by
  rw [List.any_eq_false]
  intro p hp e
  have e:p.1=b:=by simpa using e
  have:=hc.none hp
  rw [e,hb] at this
  cases this
 refine ⟨_,H1.minus O,O,rfl,⟨rfl,rfl⟩,⟨fun b o hb=>?_,?_⟩,⟨fun b o hb=>?_,fun p hp=>?_,hm.nodup,hm'.env⟩⟩
 ·simp only [Heap.minus]
  rw [hno b o hb]
  exact hle.1 b o ((QY H O).1 b o hb)
 ·exact hle.2
 ·simp only [Heap.minus] at hb
  split at hb
  ·cases hb
  ·exact hm'.pers b o hb
 ·rcases List.mem_append.1 hp with hp | hp
  ·refine ⟨hm'.pers _ _ (hle.1 _ _ (TF hc hp)),?_⟩
   simp only [Heap.minus]
   rw [if_pos (List.any_eq_true.2 ⟨p,hp,by simp⟩)]
  ·obtain ⟨h1,h2⟩:=hm'.own p hp
   refine ⟨h1,?_⟩
   simp only [Heap.minus]
   split
   ·rfl
   ·exact h2
theorem OwnB.thaw {P:Program} {f:FuncId} {args:List Value} {H:Heap} {O:Own} {r:Value} {t:Tys} {w:cP} {b:Bd} (ho:OwnB t w b O) (h:∀ Hf,Heap.le H Hf→BdS Hf w b→RetO P f args Hf [] r):RetO P f args H O r :=
 RetO.thaw (S:=fun Hf=>BdS Hf w b) (fun _ _ hl h=>h.le hl) (fun hc=>by
  obtain ⟨H',g,k,_⟩:=ho.freeze (X:=[]) (by simpa using hc)
  exact ⟨H',by simpa using g,k⟩) h
end Go.Sx
namespace Go.Proofs.YtdhobpmnkfmcfaaGreatDoor
open Go Go.Sx
set_option maxRecDepth 100000
set_option maxHeartbeats 1000000
theorem mU {P:Program} {t ty e:TypeId} {size:Nat} (ha:KH P t e size=true) {ad:Addr} {rows news:List (List Value)} {x:Value} {H:Heap} {O:Own} {frz:List BV} {K:List Value→List (List Value)→Heap→Own→Prop}
  (hr:Sl H size (.slice (some ad) rows.length rows.length) rows) (hx:∀ Hf,Heap.le H Hf→(∀ b ∈ frz,Hf b.r=some b.obj.2)→Sl Hf size x news)
  (hb:(rows.length + news.length) * lh P e≤140737488355328) (h63:rows.length + news.length < 2 ^ 63) (hk:∀ v' H',Heap.le H H'→Sl H' size v' (rows++news)→K [v'] [] H' O) :
  dN (fun H1 O1 R=>ck P ((PrimOp.bi .append #[t,t] ty).sem [.slice (some ad) rows.length rows.length,x]) H1 O1 R) false frz [] .one K H O:=by
 intro hc
 have hf:=iY hc
 have hl:=Heap.le_insAll frz H
 refine ⟨H.insAll frz,[],O,_,Ghost.refl _ _,by simpa using HJ (ty:=ty) ha (hr.le hl) (hx _ hl hf) hb h63,?_⟩
 rintro v' H' O' ⟨rfl,hle,hs⟩ _
 exact ⟨[v'],[],[],rfl,⟨hs.one,trivial⟩,trivial,rfl,hk v' H' (Heap.le_trans hl hle) hs⟩
theorem ov {P:Program} {t:TypeId} {d:TypeDesc} (hu:P.underlying t=some d) (hni:∀ m,d ≠ .interface m) {b:Bool} {args:List Value} {x:Value} (hx:(b=true∧x=.agg args.toArray)∨(b=false∧args=[x])) {frz:List BV} {H:Heap} {O:Own}
  {K:List Value→List (List Value)→Heap→Own→Prop} (hk:∀ H',Heap.le H H'→(∀ b ∈ frz,H' b.r=some b.obj.2)→K [.iface t x] [] H' O) :
  dN (fun H1 O1 R=>ck P ((PrimOp.mkIface t b).sem args) H1 O1 R) false frz [] .one K H O:=by
 intro hc
 have hf:=iY hc
 have hl:=Heap.le_insAll frz H
 have hrun:∀ w,((PrimOp.mkIface t b).sem args).run P w=.ok (.value (.iface t x)) w:=fun w=>by
  rcases hx with ⟨rfl,rfl⟩ | ⟨rfl,rfl⟩
  ·simp only [PrimOp.sem,Instr.makeInterface,Sem.run_bind,aK hu,Result.andThen_ok]
   cases d <;> first | rfl | exact absurd rfl (hni _)
  ·simp only [PrimOp.sem,Instr.makeInterface,Sem.run_bind,aK hu,Result.andThen_ok]
   cases d <;> first | rfl | exact absurd rfl (hni _)
 refine ⟨H.insAll frz,[],O,fun v H' O'=>v=.iface t x∧H'=H.insAll frz∧O'=[],Ghost.refl _ _,fun w F hm=>⟨_,w,H.insAll frz,[],hrun w,⟨rfl,rfl,rfl⟩,Heap.le_refl _,by simpa using hm⟩,?_⟩
 rintro v' H' O' ⟨rfl,rfl,rfl⟩ _
 exact ⟨[_],[],[],rfl,⟨rfl,trivial⟩,trivial,rfl,hk _ hl hf⟩
theorem LU (r:Nat) (H:Heap):Ret PP dq [.slice (some ⟨r,0,none⟩) 3 3] H (.slice (some ⟨r,0,none⟩) 3 3):=by
 refine ge (vs:=[.slice (some ⟨r,0,none⟩) 3 3]) (by kernel_rfl) ⟨rfl,trivial⟩ ?_
 simp only [bR]
 exact ab (iV 3) rfl (ab (iV 3) rfl (ab (.slice (some ⟨r,0,none⟩) 3 3) rfl (ah ⟨rfl,rfl⟩)))
def W6 (H:Heap):Rl→Value→Prop
 | .no,r=>r=.nilIface
 | .bare l,r=>∃ s,r=.iface 151 s∧Sl H 1 s (aI l)
 | .cnt l m,r=>∃ s,r=.iface 154 (.agg #[s,iV m])∧Sl H 1 s (aI l)
 | .par l m,r=>∃ s,r=.iface 156 (.agg #[s,iV m])∧Sl H 1 s (aI l)
 | .col l m,r=>∃ s,r=.iface 158 (.agg #[s,iV m])∧Sl H 1 s (aI l)
def OfQ (c:Int) (r:Value) (H':Heap) (O':Own):Prop:=W6 H' (xw c) r∧O'=[]
theorem Xh {H:Heap} {r:Nat} {T:TypeId} (h:H r=some (.cells [iV 1,iV 2,iV 3].toArray T (0,0))):Sl H 1 (.slice (some ⟨r,0,none⟩) 3 3) (aI [1,2,3]):=Sl.block h ⟨rfl,rfl,rfl,trivial⟩ rfl (by decide)
theorem XH {H:Heap} {r:Nat} {T:TypeId} {a b:Int} (h:H r=some (.cells [iV a,iV b].toArray T (0,0))):Sl H 1 (.slice (some ⟨r,0,none⟩) 2 2) (aI [a,b]):=Sl.block h ⟨rfl,rfl,trivial⟩ rfl (by decide)
theorem W2 {H:Heap} {r:Nat} {T:TypeId} {a:Int} (h:H r=some (.cells [iV a].toArray T (0,0))):Sl H 1 (.slice (some ⟨r,0,none⟩) 1 1) (aI [a]):=Sl.block h ⟨rfl,trivial⟩ rfl (by decide)
def Tn:Option TypeDesc→Bool
 | none=>false
 | some (.interface _)=>false
 | some _=>true
theorem nS {o:Option TypeDesc} (h:Tn o=true):∃ d,o=some d∧∀ m,d ≠ .interface m:=by
 cases o with
 | none=>cases h
 | some d=>exact ⟨d,rfl,fun m e=>by rw [e] at h;cases h⟩
theorem XI:∃ d,PP.underlying 151=some d∧∀ m,d ≠ .interface m:=nS (by kernel_rfl)
theorem XU:∃ d,PP.underlying 154=some d∧∀ m,d ≠ .interface m:=nS (by kernel_rfl)
theorem Yh:∃ d,PP.underlying 156=some d∧∀ m,d ≠ .interface m:=nS (by kernel_rfl)
theorem Yk:∃ d,PP.underlying 158=some d∧∀ m,d ≠ .interface m:=nS (by kernel_rfl)
theorem Xw {c:Int} {k:Bool} {r2 r0:Nat} {H:Heap} (h1:k=true→c=5∨c=6∨c=11) (h2:k=false→¬ (c=1∨c=2∨c=3∨c=4∨c=5∨c=6∨c=11)):(lG (.bool k) r2 [iV c] r0).den PP (OfQ c) H []:=by
 simp only [lG]
 obtain ⟨d1,u1,n1⟩:=XI
 obtain ⟨d3,u3,n3⟩:=Yh
 obtain ⟨d4,u4,n4⟩:=Yk
 refine aj (fun hk=>?_) (fun hk=>?_)
 ·refine ov u1 n1 (.inr ⟨rfl,rfl⟩) fun H1 l1 hf=>?_
  refine ah ⟨?_,rfl⟩
  rw [xw,if_neg (by have:=h1 hk;omega),if_neg (by have:=h1 hk;omega),if_neg (by have:=h1 hk;omega),if_pos (h1 hk)]
  exact ⟨_,rfl,Xh (hf _ List.mem_cons_self)⟩
 have hn:=h2 hk
 refine ab _ (aA _ _) (aj (fun h=>?_) (fun h=>?_))
 ·have h:c=7:=by simpa using h
  subst h
  refine af fun r4=>?_
  refine ov u1 n1 (.inr ⟨rfl,rfl⟩) fun H1 l1 hf=>?_
  exact ah ⟨⟨_,rfl,W2 (hf _ List.mem_cons_self)⟩,rfl⟩
 have n7:c ≠ 7:=by simpa using h
 refine ab _ (aA _ _) (aj (fun h=>?_) (fun h=>?_))
 ·have h:c=8:=by simpa using h
  subst h
  refine Fv _ (fun Hf _ _=>LU r2 Hf) rfl ⟨rfl,trivial⟩ fun H1 l1 hf=>?_
  refine af fun r5=>?_
  refine mU (ad:=⟨r2,0,none⟩) (rows:=aI [1,2,3]) (news:=aI [0]) (size:=1) (e:=36) (by kernel_rfl) (Xh (hf _ List.mem_cons_self)) (fun Hf _ hf2=>W2 (hf2 _ List.mem_cons_self)) (by rw [show lh PP 36=8 by kernel_rfl];decide) (by decide) fun v' H2 l2 hs=>?_
  exact ah ⟨⟨_,rfl,hs⟩,rfl⟩
 have n8:c ≠ 8:=by simpa using h
 refine ab _ (aA _ _) (aj (fun h=>?_) (fun h=>?_))
 ·have h:c=9:=by simpa using h
  subst h
  refine Fv _ (fun Hf _ _=>LU r2 Hf) rfl ⟨rfl,trivial⟩ fun H1 l1 hf=>?_
  refine af fun r5=>?_
  refine mU (ad:=⟨r2,0,none⟩) (rows:=aI [1,2,3]) (news:=aI [0]) (size:=1) (e:=36) (by kernel_rfl) (Xh (hf _ List.mem_cons_self)) (fun Hf _ hf2=>W2 (hf2 _ List.mem_cons_self)) (by rw [show lh PP 36=8 by kernel_rfl];decide) (by decide) fun v' H2 l2 hs=>?_
  exact ah ⟨⟨_,rfl,hs⟩,rfl⟩
 have n9:c ≠ 9:=by simpa using h
 refine ab _ (aA _ _) (aj (fun h=>?_) (fun h=>?_))
 ·have h:c=10:=by simpa using h
  subst h
  refine ov u3 n3 (.inl ⟨rfl,rfl⟩) fun H1 l1 hf=>?_
  exact ah ⟨⟨_,rfl,W2 (hf _ List.mem_cons_self)⟩,rfl⟩
 have n10:c ≠ 10:=by simpa using h
 refine ab _ (aA _ _) (aj (fun h=>?_) (fun h=>?_))
 ·have h:c=12:=by simpa using h
  subst h
  refine ov u4 n4 (.inl ⟨rfl,rfl⟩) fun H1 l1 hf=>?_
  exact ah ⟨⟨_,rfl,W2 (hf _ List.mem_cons_self)⟩,rfl⟩
 have n12:c ≠ 12:=by simpa using h
 refine ah ⟨?_,rfl⟩
 rw [xw,if_neg (by omega),if_neg (by omega),if_neg (by omega),if_neg (by omega),if_neg n7,if_neg n8,if_neg n9,if_neg n10,if_neg n12]
 rfl
theorem XT {c:Int} {k:Bool} {r1 r2 r0:Nat} {H:Heap} (h1:k=true→c=3∨c=4) (h2:k=false→¬ (c=1∨c=2∨c=3∨c=4)):(om (.bool k) r1 [iV c] r2 r0).den PP (OfQ c) H []:=by
 simp only [om]
 obtain ⟨d2,u2,n2⟩:=XU
 refine aj (fun hk=>?_) (fun hk=>?_)
 ·refine ov u2 n2 (.inl ⟨rfl,rfl⟩) fun H1 l1 hf=>?_
  refine ah ⟨?_,rfl⟩
  rw [xw,if_neg (by have:=h1 hk;omega),if_neg (by have:=h1 hk;omega),if_pos (h1 hk)]
  exact ⟨_,rfl,XH (hf _ List.mem_cons_self)⟩
 have hn:=h2 hk
 refine ab _ (aA _ _) (aj (fun h=>?_) (fun h=>?_))
 ·have h':c=5:=by simpa using h
  exact Xw (fun _=>.inl h') (fun e=>by rw [h] at e;cases e)
 have n5:c ≠ 5:=by simpa using h
 refine ab _ (aA _ _) (aj (fun h=>?_) (fun h=>?_))
 ·have h':c=6:=by simpa using h
  exact Xw (fun _=>.inr (.inl h')) (fun e=>by rw [h] at e;cases e)
 have n6:c ≠ 6:=by simpa using h
 refine ab _ (aA _ _) ?_
 exact Xw (fun e=>.inr (.inr (by simpa using e))) (fun e=>by have:c ≠ 11:=(by simpa using e);omega)
theorem Yn (c:Int) (H:Heap):Triple PP F4 [iV c] H [] (OfQ c):=by
 refine Ih (vs:=[iV c]) (by kernel_rfl) ⟨rfl,trivial⟩ ?_
 simp only [yG]
 obtain ⟨d2,u2,n2⟩:=XU
 refine af fun r0=>af fun r1=>af fun r2=>?_
 refine ab _ (aA _ _) (aj (fun h=>?_) (fun h=>?_))
 ·have h:c=1:=by simpa using h
  subst h
  refine Fv _ (fun Hf _ _=>LU r2 Hf) rfl ⟨rfl,trivial⟩ fun H1 l1 hf=>?_
  refine af fun r5=>?_
  refine mU (ad:=⟨r2,0,none⟩) (rows:=aI [1,2,3]) (news:=aI [4,5]) (size:=1) (e:=36) (by kernel_rfl) (Xh (hf _ List.mem_cons_self)) (fun Hf _ hf2=>XH (hf2 _ List.mem_cons_self)) (by rw [show lh PP 36=8 by kernel_rfl];decide) (by decide) fun v' H2 l2 hs=>?_
  exact ah ⟨⟨_,rfl,hs⟩,rfl⟩
 have n1:c ≠ 1:=by simpa using h
 refine ab _ (aA _ _) (aj (fun h=>?_) (fun h=>?_))
 ·have h:c=2:=by simpa using h
  subst h
  refine ov u2 n2 (.inl ⟨rfl,rfl⟩) fun H1 l1 hf=>?_
  exact ah ⟨⟨_,rfl,XH (hf _ List.mem_cons_self)⟩,rfl⟩
 have n2':c ≠ 2:=by simpa using h
 refine ab _ (aA _ _) (aj (fun h=>?_) (fun h=>?_))
 ·have h':c=3:=by simpa using h
  exact XT (fun _=>.inl h') (fun e=>by rw [h] at e;cases e)
 have n3:c ≠ 3:=by simpa using h
 refine ab _ (aA _ _) ?_
 exact XT (fun e=>.inr (by simpa using e)) (fun e=>by have:c ≠ 4:=(by simpa using e);omega)
theorem TV {H:Heap} {O:Own} {v:Value} {l:List Int} (h:RSl H O 1 v (l.map fun n=>[I n])) (x:Int):RetO PP dl [v,I x] H O (I (nX l x 0)):=by
 refine fK (vs:=[v,I x]) (by kernel_rfl) ⟨h.one,rfl,trivial⟩ ?_
 simp only [bN]
 refine ab _ h.len ?_
 refine aT l.length (fun i H' O'=>O'=O∧Heap.le H H'∧nX l x 0=nX (l.drop i) x i) ⟨rfl,Heap.le_refl H,by simp⟩ ?_
 rintro i H' O' hi - ⟨rfl,hle,hor⟩
 refine ab _ (aJ _ _) (aj (fun hb=>?_) (fun hb=>?_))
 ·have hlt:i < l.length:=by simpa using hb
  obtain ⟨a,h1,h2,_,h3,h4⟩:=(h.le hle).idx .i64 i [I l[i]] (by simp [hlt])
  refine ab _ h1 (ar h2 h3 h4 (ab _ (aA _ _) (aj (fun hb=>?_) (fun hb=>?_))))
  ·refine ah ⟨?_,rfl⟩
   rw [hor,List.drop_eq_getElem_cons hlt,nX,if_pos hb];rfl
  ·refine ab _ (aE (by have:=h.lenB;simp at this;omega)) (aP (by simp [Eqs,E]) hlt ⟨rfl,hle,?_⟩)
   rw [hor,List.drop_eq_getElem_cons hlt,nX,if_neg (by rw [hb];simp)];rfl
 ·have hge:l.length≤i:=by simpa using hb
  refine ah ⟨?_,rfl⟩
  rw [hor,List.drop_of_length_le hge];rfl
theorem LP {H:Heap} {O:Own} {v:Value} {l:List Int} (h:RSl H O 1 v (l.map fun n=>[I n])) (x:Int):RetO PP cN [v,I x] H O (.bool (l.contains x)):=by
 refine fj (vs:=[v,I x]) (by kernel_rfl) ⟨h.one,rfl,trivial⟩ ?_
 simp only [bE]
 refine ai (TV h x) rfl ⟨rfl,trivial⟩ fun H1 _=>ab _ (di _ _) (ah ⟨?_,rfl⟩)
 rw [← IF l x 0 (by omega)]
theorem zw (n lo hi:Int) (H:Heap) (O:Own):RetO PP wK [iV n,iV lo,iV hi] H O (.bool (inR n lo hi)):=by
 refine Aw (vs:=[iV n,iV lo,iV hi]) (by kernel_rfl) ⟨rfl,rfl,rfl,trivial⟩ ?_
 simp only [o9]
 refine ab _ (di _ _) (aj (fun h=>?_) (fun h=>?_))
 ·refine ai (LV n hi) rfl ⟨rfl,trivial⟩ fun H1 _=>ab _ (aA _ _) (ah ⟨?_,rfl⟩)
  rw [inR,h,Bool.true_and]
 ·refine ah ⟨?_,rfl⟩
  rw [inR,h,Bool.false_and]
theorem Ba {H:Heap} {O:Own} {s:Value} {l:List Int} (h:RSl H O 1 s (aI l)) (e:Eff):RetO PP lM [s,.agg e.row.toArray] H O (.bool (UF l e)):=by
 refine xg (vs:=s::e.row) (by kernel_rfl) ⟨h.one,jX e⟩ ?_
 simp only [lw]
 refine af fun r0=>?_
 refine aa ?_
 refine ai (LP h e.target) rfl ⟨rfl,trivial⟩ fun H1 _=>?_
 refine aa (ae (ae ?_))
 refine ab _ (aA _ _) ?_
 refine ae ?_
 refine ab _ (aX _ _) ?_
 refine aa (ae (ae ?_))
 refine ab _ (aA _ _) ?_
 refine ae ?_
 refine ab _ (aX _ _) ?_
 refine aa (ae (ae ?_))
 refine ab _ (aA _ _) ?_
 refine ae ?_
 refine ab _ (aX _ _) ?_
 exact ah ⟨rfl,rfl⟩
theorem KA {H:Heap} {O:Own} {s:Value} {l:List Int} (h:RSl H O 1 s (aI l)) (m:Int) (e:Eff):RetO PP iO [.agg #[s,iV m],.agg e.row.toArray] H O (.bool (TN l m e)):=by
 refine si (vs:=s::iV m::e.row) (by kernel_rfl) ⟨h.one,rfl,jX e⟩ ?_
 simp only [iN]
 refine af fun r0=>af fun r1=>?_
 refine aa (aa (aa ?_))
 refine ai (zw e.n 1 m _ _) rfl ⟨rfl,trivial⟩ fun H1 l1=>aj (fun hb=>?_) (fun hb=>?_)
 ·refine aa (aa ?_)
  refine ai (Ba (h.le l1) { e with n:=0 }) rfl ⟨rfl,trivial⟩ fun H2 _=>ah ⟨?_,rfl⟩
  rw [TN,hb,Bool.true_and];rfl
 ·refine ah ⟨?_,rfl⟩
  rw [TN,hb,Bool.false_and]
theorem RF {H:Heap} {O:Own} {s:Value} {l:List Int} (h:RSl H O 1 s (aI l)) {m:Int} (hm:0≤m) (e:Eff):RetO PP jG [.agg #[s,iV m],.agg e.row.toArray] H O (.bool (TM l m e)):=by
 refine uC (vs:=s::iV m::e.row) (by kernel_rfl) ⟨h.one,rfl,jX e⟩ ?_
 simp only [jE]
 refine af fun r0=>af fun r1=>?_
 refine aa (aa (aa (aa ?_)))
 refine ai (zw e.n 0 9 _ _) rfl ⟨rfl,trivial⟩ fun H1 l1=>aj (fun hb=>?_) (fun hb=>?_)
 rotate_left
 ·refine ah ⟨?_,rfl⟩
  rw [TM,hb];rfl
 refine aa ?_
 refine ai (zw e.m m 9 _ _) rfl ⟨rfl,trivial⟩ fun H2 l2=>?_
 refine ae (ae ?_)
 have hw:∃ z,ak (.bin .add .int) [iV e.n,iV e.m]=some (iV z)∧(inR e.m m 9=true→z=e.n + e.m):=by
  refine ⟨IntKind.i64.wrap (e.n + e.m),rfl,fun hm9=>?_⟩
  simp only [inR,Bool.and_eq_true,decide_eq_true_eq,beq_iff_eq] at hb hm9
  exact ij (by omega) (by omega)
 obtain ⟨z,hz,hze⟩:=hw
 refine ab _ hz ?_
 refine ae ?_
 refine ab _ (bG _ _) ?_
 refine ae ?_
 refine ab _ (aX _ _) (aj (fun hc=>?_) (fun hc=>?_))
 ·rw [Bool.and_eq_true] at hc
  refine aa (aa ?_)
  refine ai (Ba (h.le (Heap.le_trans l1 l2)) { e with n:=0,m:=0 }) rfl ⟨rfl,trivial⟩ fun H3 _=>ah ⟨?_,rfl⟩
  rw [TM,hb,hc.1,← hze hc.1,hc.2];rfl
 ·refine ah ⟨?_,rfl⟩
  rw [TM,hb,Bool.true_and]
  by_cases hm9:inR e.m m 9=true
  ·rw [hm9,Bool.true_and] at hc
   rw [hm9,← hze hm9,Bool.true_and,hc];rfl
  ·rw [show inR e.m m 9=false by simpa using hm9];rfl
theorem RJ {H:Heap} {O:Own} {s:Value} {l:List Int} (h:RSl H O 1 s (aI l)) (m:Int) (e:Eff):RetO PP gU [.agg #[s,iV m],.agg e.row.toArray] H O (.bool (UE l m e)):=by
 refine rl (vs:=s::iV m::e.row) (by kernel_rfl) ⟨h.one,rfl,jX e⟩ ?_
 simp only [gP]
 refine af fun r0=>af fun r1=>?_
 refine aa (aa ?_)
 refine ai (zw e.colour 0 3 _ _) rfl ⟨rfl,trivial⟩ fun H1 l1=>aj (fun hb=>?_) (fun hb=>?_)
 ·refine aa (aa ?_)
  refine ai (KA (h.le l1) m { e with colour:=0 }) rfl ⟨rfl,trivial⟩ fun H2 _=>ah ⟨?_,rfl⟩
  rw [UE,hb,Bool.true_and];rfl
 ·refine ah ⟨?_,rfl⟩
  rw [UE,hb,Bool.false_and]
end Go.Proofs.YtdhobpmnkfmcfaaGreatDoor
namespace Go.Proofs.YtdhobpmnkfmcfaaGreatDoor
open Go Go.Sx
set_option maxRecDepth 100000
set_option maxHeartbeats 1000000
def sm (n:Int):Prop:=-1000000000≤n∧n≤1000000000
theorem Sr {x y:Int} (hx:sm x) (hy:sm y):ak (.bin .add .int) [iV x,iV y]=some (iV (x + y)):=by
 obtain ⟨a,b⟩:=hx
 obtain ⟨c,d⟩:=hy
 exact sM (by omega) (by omega)
theorem Yj {x:Int} (hx:sm x):ak .neg [iV x]=some (iV (-x)):=by
 obtain ⟨a,b⟩:=hx
 have h:IntKind.i64.wrap (0 - x)=-x:=by rw [ij (by omega) (by omega)];omega
 simp only [ak,h]
theorem RD {H:Heap} {O:Own} {a b:Int} (ha:sm a) (hb:sm b):RetO PP Bz [iV a,iV b] H O (iV (a + b)):=by
 refine BG (vs:=[iV a,iV b]) (by kernel_rfl) ⟨rfl,rfl,trivial⟩ ?_
 simp only [wY]
 refine ab _ (Sr ha hb) ?_
 refine ab _ (bG _ _) ?_
 refine ae ?_
 refine ab _ (bG _ _) ?_
 refine ae ?_
 refine ab _ (aX _ _) ?_
 refine ae ?_
 refine ab _ (fJ _ _) ?_
 refine ae ?_
 refine ab _ (aX _ _) (aj (fun h=>?_) (fun h=>?_))
 ·exfalso
  have h:((decide (a > 0) && decide (b > 0)) && decide (a + b≤0))=true:=h
  simp only [Bool.and_eq_true,decide_eq_true_eq] at h
  omega
 refine ab _ (aJ _ _) ?_
 refine ae ?_
 refine ab _ (aJ _ _) ?_
 refine ae ?_
 refine ab _ (aX _ _) ?_
 refine ae ?_
 refine ab _ (di _ _) ?_
 refine ae ?_
 refine ab _ (aX _ _) (aj (fun h=>?_) (fun h=>?_))
 ·exfalso
  have h:((decide (a < 0) && decide (b < 0)) && decide (a + b ≥ 0))=true:=h
  simp only [Bool.and_eq_true,decide_eq_true_eq] at h
  omega
 exact ah ⟨rfl,rfl⟩
theorem jP {H:Heap} {O:Own} {a b:Int} (ha:sm a) (hb:sm b) (m:Int):RetO PP F2 [iV a,iV b,iV m] H O (iV (cu (a + b) m)):=by
 refine Ec (vs:=[iV a,iV b,iV m]) (by kernel_rfl) ⟨rfl,rfl,rfl,trivial⟩ ?_
 simp only [zI]
 refine ai (RD ha hb) rfl ⟨rfl,trivial⟩ fun H1 l1=>?_
 refine ai (LV (a + b) m) rfl ⟨rfl,trivial⟩ fun H2 l2=>?_
 exact ah ⟨rfl,rfl⟩
theorem NN {H:Heap} {O:Own} {a b:Int} (ha:sm a) (hb:sm b) (m:Int):RetO PP KQ [iV a,iV b,iV m] H O (iV (cu (a - b) m)):=by
 refine Lc (vs:=[iV a,iV b,iV m]) (by kernel_rfl) ⟨rfl,rfl,rfl,trivial⟩ ?_
 simp only [FO]
 refine ab _ (aA _ _) (aj (fun h=>?_) (fun h=>?_))
 ·exfalso
  have h:b=-9223372036854775808:=by simpa using h
  obtain ⟨c,d⟩:=hb
  omega
 refine ab _ (Yj hb) ?_
 refine ai (jP ha (show sm (-b) by obtain ⟨c,d⟩:=hb;constructor <;> omega) m) rfl ⟨rfl,trivial⟩ fun H1 l1=>?_
 rw [show a - b=a + -b by omega]
 exact ah ⟨rfl,rfl⟩
theorem IQ {H:Heap} {O:Own} {a b:Int} (ha:sm a) (hb:sm b):RetO PP tO [iV a,iV b] H O (iV (pQ a b)):=by
 refine vq (vs:=[iV a,iV b]) (by kernel_rfl) ⟨rfl,rfl,trivial⟩ ?_
 simp only [oh]
 obtain ⟨c,d⟩:=ha
 obtain ⟨e,f⟩:=hb
 refine ab _ (md _ _) (ab _ (md _ _) ?_)
 refine ai (jP (a:=max 0 a) (b:=max 0 b) (by constructor <;> omega) (by constructor <;> omega) 99) rfl ⟨rfl,trivial⟩ fun H1 l1=>?_
 refine ah ⟨?_,rfl⟩
 show iV (cu (max 0 a + max 0 b) 99)=iV (pQ a b)
 rw [cu,pQ]
 congr 1
 omega
def smO (o:Ob):Prop:=sm o.dmg∧sm o.cnt∧sm o.pp∧sm o.pt
theorem XG {H:Heap} {O:Own} {o:Ob} (ho:smO o) {n:Int} (hn:sm n):RetO PP Ci [.agg o.row.toArray,iV n] H O (.agg (Ob.row { o with dmg:=pQ o.dmg n }).toArray):=by
 refine Gh (vs:=o.row++[iV n]) (by kernel_rfl) (az (bD o) ⟨rfl,trivial⟩) ?_
 simp only [wh]
 refine af fun r0=>af fun r1=>?_
 refine aa ?_
 refine ai (IQ ho.1 hn) rfl ⟨rfl,trivial⟩ fun H1 l1=>?_
 refine aa (aa (aa (aa ?_)))
 exact ah ⟨rfl,rfl⟩
theorem T0 {H:Heap} {O:Own} {o:Ob} (ho:smO o) {n:Int} (hn:sm n):RetO PP xY [.agg o.row.toArray,iV n] H O (.agg (Ob.row { o with cnt:=pQ o.cnt n }).toArray):=by
 refine CP (vs:=o.row++[iV n]) (by kernel_rfl) (az (bD o) ⟨rfl,trivial⟩) ?_
 simp only [qL]
 refine af fun r0=>af fun r1=>?_
 refine aa ?_
 refine ai (IQ ho.2.1 hn) rfl ⟨rfl,trivial⟩ fun H1 l1=>?_
 refine aa (aa (aa (aa ?_)))
 exact ah ⟨rfl,rfl⟩
theorem W0 {H:Heap} {O:Own} {o:Ob} (ho:smO o) {n m:Int} (hn:sm n) (hm:sm m):RetO PP zW [.agg o.row.toArray,iV n,iV m] H O (.agg (Ob.row { o with pp:=pQ o.pp n,pt:=pQ o.pt m }).toArray):=by
 refine Eg (vs:=o.row++[iV n,iV m]) (by kernel_rfl) (az (bD o) ⟨rfl,rfl,trivial⟩) ?_
 simp only [tq]
 refine af fun r0=>af fun r1=>?_
 refine aa (aa ?_)
 refine ai (IQ ho.2.2.1 hn) rfl ⟨rfl,trivial⟩ fun H1 l1=>?_
 refine ai (IQ ho.2.2.2 hm) rfl ⟨rfl,trivial⟩ fun H2 l2=>?_
 refine aa (aa (aa (aa (aa ?_))))
 exact ah ⟨rfl,rfl⟩
theorem RL {H:Heap} {O:Own} {o:Ob} (ho:smO o) {e:Eff} (hn:sm e.n) (hm:sm e.m):RetO PP rP [.agg o.row.toArray,.agg e.row.toArray] H O (.agg (uT e o).row.toArray):=by
 refine yd (vs:=o.row++e.row) (by kernel_rfl) (az (bD o) (jX e)) ?_
 simp only [mi]
 refine af fun r0=>af fun r1=>af fun r2=>?_
 refine aa ?_
 refine ab _ (aA _ _) (aj (fun h=>?_) (fun h=>?_))
 ·refine aa (aa (aa (aa ?_)))
  refine ah ⟨?_,rfl⟩
  rw [uT,if_pos (by simpa using h)];rfl
 have n5:e.code ≠ 5:=by simpa using h
 refine ab _ (aA _ _) (aj (fun h=>?_) (fun h=>?_))
 ·refine aa (aa (aa (aa ?_)))
  refine ah ⟨?_,rfl⟩
  rw [uT,if_neg n5,if_pos (by simpa using h)];rfl
 have n11:e.code ≠ 11:=by simpa using h
 refine ab _ (aA _ _) (aj (fun h=>?_) (fun h=>?_))
 ·refine aa (aa (aa ?_))
  refine ai (W0 ho hn hm) rfl (vs:=Ob.row { o with pp:=pQ o.pp e.n,pt:=pQ o.pt e.m }) (bD _) fun H1 l1=>?_
  refine aa (aa ?_)
  refine ah ⟨?_,rfl⟩
  rw [uT,if_neg n5,if_neg n11,if_pos (by simpa using h)];rfl
 have n8:e.code ≠ 8:=by simpa using h
 refine ab _ (aA _ _) (aj (fun h=>?_) (fun h=>?_))
 ·refine aa (aa ?_)
  refine ai (T0 ho hn) rfl (vs:=Ob.row { o with cnt:=pQ o.cnt e.n }) (bD _) fun H1 l1=>?_
  refine aa (aa ?_)
  refine ah ⟨?_,rfl⟩
  rw [uT,if_neg n5,if_neg n11,if_neg n8,if_pos (by simpa using h)];rfl
 have n9:e.code ≠ 9:=by simpa using h
 refine aa (aa (aa ?_))
 refine ah ⟨?_,rfl⟩
 rw [uT,if_neg n5,if_neg n11,if_neg n8,if_neg n9];rfl
end Go.Proofs.YtdhobpmnkfmcfaaGreatDoor
namespace Go.Proofs.YtdhobpmnkfmcfaaGreatDoor
open Go Go.Sx
set_option maxRecDepth 100000
set_option maxHeartbeats 1000000
theorem Nr {t:TypeId} {v:Value}:∀ w,((PrimOp.eqv .neq 113 true).sem [.iface t v,.nilIface]).run PP w=.ok (.value (.bool true)) w:=fun w=>by kernel_rfl
theorem VA:∀ w,((PrimOp.eqv .neq 113 true).sem [.nilIface,.nilIface]).run PP w=.ok (.value (.bool false)) w:=fun w=>by kernel_rfl
theorem Tv (v:Value):Cc PP "zeitnot/effect.fits" (.iface 151 v) lM v:=⟨_,_,rfl,fun w=>by kernel_rfl⟩
theorem VE (v:Value):Cc PP "zeitnot/effect.fits" (.iface 154 v) iO v:=⟨_,_,rfl,fun w=>by kernel_rfl⟩
theorem VC (v:Value):Cc PP "zeitnot/effect.fits" (.iface 156 v) jG v:=⟨_,_,rfl,fun w=>by kernel_rfl⟩
theorem VD (v:Value):Cc PP "zeitnot/effect.fits" (.iface 158 v) gU v:=⟨_,_,rfl,fun w=>by kernel_rfl⟩
theorem Qg {H:Heap} {R:Rl} {r:Value} (h:W6 H R r):r.oneCell'=true:=by
 cases R with
 | no=>rw [show r=.nilIface from h];rfl
 | bare l=>obtain ⟨s,rfl,_⟩:=h;rfl
 | cnt l m=>obtain ⟨s,rfl,_⟩:=h;rfl
 | par l m=>obtain ⟨s,rfl,_⟩:=h;rfl
 | col l m=>obtain ⟨s,rfl,_⟩:=h;rfl
theorem Vr {c:Int} {l:List Int} {m:Int} (h:xw c=.par l m):0≤m:=by
 rw [xw] at h
 repeat' (split at h)
 all_goals first | (injection h with h1 h2;omega) | cases h
theorem HF (e:Eff) (H:Heap):RetO PP qS [.agg e.row.toArray] H [] (.bool (Hy e)):=by
 refine CQ (vs:=e.row) (by kernel_rfl) (jX e) ?_
 simp only [qN]
 refine af fun r0=>?_
 refine aa ?_
 refine ax (Yn e.code H) ?_
 rintro r H1 _ ⟨hr,rfl⟩ l1
 refine ⟨[r],rfl,⟨Qg hr,trivial⟩,?_⟩
 have hpp:=@Vr e.code
 rw [Hy]
 generalize xw e.code=R at hr hpp
 cases R with
 | no =>
  rw [show r=.nilIface from hr]
  refine ⟨_,fun _=>VA,rfl,aj (fun hd=>by cases hd) (fun _=>?_)⟩
  exact ah ⟨rfl,rfl⟩
 | bare l =>
  obtain ⟨s,rfl,hs⟩:=hr
  refine ⟨_,fun _=>Nr,rfl,aj (fun _=>?_) (fun hd=>by cases hd)⟩
  refine aa ?_
  exact zt (Tv s) (jS aB (by decide)) (Ba (hs.rsl []) e) rfl ⟨rfl,trivial⟩ fun H2 l2=>ah ⟨rfl,rfl⟩
 | cnt l m =>
  obtain ⟨s,rfl,hs⟩:=hr
  refine ⟨_,fun _=>Nr,rfl,aj (fun _=>?_) (fun hd=>by cases hd)⟩
  refine aa ?_
  exact zt (VE _) (jS aB (by decide)) (KA (hs.rsl []) m e) rfl ⟨rfl,trivial⟩ fun H2 l2=>ah ⟨rfl,rfl⟩
 | par l m =>
  obtain ⟨s,rfl,hs⟩:=hr
  refine ⟨_,fun _=>Nr,rfl,aj (fun _=>?_) (fun hd=>by cases hd)⟩
  refine aa ?_
  exact zt (VC _) (jS aB (by decide)) (RF (hs.rsl []) (hpp rfl) e) rfl ⟨rfl,trivial⟩ fun H2 l2=>ah ⟨rfl,rfl⟩
 | col l m =>
  obtain ⟨s,rfl,hs⟩:=hr
  refine ⟨_,fun _=>Nr,rfl,aj (fun _=>?_) (fun hd=>by cases hd)⟩
  refine aa ?_
  exact zt (VD _) (jS aB (by decide)) (RJ (hs.rsl []) m e) rfl ⟨rfl,trivial⟩ fun H2 l2=>ah ⟨rfl,rfl⟩
theorem Ym {H:Heap} {O:Own} {cv:Value} {cs:List CdX} (hk:CardsX H cv cs) {v:cP} {b:Bd} (h:BdR H O v b) {id:Int} (hid:i64 id):RetO PP Cf [cv,.agg (ap v b).toArray,iV id] H O (.bool (onB cs b id)):=by
 refine Gg (vs:=cv::(ap v b++[iV id])) (by kernel_rfl) ⟨hk.one,az (ao h) ⟨rfl,trivial⟩⟩ ?_
 simp only [wc]
 refine af fun r0=>?_
 refine aa ?_
 refine ai (UL h hid) rfl (vs:=(dA b id).row++[iV (be b id)]) (az (bD _) ⟨rfl,trivial⟩) fun H1 l1=>af fun r1=>?_
 refine aa ?_
 refine ab _ (aA _ _) (aj (fun hi=>?_) (fun hi=>?_))
 rotate_left
 ·refine ah ⟨?_,rfl⟩
  rw [onB,show (be b id == 0)=false from hi,Bool.false_and]
 have hi:(be b id == 0)=true:=hi
 have hb:(be b id != 0)=false:=by rw [bne,hi];rfl
 obtain ⟨hval,k,o,e1,e2,e3,e4⟩:=oP hb
 have hfo:=sH hb e1 e3
 have hown:=(eC (aY hval).1 e1).2.2.2
 rw [hfo]
 refine aa ?_
 refine ai (HG (hk.le l1).base.kinds o) rfl ⟨rfl,trivial⟩ fun H2 l2=>aj (fun hc=>?_) (fun hc=>?_)
 rotate_left
 ·refine ah ⟨?_,rfl⟩
  rw [onB,hi,Bool.true_and,hfo,show eN (VJ cs) o=false from hc,Bool.false_and]
 have h2:=h.le (Heap.le_trans l1 l2)
 have hr:onB cs b id=(au b o.owner).field.contains id:=by rw [onB,hi,Bool.true_and,hfo,show eN (VJ cs) o=true from hc,Bool.true_and]
 rw [hr]
 rcases hown with hown | hown
 ·rw [hown]
  refine aa ?_
  refine ⟨.i64,o.owner,rfl,fun _=>?_,fun e=>absurd hown e⟩
  refine aa ?_
  exact ai (ff h2.s0.field id) rfl ⟨rfl,trivial⟩ fun H3 l3=>ah ⟨rfl,rfl⟩
 ·rw [hown]
  refine aa ?_
  refine ⟨.i64,o.owner,rfl,fun e=>absurd e (by omega),fun _=>⟨.i64,o.owner,rfl,fun _=>?_,fun e=>absurd hown e⟩⟩
  refine aa ?_
  exact ai (ff h2.s1.field id) rfl ⟨rfl,trivial⟩ fun H3 l3=>ah ⟨rfl,rfl⟩
def RV (r:Nat) (e:Eff):BV:=⟨r,39,e.row⟩
theorem KE {r:Nat} {e:Eff} {H:Heap} {O:Own} (off m:Nat) (hm:off + m≤5):Reads H ((RV r e).obj::O) (.pointer (some ⟨r,off,none⟩)) m ((e.row.drop off).take m) :=
 .inr ⟨⟨r,off,none⟩,e.row.toArray,39,rfl,rfl,List.mem_cons_self,rfl,by simp [Eff.row];omega⟩
theorem WV {H:Heap} {o:Ob} (ho:smO o) {e:Eff} (hn:sm e.n) (r:Nat):RetO PP lL [.agg o.row.toArray,.pointer (some ⟨r,0,none⟩)] H [(RV r e).obj] (.agg (Ob.row { o with dmg:=pQ o.dmg e.n }).toArray):=by
 refine xf (vs:=o.row++[.pointer (some ⟨r,0,none⟩)]) (by kernel_rfl) (az (bD o) ⟨rfl,trivial⟩) ?_
 simp only [lr]
 refine af fun r0=>af fun r1=>?_
 refine aa (aC rfl ?_)
 refine ar (vs:=[iV e.n]) (KE 2 1 (by omega)) rfl ⟨rfl,trivial⟩ ?_
 refine ai (XG ho hn) rfl (vs:=Ob.row { o with dmg:=pQ o.dmg e.n }) (bD _) fun H1 l1=>?_
 refine aa (aa ?_)
 exact ah ⟨rfl,rfl⟩
theorem WU {H:Heap} {o:Ob} (ho:smO o) {e:Eff} (hn:sm e.n) (hm:sm e.m) (r:Nat):RetO PP qi [.agg o.row.toArray,.pointer (some ⟨r,0,none⟩)] H [(RV r e).obj] (.agg (uT e o).row.toArray):=by
 refine xe (vs:=o.row++[.pointer (some ⟨r,0,none⟩)]) (by kernel_rfl) (az (bD o) ⟨rfl,trivial⟩) ?_
 simp only [lp]
 refine af fun r0=>af fun r1=>?_
 refine aa ?_
 refine ar (vs:=e.row) (KE 0 5 (by omega)) rfl (jX e) ?_
 refine ai (RL ho hn hm) rfl (vs:=(uT e o).row) (bD _) fun H1 l1=>?_
 refine aa (aa ?_)
 exact ah ⟨rfl,rfl⟩
theorem NP {H:Heap} {v:cP} {b:Bd} (h:BdS H v b) (hB:bdB b) {id:Int} (hid:i64 id) {f:FuncId} {r:Nat} {e:Eff} {g:Ob→Ob} (hok:xr PP f)
  (hf:∀ H',RetO PP f [.agg (dA b id).row.toArray,.pointer (some ⟨r,0,none⟩)] H' [(RV r e).obj] (.agg (g (dA b id)).row.toArray)) (hg:i64 (g (dA b id)).id) (hz:(F7 b (g (dA b id))).2=0) :
  Triple PP t7 [.agg (ap v b).toArray,iV id,.func (.func f) #[] #[.pointer (some ⟨r,0,none⟩)]] H [(RV r e).obj] fun x _ O'=>∃ X,O'=(RV r e).obj::X∧∃ w,x=.agg (ap w (cX b id g)).toArray∧OwnB tys w (cX b id g) X:=by
 refine yZ (vs:=ap v b++[iV id,.func (.func f) #[] #[.pointer (some ⟨r,0,none⟩)]]) (by kernel_rfl) (az (ao (h.r [])) ⟨rfl,rfl,trivial⟩) ?_
 simp only [mY]
 refine af fun r0=>af fun r1=>?_
 refine aa ?_
 refine ai (UL (h.r _) hid) rfl (vs:=(dA b id).row++[iV (be b id)]) (az (bD _) ⟨rfl,trivial⟩) fun H1 l1=>af fun r2=>?_
 have h:=h.le l1
 refine aa (aa (aa ?_))
 refine iy rfl hok (hf H1) rfl (vs:=(g (dA b id)).row) (bD _) fun H2 l2=>?_
 have h:=h.le l2
 refine ax (XE h hB hg) ?_
 rintro _ H3 O3 ⟨w,rfl,ho⟩ l3
 refine ⟨ap w (F7 b (g (dA b id))).1++[iV (F7 b (g (dA b id))).2],rfl,az (bq H3 ho) ⟨rfl,trivial⟩,af fun r3=>?_⟩
 have ec:cX b id g=(F7 b (g (dA b id))).1:=by rw [cX,if_pos hz]
 rw [ec,hz]
 refine aa ?_
 refine ab _ (bf _ _) (aj (fun hd=>by cases hd) (fun _=>?_))
 refine aa (aa (aa ?_))
 intro hc
 exact ⟨H3,(RV r e).obj::O3,Ghost.perm (List.perm_append_comm (l₁:=O3) (l₂:=[(RV r e).obj])),O3,rfl,w,rfl,ho⟩
end Go.Proofs.YtdhobpmnkfmcfaaGreatDoor
namespace Go.Proofs.YtdhobpmnkfmcfaaGreatDoor
open Go Go.Sx
set_option maxRecDepth 100000
set_option maxHeartbeats 1000000
theorem HL (a b:Int):aw (pQ a b) 0 99=true:=by
 have h:0≤pQ a b∧pQ a b≤99:=by simp only [pQ];omega
 simp only [aw,decide_eq_true_eq];exact h
theorem D8 {b:Bd} (hv:ay b=true) (q:Int):ce (au b q)=true:=by
 simp only [ay,Bool.and_eq_true] at hv
 rw [au]
 split
 ·exact hv.2.2.2.2.2.1
 ·exact hv.2.2.2.2.2.2.1
theorem qW {b:Bd} (hv:ay b=true) (q:Int):0≤(au b q).life∧(au b q).life≤9999:=by
 have h:=D8 hv q
 simp only [ce,Bool.and_eq_true,aw,decide_eq_true_eq] at h
 exact h.1
theorem dO {b:Bd} (hv:ay b=true) (q:Int):sm (au b q).p0∧sm (au b q).p1∧sm (au b q).p2∧sm (au b q).p3:=by
 have h:=D8 hv q
 simp only [ce,Bool.and_eq_true,aw,decide_eq_true_eq,List.all_cons,List.all_nil] at h
 obtain ⟨_,⟨⟨a1,a2⟩,⟨a3,a4⟩,⟨a5,a6⟩,⟨a7,a8⟩,_⟩,_⟩:=h
 refine ⟨?_,?_,?_,?_⟩ <;> constructor <;> omega
theorem ox {o:Ob} (h:bc o=true):smO o:=by
 simp only [bc,Bool.and_eq_true,List.all_cons,List.all_nil,aw,decide_eq_true_eq] at h
 obtain ⟨⟨⟨_,_,a,b,c,d,_⟩,_⟩,_⟩:=h
 refine ⟨?_,?_,?_,?_⟩ <;> constructor <;> omega
theorem fu {b:Bd} {id:Int} (hi:be b id=0):∃ k,b.objs[k]?=some (dA b id)∧(dA b id).id=id∧eX b id=(k:Nat)∧bc (dA b id)=true∧((dA b id).owner=0∨(dA b id).owner=1):=by
 have hb:(be b id != 0)=false:=by rw [hi];rfl
 obtain ⟨hval,k,o,e1,e2,e3,_⟩:=oP hb
 have hfo:=sH hb e1 e3
 obtain ⟨h1,_,_,h4⟩:=eC (aY hval).1 e1
 rw [hfo]
 exact ⟨k,e1,e2,e3,h1,h4⟩
theorem Qb {b:Bd} {id:Int} (hi:be b id=0) {o:Ob} (h1:o.id=id) (h2:o.card=(dA b id).card) (h3:o.owner=(dA b id).owner) (hvo:bc o=true):F7 b o=(dw b (eX b id).toNat o,0):=by
 rw [F7,if_pos hvo,h1,if_neg (by rw [hi];simp),if_neg (by rw [h2,h3];simp)]
theorem mE (e:Eff) (o:Ob):(uT e o).id=o.id∧(uT e o).card=o.card∧(uT e o).owner=o.owner:=by
 simp only [uT]
 repeat' split
 all_goals exact ⟨rfl,rfl,rfl⟩
theorem mD {e:Eff} {o:Ob} (h:bc o=true):bc (uT e o)=true:=by
 have ha:=HL
 simp only [bc,Bool.and_eq_true,List.all_cons,List.all_nil] at h ⊢
 simp only [uT]
 obtain ⟨⟨⟨a,b,c,d,f,g,k⟩,q⟩,r⟩:=h
 repeat' split
 all_goals first
  | exact ⟨⟨⟨a,b,c,d,f,g,k⟩,q⟩,r⟩
  | exact ⟨⟨⟨a,b,c,d,ha _ _,ha _ _,k⟩,q⟩,r⟩
  | exact ⟨⟨⟨a,b,c,ha _ _,f,g,k⟩,q⟩,r⟩
theorem Fh {o:Ob} (h:bc o=true) (n:Int):bc { o with dmg:=pQ o.dmg n }=true:=by
 have ha:=HL
 simp only [bc,Bool.and_eq_true,List.all_cons,List.all_nil] at h ⊢
 obtain ⟨⟨⟨a,b,c,d,f,g,k⟩,q⟩,r⟩:=h
 exact ⟨⟨⟨a,b,ha _ _,d,f,g,k⟩,q⟩,r⟩
theorem oc {e:Eff} (h:Hy e=true):0≤e.n∧e.n≤99∧0≤e.m∧e.m≤99∧0≤e.colour∧e.colour≤3:=by
 have hB:∀ {l:List Int} {e:Eff},UF l e=true→e.n=0∧e.m=0∧e.colour=0:=fun h=>by
  simp only [UF,Bool.and_eq_true,beq_iff_eq] at h
  exact ⟨h.1.1.2,h.1.2,h.2⟩
 have hC:∀ {l:List Int} {k:Int} {e:Eff},k≤99→TN l k e=true→0≤e.n∧e.n≤99∧e.m=0∧e.colour=0:=fun hk h=>by
  simp only [TN,inR,Bool.and_eq_true,beq_iff_eq,decide_eq_true_eq] at h
  obtain ⟨_,h2,h3⟩:=hB h.2
  exact ⟨by omega,by omega,h2,h3⟩
 rw [Hy] at h
 have hR:∀ {R:Rl},(match R with | .cnt _ m=>m≤99 | .col _ m=>m≤99 | .par _ m=>0≤m | _=>True)→R.fits e=true→0≤e.n∧e.n≤99∧0≤e.m∧e.m≤99∧0≤e.colour∧e.colour≤3:=by
  intro R hm h
  cases R with
  | no=>cases h
  | bare l=>obtain ⟨a,b,c⟩:=hB h;omega
  | cnt l m=>obtain ⟨a,b,c,d⟩:=hC hm h;omega
  | par l m =>
   have h:TM l m e=true:=h
   have hm:0≤m:=hm
   simp only [TM,inR,Bool.and_eq_true,beq_iff_eq,decide_eq_true_eq] at h
   have h3:e.colour=0:=(hB h.2).2.2
   omega
  | col l m =>
   have h:UE l m e=true:=h
   simp only [UE,inR,Bool.and_eq_true,beq_iff_eq,decide_eq_true_eq] at h
   obtain ⟨a,b,c,_⟩:=hC hm h.2
   have a:0≤e.n:=a
   have b:e.n≤99:=b
   have c:e.m=0:=c
   omega
 refine hR ?_ h
 rw [xw]
 repeat' split
 all_goals first | trivial | (rename_i hh;revert hh;repeat' split) 
 all_goals first | (intro hh;cases hh;omega) | (intro hh;injection hh;omega) | (intro hh;cases hh) | trivial
end Go.Proofs.YtdhobpmnkfmcfaaGreatDoor
namespace Go.Proofs.YtdhobpmnkfmcfaaGreatDoor
open Go Go.Sx
set_option maxRecDepth 100000
set_option maxHeartbeats 1000000
theorem dP {P:Program} {f:FuncId} {args:List Value} {H:Heap} {O:Own} {tt:Tys} {w:cP} {b:Bd} {R:Value→Heap→Own→Prop} {shp:Shp} {K:List Value→List (List Value)→Heap→Own→Prop}
  (ho:OwnB tt w b O) (h:∀ Hf,Heap.le H Hf→BdS Hf w b→Triple P f args Hf [] R) (hk:∀ v H' O1,R v H' O1→Heap.le H H'→∃ vs,shp.open v=some vs∧Ones vs∧K vs [] H' O1) :
  dN (fun H1 O1 R=>Triple P f args H1 O1 R) false [] [] shp K H O:=by
 intro hc
 obtain ⟨Hf,g,k,lf⟩:=ho.freeze (X:=[]) (by simpa using hc)
 refine ⟨Hf,[],[],R,(by rw [List.append_nil] at g;exact g:Ghost H O Hf []),h Hf lf k,fun v H' O' hr hle=>?_⟩
 obtain ⟨vs,h1,h2,h3⟩:=hk v H' O' hr (Heap.le_trans lf hle)
 exact ⟨vs,[],O',h1,h2,trivial,rfl,by rw [List.append_nil];exact h3⟩
theorem HC {P:Program} {f:FuncId} {args:List Value} {H:Heap} {O:Own} {tt:Tys} {w:cP} {b:Bd} {R:Value→Heap→Own→Prop} {bv:BV} (hbv:Ones bv.vs) {shp:Shp} {K:List Value→List (List Value)→Heap→Own→Prop}
  (ho:OwnB tt w b O) (h:∀ Hf,Heap.le H Hf→BdS Hf w b→Triple P f args Hf [bv.obj] fun r H' O'=>∃ X,O'=bv.obj::X∧R r H' X) (hk:∀ v H' O1,R v H' O1→Heap.le H H'→∃ vs,shp.open v=some vs∧Ones vs∧K vs [bv.vs] H' O1) :
  dN (fun H1 O1 R=>Triple P f args H1 O1 R) false [] [bv] shp K H O:=by
 intro hc
 have hc:Cons H ([bv.obj]++O):=hc
 have hcO:Cons H (O++[]):=by
  obtain ⟨w0,F,hm⟩:=hc
  exact ⟨w0,F,hm.sub (by rw [List.append_nil];exact (List.sublist_append_right [bv.obj] O).append_right F)⟩
 obtain ⟨Hf,g,k,lf⟩:=ho.freeze (X:=[]) hcO
 refine ⟨Hf,[],[],_,(by rw [List.append_nil] at g;exact g:Ghost H O Hf []),h Hf lf k,?_⟩
 rintro v H' O' ⟨X,rfl,hr⟩ hle
 obtain ⟨vs,h1,h2,h3⟩:=hk v H' X hr (Heap.le_trans lf hle)
 exact ⟨vs,[bv.vs],X,h1,h2,⟨rfl,hbv,trivial⟩,rfl,by rw [List.append_nil];exact h3⟩
theorem cC {v:cP} {b:Bd} {O:Own} (ho:OwnB tys v b O) {q:Int} {s:St} (h1:s.lib=(au b q).lib) (h2:s.hand=(au b q).hand) (h3:s.field=(au b q).field) (h4:s.grave=(au b q).grave):OwnB tys v (bH b q s) O:=by
 obtain ⟨Oo,A0,B0,C0,D0,A1,B1,C1,D1,Os,Oq,Oa,Obk,hp,h⟩:=ho
 refine ⟨Oo,A0,B0,C0,D0,A1,B1,C1,D1,Os,Oq,Oa,Obk,hp,?_⟩
 by_cases hq:q=0
 ·rw [au,if_pos hq] at h1 h2 h3 h4
  rw [bH,if_pos hq]
  exact ⟨h.objs,by rw [h1];exact h.l0,by rw [h2];exact h.h0,by rw [h3];exact h.f0,by rw [h4];exact h.g0,h.l1,h.h1,h.f1,h.g1,h.stack,h.queue,h.att,h.blocks⟩
 ·rw [au,if_neg hq] at h1 h2 h3 h4
  rw [bH,if_neg hq]
  exact ⟨h.objs,h.l0,h.h0,h.f0,h.g0,by rw [h1];exact h.l1,by rw [h2];exact h.h1,by rw [h3];exact h.f1,by rw [h4];exact h.g1,h.stack,h.queue,h.att,h.blocks⟩
def UP (x:Bd) (r:Value) (_:Heap) (O':Own):Prop:=∃ w,r=.agg (ap w x).toArray∧OwnB tys w x O'
theorem J5 {H:Heap} {O:Own} {cv:Value} {v:cP} {b:Bd} (ho:OwnB tys v b O) (hv:ay b=true) {p src most:Int} {e:Eff} {t:Tg} (hev:Hy e=true) {l:List Value} (hl:l=(cv::(ap v b++(iV p::iV src::(e.row++(t.row++[iV most])))))) {ra rb rc:Nat} :
  (gY ra rb l rc).den PP (UP (nV b 0 (cu ((au b 0).life - e.n) 9999))) H O:=by
 obtain ⟨n0,n99,m0,m99,c0,c3⟩:=oc hev
 simp only [gY]
 subst hl
 refine aa (aa ?_)
 refine ai (NN (a:=(au b 0).life) (b:=e.n) (by have:=qW hv 0;constructor <;> omega) (by constructor <;> omega) 9999) rfl ⟨rfl,trivial⟩ fun H1 l1=>?_
 refine aa (aa (aa (aa ?_)))
 exact ah ⟨v,rfl,cC ho rfl rfl rfl rfl⟩
theorem J4 {H:Heap} {O:Own} {cv:Value} {v:cP} {b:Bd} (ho:OwnB tys v b O) (hv:ay b=true) {p src most:Int} {e:Eff} {t:Tg} (hev:Hy e=true) {l:List Value} (hl:l=(cv::(ap v b++(iV p::iV src::(e.row++(t.row++[iV most])))))) {ra rb rc:Nat} :
  (fY ra rb l rc).den PP (UP (nV b 1 (cu ((au b 1).life - e.n) 9999))) H O:=by
 obtain ⟨n0,n99,m0,m99,c0,c3⟩:=oc hev
 simp only [fY]
 subst hl
 refine aa (aa ?_)
 refine ai (NN (a:=(au b 1).life) (b:=e.n) (by have:=qW hv 1;constructor <;> omega) (by constructor <;> omega) 9999) rfl ⟨rfl,trivial⟩ fun H1 l1=>?_
 refine aa (aa (aa (aa ?_)))
 exact ah ⟨v,rfl,cC ho rfl rfl rfl rfl⟩
theorem Q7 {H:Heap} {O:Own} {cv:Value} {v:cP} {b:Bd} (ho:OwnB tys v b O) (hB:bdB b) {p src most:Int} {e:Eff} {t:Tg} (hev:Hy e=true) {l:List Value} (hl:l=(cv::(ap v b++(iV p::iV src::(e.row++(t.row++[iV most])))))) {ra rb rc m:Nat} {id:Int} (qm:g l m=iV id) (hid:i64 id) (hi:be b id=0) :
  (hU ra l m rb rc).den PP (UP (cX b id fun o=>{ o with dmg:=pQ o.dmg e.n })) H O:=by
 obtain ⟨n0,n99,m0,m99,c0,c3⟩:=oc hev
 obtain ⟨k,f1,f2,f3,f4,f5⟩:=fu hi
 have q5:G5 l 41=e.row:=by rw [hl];rfl
 have q38:ag (G38 l 1)=.agg (ap v b).toArray:=by rw [hl];rfl
 simp only [hU]
 rw [qm,q5,q38]
 generalize hg:(fun o:Ob=>{ o with dmg:=pQ o.dmg e.n })=gg
 have g1:∀ o,(gg o).id=o.id∧(gg o).card=o.card∧(gg o).owner=o.owner:=fun o=>by rw [← hg];exact ⟨rfl,rfl,rfl⟩
 have g2:bc (gg (dA b id))=true:=by rw [← hg];exact Fh f4 _
 have g3:∀ H',RetO PP lL [.agg (dA b id).row.toArray,.pointer (some ⟨rb,0,none⟩)] H' [(RV rb e).obj] (.agg (gg (dA b id)).row.toArray):=fun H'=>by
  rw [← hg];exact WV (ox f4) (by constructor <;> omega) rb
 clear hg
 refine aa ?_
 refine HC (bv:=RV rb e) (R:=fun r _ X=>∃ w,r=.agg (ap w (cX b id gg)).toArray∧OwnB tys w (cX b id gg) X) (jX e) ho (fun Hf lf hf=>NP hf hB hid (jS aB (by decide)) g3 (by rw [(g1 _).1,f2];exact hid) (by rw [Qb hi ((g1 _).1.trans f2) (g1 _).2.1 (g1 _).2.2 g2])) ?_
 rintro _ H2 O2 ⟨w2,rfl,h2⟩ l2
 refine ⟨ap w2 _,rfl,bq H2 h2,?_⟩
 refine aa (aa ?_)
 exact ah ⟨w2,rfl,h2⟩
theorem Rb {H:Heap} {O:Own} {cv:Value} {cs:List CdX} (hk:CardsX H cv cs) {v:cP} {b:Bd} (ho:OwnB tys v b O) (hB:bdB b) {p src most:Int} {e:Eff} {t:Tg} (hev:Hy e=true) {l:List Value} (hl:l=(cv::(ap v b++(iV p::iV src::(e.row++(t.row++[iV most])))))) {ra rb rc m:Nat} {id:Int} (qm:g l m=iV id) (hid:i64 id) :
  (hZ ra l m rc rb).den PP (UP (if onB cs b id=true then cX b id (uT e) else b)) H O:=by
 obtain ⟨n0,n99,m0,m99,c0,c3⟩:=oc hev
 have q5:G5 l 41=e.row:=by rw [hl];rfl
 have q38:ag (G38 l 1)=.agg (ap v b).toArray:=by rw [hl];rfl
 have q0:g l 0=cv:=by rw [hl];rfl
 simp only [hZ]
 rw [qm,q5,q38,q0]
 refine aa ?_
 refine ai (Ym hk (ho.r (fun p hp=>hp) H) hid) rfl ⟨rfl,trivial⟩ fun H1 l1=>?_
 refine ab _ (aN _) (aj (fun h=>?_) (fun h=>?_))
 ·have h:onB cs b id=false:=wR h
  rw [if_neg (by rw [h];simp)]
  refine aa (aa (aa ?_))
  exact ah ⟨v,rfl,ho⟩
 have h:onB cs b id=true:=rx h
 rw [if_pos h]
 have hi:be b id=0:=by
  rw [onB,Bool.and_eq_true] at h
  simpa using h.1
 obtain ⟨k,f1,f2,f3,f4,f5⟩:=fu hi
 obtain ⟨a1,a2,a3⟩:=mE e (dA b id)
 refine aa ?_
 refine HC (bv:=RV rb e) (R:=fun r _ X=>∃ w,r=.agg (ap w (cX b id (uT e))).toArray∧OwnB tys w (cX b id (uT e)) X) (jX e) ho (fun Hf lf hf=>NP hf hB hid (jS aB (by decide)) (fun H'=>WU (ox f4) (by constructor <;> omega) (by constructor <;> omega) rb) (by rw [a1,f2];exact hid) (by rw [Qb hi (a1.trans f2) a2 a3 (mD f4)])) ?_
 rintro _ H2 O2 ⟨w2,rfl,h2⟩ l2
 refine ⟨ap w2 _,rfl,bq H2 h2,?_⟩
 refine aa (aa ?_)
 exact ah ⟨w2,rfl,h2⟩
section
variable {H:Heap} {O:Own} {cv:Value} {cs:List CdX} (hgl:GlobOk AT H) (hk:CardsX H cv cs) {v:cP} {b:Bd} (ho:OwnB tys v b O) (hv:ay b=true) (hB:bdB b) {p src most:Int} {e:Eff} {t:Tg} (hev:Hy e=true) {l:List Value} (hl:l=(cv::(ap v b++(iV p::iV src::(e.row++(t.row++[iV most]))))))
 {r1 r0 r3 n m:Nat} {who id:Int}
include hgl hk ho hv hB hev hl
theorem Q9 (hw:who=0) (qn:g l n=iV who) (qm:g l m=iV id) (hid:i64 id) (hD:e.code=1→id > 0→be b id=0) :
  (dd l n r1 m r0 r3).den PP (UP (aL cs b p who id e most)) H O:=by
 obtain ⟨n0,n99,m0,m99,c0,c3⟩:=oc hev
 have nsm:sm e.n:=by constructor <;> omega
 have msm:sm e.m:=by constructor <;> omega
 have lsm:sm (au b 0).life:=by have:=qW hv 0;constructor <;> omega
 have q41:g l 41=iV e.code:=by rw [hl];rfl
 simp only [dd]
 refine ⟨.i64,who,qn,fun _=>?_,fun h=>absurd hw h⟩
 subst hw
 refine aa ?_
 rw [q41,qm]
 refine ab _ (aA _ _) (aj (fun h=>?_) (fun h=>?_))
 ·have hc:e.code=1:=by simpa using h
  refine ab _ (bG _ _) (aj (fun hp=>?_) (fun hp=>?_))
  ·have hp:id > 0:=of_decide_eq_true hp
   have ec:aL cs b p 0 id e most=cX b id fun o=>{ o with dmg:=pQ o.dmg e.n }:=by rw [aL,if_pos hc,if_pos hp]
   rw [ec]
   exact Q7 ho hB hev hl qm hid (hD hc hp)
  ·have ec:aL cs b p 0 id e most=nV b 0 (cu ((au b 0).life - e.n) 9999):=by rw [aL,if_pos hc,if_neg (of_decide_eq_false hp)]
   rw [ec]
   exact J5 ho hv hev hl
 have k1:e.code ≠ 1:=by simpa using h
 refine ab _ (aA _ _) (aj (fun h=>?_) (fun h=>?_))
 ·have hc:e.code=2:=by simpa using h
  have ec:aL cs b p 0 id e most=(rG b 0 e.n).1:=by rw [aL,if_neg k1,if_pos hc]
  rw [ec]
  simp only [hN]
  rw [qn]
  subst hl
  refine aa (aa ?_)
  refine dP ho (fun Hf lf hf=>UM hf hB 0 e.n (by omega)) ?_
  rintro _ H2 O2 ⟨w2,rfl,h2⟩ l2
  refine ⟨ap w2 (rG b 0 e.n).1++[iV (rG b 0 e.n).2],rfl,az (bq H2 h2) ⟨rfl,trivial⟩,?_⟩
  refine aa (aa (aa (aa ?_)))
  exact ah ⟨w2,rfl,h2⟩
 have k2:e.code ≠ 2:=by simpa using h
 refine ab _ (aA _ _) (aj (fun h=>?_) (fun h=>?_))
 ·have hc:e.code=3:=by simpa using h
  have ec:aL cs b p 0 id e most=nV b 0 (cu ((au b 0).life + e.n) 9999):=by rw [aL,if_neg k1,if_neg k2,if_pos hc]
  rw [ec]
  subst hl
  refine aa (aa ?_)
  refine ai (jP lsm nsm 9999) rfl ⟨rfl,trivial⟩ fun H1 l1=>?_
  refine aa (aa (aa (aa ?_)))
  exact ah ⟨v,rfl,cC ho rfl rfl rfl rfl⟩
 have k3:e.code ≠ 3:=by simpa using h
 refine ab _ (aA _ _) (aj (fun h=>?_) (fun h=>?_))
 ·have hc:e.code=4:=by simpa using h
  have ec:aL cs b p 0 id e most=nV b 0 (cu ((au b 0).life - e.n) 9999):=by rw [aL,if_neg k1,if_neg k2,if_neg k3,if_pos hc]
  rw [ec]
  exact J5 ho hv hev hl
 have k4:e.code ≠ 4:=by simpa using h
 refine ab _ (aA _ _) (aj (fun h=>?_) (fun h=>?_))
 ·have hc:e.code=6:=by simpa using h
  have ec:aL cs b p 0 id e most=(fE b id 1).1:=by rw [aL,if_neg k1,if_neg k2,if_neg k3,if_neg k4,if_pos hc]
  rw [ec]
  simp only [hJ]
  rw [qm]
  subst hl
  refine aa ?_
  refine dP ho (fun Hf lf hf=>NQ hf hB hid 1) ?_
  rintro _ H2 O2 ⟨w2,rfl,h2⟩ l2
  refine ⟨ap w2 (fE b id 1).1++[iV (fE b id 1).2],rfl,az (bq H2 h2) ⟨rfl,trivial⟩,?_⟩
  refine aa (aa (aa (aa ?_)))
  exact ah ⟨w2,rfl,h2⟩
 have k6:e.code ≠ 6:=by simpa using h
 refine ab _ (aA _ _) (aj (fun h=>?_) (fun h=>?_))
 ·have hc:e.code=7:=by simpa using h
  have ec:aL cs b p 0 id e most=(bK b id).1:=by rw [aL,if_neg k1,if_neg k2,if_neg k3,if_neg k4,if_neg k6,if_pos hc]
  rw [ec]
  simp only [gZ]
  rw [qm]
  subst hl
  refine aa ?_
  refine dP ho (fun Hf lf hf=>KC hf hB hid) ?_
  rintro _ H2 O2 ⟨w2,rfl,h2⟩ l2
  refine ⟨ap w2 (bK b id).1++[iV (bK b id).2],rfl,az (bq H2 h2) ⟨rfl,trivial⟩,?_⟩
  refine aa (aa (aa (aa ?_)))
  exact ah ⟨w2,rfl,h2⟩
 have k7:e.code ≠ 7:=by simpa using h
 refine ab _ (aA _ _) (aj (fun h=>?_) (fun h=>?_))
 ·have hc:e.code=10:=by simpa using h
  have ec:aL cs b p 0 id e most=(Aj b p e.n e.m most).1:=by rw [aL,if_neg k1,if_neg k2,if_neg k3,if_neg k4,if_neg k6,if_neg k7,if_pos hc]
  rw [ec]
  simp only [hY]
  subst hl
  refine aa (aa (aa ?_))
  refine dP ho (fun Hf lf hf=>RQ (hgl.le lf) hf hB (p:=p) (pw:=e.n) (tn:=e.m) (most:=most) (by omega) (by omega)) ?_
  rintro _ H2 O2 ⟨w2,OB,X,hp2,rfl,h2⟩ l2
  refine ⟨ap w2 (Aj b p e.n e.m most).1++[iV (Aj b p e.n e.m most).2.1,iV (Aj b p e.n e.m most).2.2],rfl,az (bq H2 h2) ⟨rfl,rfl,trivial⟩,?_⟩
  refine aa (aa (aa (aa ?_)))
  exact AC hp2 ⟨w2,rfl,h2⟩
 have k10:e.code ≠ 10:=by simpa using h
 refine ab _ (aA _ _) (aj (fun h=>?_) (fun h=>?_))
 ·have hc:e.code=12:=by simpa using h
  have ec:aL cs b p 0 id e most=bH b 0 (fL (au b 0) e.colour e.n):=by rw [aL,if_neg k1,if_neg k2,if_neg k3,if_neg k4,if_neg k6,if_neg k7,if_neg k10,if_pos hc]
  rw [ec]
  subst hl
  refine aa (aa ?_)
  obtain hc | hc | hc | hc:e.colour=0∨e.colour=1∨e.colour=2∨e.colour=3:=by omega
  ·refine ⟨.i64,e.colour,rfl,fun _=>?_,fun h=>absurd hc h⟩
   refine aa (aa ?_)
   refine ai (jP (dO hv 0).1 nsm 99) rfl ⟨rfl,trivial⟩ fun H1 l1=>?_
   simp only [aW]
   refine ⟨.i64,e.colour,rfl,fun _=>?_,fun h=>absurd hc h⟩
   refine aa (aa (aa (aa ?_)))
   refine ah ⟨v,?_,?_⟩
   ·rw [fL,if_pos hc];rfl
   ·rw [fL,if_pos hc];exact cC ho rfl rfl rfl rfl
  ·refine ⟨.i64,e.colour,rfl,fun h=>absurd (hc.symm.trans h) (by omega),fun _=>⟨.i64,e.colour,rfl,fun _=>?_,fun h=>absurd hc h⟩⟩
   refine aa (aa ?_)
   refine ai (jP (dO hv 0).2.1 nsm 99) rfl ⟨rfl,trivial⟩ fun H1 l1=>?_
   simp only [aW]
   refine ⟨.i64,e.colour,rfl,fun h=>absurd (hc.symm.trans h) (by omega),fun _=>⟨.i64,e.colour,rfl,fun _=>?_,fun h=>absurd hc h⟩⟩
   refine aa (aa (aa (aa ?_)))
   refine ah ⟨v,?_,?_⟩
   ·rw [fL,if_neg (by omega),if_pos hc];rfl
   ·rw [fL,if_neg (by omega),if_pos hc];exact cC ho rfl rfl rfl rfl
  ·refine ⟨.i64,e.colour,rfl,fun h=>absurd (hc.symm.trans h) (by omega),fun _=>⟨.i64,e.colour,rfl,fun h=>absurd (hc.symm.trans h) (by omega),fun _=>⟨.i64,e.colour,rfl,fun _=>?_,fun h=>absurd hc h⟩⟩⟩
   refine aa (aa ?_)
   refine ai (jP (dO hv 0).2.2.1 nsm 99) rfl ⟨rfl,trivial⟩ fun H1 l1=>?_
   simp only [aW]
   refine ⟨.i64,e.colour,rfl,fun h=>absurd (hc.symm.trans h) (by omega),fun _=>⟨.i64,e.colour,rfl,fun h=>absurd (hc.symm.trans h) (by omega),fun _=>⟨.i64,e.colour,rfl,fun _=>?_,fun h=>absurd hc h⟩⟩⟩
   refine aa (aa (aa (aa ?_)))
   refine ah ⟨v,?_,?_⟩
   ·rw [fL,if_neg (by omega),if_neg (by omega),if_pos hc];rfl
   ·rw [fL,if_neg (by omega),if_neg (by omega),if_pos hc];exact cC ho rfl rfl rfl rfl
  ·refine ⟨.i64,e.colour,rfl,fun h=>absurd (hc.symm.trans h) (by omega),fun _=>⟨.i64,e.colour,rfl,fun h=>absurd (hc.symm.trans h) (by omega),fun _=>⟨.i64,e.colour,rfl,fun h=>absurd (hc.symm.trans h) (by omega),fun _=>⟨.i64,e.colour,rfl,fun _=>?_,fun h=>absurd hc h⟩⟩⟩⟩
   refine aa (aa ?_)
   refine ai (jP (dO hv 0).2.2.2 nsm 99) rfl ⟨rfl,trivial⟩ fun H1 l1=>?_
   simp only [aW]
   refine ⟨.i64,e.colour,rfl,fun h=>absurd (hc.symm.trans h) (by omega),fun _=>⟨.i64,e.colour,rfl,fun h=>absurd (hc.symm.trans h) (by omega),fun _=>⟨.i64,e.colour,rfl,fun h=>absurd (hc.symm.trans h) (by omega),fun _=>⟨.i64,e.colour,rfl,fun _=>?_,fun h=>absurd hc h⟩⟩⟩⟩
   refine aa (aa (aa (aa ?_)))
   refine ah ⟨v,?_,?_⟩
   ·rw [fL,if_neg (by omega),if_neg (by omega),if_neg (by omega)];rfl
   ·rw [fL,if_neg (by omega),if_neg (by omega),if_neg (by omega)];exact cC ho rfl rfl rfl rfl
 have k12:e.code ≠ 12:=by simpa using h
 have ec:aL cs b p 0 id e most=if onB cs b id=true then cX b id (uT e) else b:=by rw [aL,if_neg k1,if_neg k2,if_neg k3,if_neg k4,if_neg k6,if_neg k7,if_neg k10,if_neg k12]
 rw [ec]
 exact Rb hk ho hB hev hl qm hid
include hgl hk ho hv hB hev hl
theorem Q8 (hw:who=1) (qn:g l n=iV who) (qm:g l m=iV id) (hid:i64 id) (hD:e.code=1→id > 0→be b id=0) :
  (dd l n r1 m r0 r3).den PP (UP (aL cs b p who id e most)) H O:=by
 obtain ⟨n0,n99,m0,m99,c0,c3⟩:=oc hev
 have nsm:sm e.n:=by constructor <;> omega
 have msm:sm e.m:=by constructor <;> omega
 have lsm:sm (au b 1).life:=by have:=qW hv 1;constructor <;> omega
 have q41:g l 41=iV e.code:=by rw [hl];rfl
 simp only [dd]
 refine ⟨.i64,who,qn,fun h=>absurd (hw.symm.trans h) (by omega),fun _=>⟨.i64,who,qn,fun _=>?_,fun h=>absurd hw h⟩⟩
 subst hw
 refine aa ?_
 rw [q41,qm]
 refine ab _ (aA _ _) (aj (fun h=>?_) (fun h=>?_))
 ·have hc:e.code=1:=by simpa using h
  refine ab _ (bG _ _) (aj (fun hp=>?_) (fun hp=>?_))
  ·have hp:id > 0:=of_decide_eq_true hp
   have ec:aL cs b p 1 id e most=cX b id fun o=>{ o with dmg:=pQ o.dmg e.n }:=by rw [aL,if_pos hc,if_pos hp]
   rw [ec]
   exact Q7 ho hB hev hl qm hid (hD hc hp)
  ·have ec:aL cs b p 1 id e most=nV b 1 (cu ((au b 1).life - e.n) 9999):=by rw [aL,if_pos hc,if_neg (of_decide_eq_false hp)]
   rw [ec]
   exact J4 ho hv hev hl
 have k1:e.code ≠ 1:=by simpa using h
 refine ab _ (aA _ _) (aj (fun h=>?_) (fun h=>?_))
 ·have hc:e.code=2:=by simpa using h
  have ec:aL cs b p 1 id e most=(rG b 1 e.n).1:=by rw [aL,if_neg k1,if_pos hc]
  rw [ec]
  simp only [hN]
  rw [qn]
  subst hl
  refine aa (aa ?_)
  refine dP ho (fun Hf lf hf=>UM hf hB 1 e.n (by omega)) ?_
  rintro _ H2 O2 ⟨w2,rfl,h2⟩ l2
  refine ⟨ap w2 (rG b 1 e.n).1++[iV (rG b 1 e.n).2],rfl,az (bq H2 h2) ⟨rfl,trivial⟩,?_⟩
  refine aa (aa (aa (aa ?_)))
  exact ah ⟨w2,rfl,h2⟩
 have k2:e.code ≠ 2:=by simpa using h
 refine ab _ (aA _ _) (aj (fun h=>?_) (fun h=>?_))
 ·have hc:e.code=3:=by simpa using h
  have ec:aL cs b p 1 id e most=nV b 1 (cu ((au b 1).life + e.n) 9999):=by rw [aL,if_neg k1,if_neg k2,if_pos hc]
  rw [ec]
  subst hl
  refine aa (aa ?_)
  refine ai (jP lsm nsm 9999) rfl ⟨rfl,trivial⟩ fun H1 l1=>?_
  refine aa (aa (aa (aa ?_)))
  exact ah ⟨v,rfl,cC ho rfl rfl rfl rfl⟩
 have k3:e.code ≠ 3:=by simpa using h
 refine ab _ (aA _ _) (aj (fun h=>?_) (fun h=>?_))
 ·have hc:e.code=4:=by simpa using h
  have ec:aL cs b p 1 id e most=nV b 1 (cu ((au b 1).life - e.n) 9999):=by rw [aL,if_neg k1,if_neg k2,if_neg k3,if_pos hc]
  rw [ec]
  exact J4 ho hv hev hl
 have k4:e.code ≠ 4:=by simpa using h
 refine ab _ (aA _ _) (aj (fun h=>?_) (fun h=>?_))
 ·have hc:e.code=6:=by simpa using h
  have ec:aL cs b p 1 id e most=(fE b id 1).1:=by rw [aL,if_neg k1,if_neg k2,if_neg k3,if_neg k4,if_pos hc]
  rw [ec]
  simp only [hJ]
  rw [qm]
  subst hl
  refine aa ?_
  refine dP ho (fun Hf lf hf=>NQ hf hB hid 1) ?_
  rintro _ H2 O2 ⟨w2,rfl,h2⟩ l2
  refine ⟨ap w2 (fE b id 1).1++[iV (fE b id 1).2],rfl,az (bq H2 h2) ⟨rfl,trivial⟩,?_⟩
  refine aa (aa (aa (aa ?_)))
  exact ah ⟨w2,rfl,h2⟩
 have k6:e.code ≠ 6:=by simpa using h
 refine ab _ (aA _ _) (aj (fun h=>?_) (fun h=>?_))
 ·have hc:e.code=7:=by simpa using h
  have ec:aL cs b p 1 id e most=(bK b id).1:=by rw [aL,if_neg k1,if_neg k2,if_neg k3,if_neg k4,if_neg k6,if_pos hc]
  rw [ec]
  simp only [gZ]
  rw [qm]
  subst hl
  refine aa ?_
  refine dP ho (fun Hf lf hf=>KC hf hB hid) ?_
  rintro _ H2 O2 ⟨w2,rfl,h2⟩ l2
  refine ⟨ap w2 (bK b id).1++[iV (bK b id).2],rfl,az (bq H2 h2) ⟨rfl,trivial⟩,?_⟩
  refine aa (aa (aa (aa ?_)))
  exact ah ⟨w2,rfl,h2⟩
 have k7:e.code ≠ 7:=by simpa using h
 refine ab _ (aA _ _) (aj (fun h=>?_) (fun h=>?_))
 ·have hc:e.code=10:=by simpa using h
  have ec:aL cs b p 1 id e most=(Aj b p e.n e.m most).1:=by rw [aL,if_neg k1,if_neg k2,if_neg k3,if_neg k4,if_neg k6,if_neg k7,if_pos hc]
  rw [ec]
  simp only [hY]
  subst hl
  refine aa (aa (aa ?_))
  refine dP ho (fun Hf lf hf=>RQ (hgl.le lf) hf hB (p:=p) (pw:=e.n) (tn:=e.m) (most:=most) (by omega) (by omega)) ?_
  rintro _ H2 O2 ⟨w2,OB,X,hp2,rfl,h2⟩ l2
  refine ⟨ap w2 (Aj b p e.n e.m most).1++[iV (Aj b p e.n e.m most).2.1,iV (Aj b p e.n e.m most).2.2],rfl,az (bq H2 h2) ⟨rfl,rfl,trivial⟩,?_⟩
  refine aa (aa (aa (aa ?_)))
  exact AC hp2 ⟨w2,rfl,h2⟩
 have k10:e.code ≠ 10:=by simpa using h
 refine ab _ (aA _ _) (aj (fun h=>?_) (fun h=>?_))
 ·have hc:e.code=12:=by simpa using h
  have ec:aL cs b p 1 id e most=bH b 1 (fL (au b 1) e.colour e.n):=by rw [aL,if_neg k1,if_neg k2,if_neg k3,if_neg k4,if_neg k6,if_neg k7,if_neg k10,if_pos hc]
  rw [ec]
  subst hl
  refine aa (aa ?_)
  obtain hc | hc | hc | hc:e.colour=0∨e.colour=1∨e.colour=2∨e.colour=3:=by omega
  ·refine ⟨.i64,e.colour,rfl,fun _=>?_,fun h=>absurd hc h⟩
   refine aa (aa ?_)
   refine ai (jP (dO hv 1).1 nsm 99) rfl ⟨rfl,trivial⟩ fun H1 l1=>?_
   simp only [aW]
   refine ⟨.i64,e.colour,rfl,fun _=>?_,fun h=>absurd hc h⟩
   refine aa (aa (aa (aa ?_)))
   refine ah ⟨v,?_,?_⟩
   ·rw [fL,if_pos hc];rfl
   ·rw [fL,if_pos hc];exact cC ho rfl rfl rfl rfl
  ·refine ⟨.i64,e.colour,rfl,fun h=>absurd (hc.symm.trans h) (by omega),fun _=>⟨.i64,e.colour,rfl,fun _=>?_,fun h=>absurd hc h⟩⟩
   refine aa (aa ?_)
   refine ai (jP (dO hv 1).2.1 nsm 99) rfl ⟨rfl,trivial⟩ fun H1 l1=>?_
   simp only [aW]
   refine ⟨.i64,e.colour,rfl,fun h=>absurd (hc.symm.trans h) (by omega),fun _=>⟨.i64,e.colour,rfl,fun _=>?_,fun h=>absurd hc h⟩⟩
   refine aa (aa (aa (aa ?_)))
   refine ah ⟨v,?_,?_⟩
   ·rw [fL,if_neg (by omega),if_pos hc];rfl
   ·rw [fL,if_neg (by omega),if_pos hc];exact cC ho rfl rfl rfl rfl
  ·refine ⟨.i64,e.colour,rfl,fun h=>absurd (hc.symm.trans h) (by omega),fun _=>⟨.i64,e.colour,rfl,fun h=>absurd (hc.symm.trans h) (by omega),fun _=>⟨.i64,e.colour,rfl,fun _=>?_,fun h=>absurd hc h⟩⟩⟩
   refine aa (aa ?_)
   refine ai (jP (dO hv 1).2.2.1 nsm 99) rfl ⟨rfl,trivial⟩ fun H1 l1=>?_
   simp only [aW]
   refine ⟨.i64,e.colour,rfl,fun h=>absurd (hc.symm.trans h) (by omega),fun _=>⟨.i64,e.colour,rfl,fun h=>absurd (hc.symm.trans h) (by omega),fun _=>⟨.i64,e.colour,rfl,fun _=>?_,fun h=>absurd hc h⟩⟩⟩
   refine aa (aa (aa (aa ?_)))
   refine ah ⟨v,?_,?_⟩
   ·rw [fL,if_neg (by omega),if_neg (by omega),if_pos hc];rfl
   ·rw [fL,if_neg (by omega),if_neg (by omega),if_pos hc];exact cC ho rfl rfl rfl rfl
  ·refine ⟨.i64,e.colour,rfl,fun h=>absurd (hc.symm.trans h) (by omega),fun _=>⟨.i64,e.colour,rfl,fun h=>absurd (hc.symm.trans h) (by omega),fun _=>⟨.i64,e.colour,rfl,fun h=>absurd (hc.symm.trans h) (by omega),fun _=>⟨.i64,e.colour,rfl,fun _=>?_,fun h=>absurd hc h⟩⟩⟩⟩
   refine aa (aa ?_)
   refine ai (jP (dO hv 1).2.2.2 nsm 99) rfl ⟨rfl,trivial⟩ fun H1 l1=>?_
   simp only [aW]
   refine ⟨.i64,e.colour,rfl,fun h=>absurd (hc.symm.trans h) (by omega),fun _=>⟨.i64,e.colour,rfl,fun h=>absurd (hc.symm.trans h) (by omega),fun _=>⟨.i64,e.colour,rfl,fun h=>absurd (hc.symm.trans h) (by omega),fun _=>⟨.i64,e.colour,rfl,fun _=>?_,fun h=>absurd hc h⟩⟩⟩⟩
   refine aa (aa (aa (aa ?_)))
   refine ah ⟨v,?_,?_⟩
   ·rw [fL,if_neg (by omega),if_neg (by omega),if_neg (by omega)];rfl
   ·rw [fL,if_neg (by omega),if_neg (by omega),if_neg (by omega)];exact cC ho rfl rfl rfl rfl
 have k12:e.code ≠ 12:=by simpa using h
 have ec:aL cs b p 1 id e most=if onB cs b id=true then cX b id (uT e) else b:=by rw [aL,if_neg k1,if_neg k2,if_neg k3,if_neg k4,if_neg k6,if_neg k7,if_neg k10,if_neg k12]
 rw [ec]
 exact Rb hk ho hB hev hl qm hid
end
end Go.Proofs.YtdhobpmnkfmcfaaGreatDoor
namespace Go.Proofs.YtdhobpmnkfmcfaaGreatDoor
open Go Go.Sx
set_option maxRecDepth 100000
set_option maxHeartbeats 1000000
theorem Nl {b:Bd} (hv:ay b=true) {k:Nat} {o:Ob} (hk:b.objs[k]?=some o):be b o.id=0∧dA b o.id=o∧eX b o.id=(k:Nat):=by
 have e3:=(eC (aY hv).1 hk).2.2.1
 have hE0:be b o.id=0:=by
  have:¬ eX b o.id < 0:=by omega
  simp [be,hv,this]
 exact ⟨hE0,sH (by rw [hE0];rfl) hk e3,e3⟩
theorem MZ {cs:List CdX} {b:Bd} (hv:ay b=true) {q x:Int} (hq:q=0∨q=1) (h:x ∈ uS (cs.map CdX.base) b q):onB cs b x=true:=by
 obtain ⟨o,ho,rfl,ho2,hc,hf⟩:=(QL hv hq).1 h
 obtain ⟨k,hk⟩:=List.mem_iff_getElem?.1 ho
 obtain ⟨h1,h2,_⟩:=Nl hv hk
 rw [onB,h1,h2,ho2]
 have hc:eN (VJ cs) o=true:=hc
 rw [hc]
 simpa using hf
theorem RY {cs:List CdX} {b:Bd} (hv:ay b=true) {q x:Int} (hq:q=0∨q=1) (h:x ∈ zD (cs.map CdX.base) b q):onB cs b x=true:=by
 rcases Ua.1 h with h | h
 ·exact MZ hv hq h
 ·exact MZ hv (by omega) h
theorem nR {cs:List CdX} {b:Bd} {x:Int} (h:onB cs b x=true):1≤x∧x≤500∧be b x=0:=by
 have hi:be b x=0:=by
  rw [onB,Bool.and_eq_true] at h
  simpa using h.1
 obtain ⟨k,f1,f2,f3,f4,f5⟩:=fu hi
 have:=yR f4
 rw [f2] at this
 exact ⟨this.1,this.2,hi⟩
theorem ry {cs:List CdX} {b:Bd} {p k:Int} {t:Tg} (h:vJ (cs.map CdX.base) b p k t=true):(p=0∨p=1)∧ay b=true∧(t.player=0∨t.player=1) ∧
  ((k ≠ 6∧t.player=0∧onB cs b t.id=true∧k ≠ 4)∨(t.id=0∧(k=4∨k=5))∨(k=6∧t.player=0∧∃ x ∈ b.stack,x.id=t.id∧x.trig < 0)):=by
 obtain ⟨y,hy,he⟩:=List.any_eq_true.1 h
 have hty:t=y:=by simpa using he
 subst hty
 rw [zQ] at hy
 split at hy
 case isFalse=>cases hy
 rename_i hc
 rw [Bool.and_eq_true] at hc
 obtain ⟨hw,hv⟩:=hc
 have hp:p=0∨p=1:=by simp only [aw,decide_eq_true_eq] at hw;omega
 refine ⟨hp,hv,?_⟩
 have htg:∀ {l:List Int},t ∈ tgs l→t.player=0∧t.id ∈ l:=fun hm=>by
  obtain ⟨x,hx,rfl⟩:=List.mem_map.1 hm
  exact ⟨rfl,hx⟩
 have hpl:t ∈ plT p→t.id=0∧(t.player=0∨t.player=1):=fun hm=>by
  simp only [plT,List.mem_cons,List.not_mem_nil,or_false] at hm
  rcases hm with rfl | rfl
  ·exact ⟨rfl,by show 1 - p=0∨1 - p=1;omega⟩
  ·exact ⟨rfl,hp⟩
 rw [Iz] at hy
 split at hy
 ·obtain ⟨a,c⟩:=htg hy
  exact ⟨.inl a,.inl ⟨by omega,a,RY hv hp c,by omega⟩⟩
 split at hy
 ·obtain ⟨a,c⟩:=htg hy
  exact ⟨.inl a,.inl ⟨by omega,a,MZ hv (by omega) c,by omega⟩⟩
 split at hy
 ·obtain ⟨a,c⟩:=htg hy
  exact ⟨.inl a,.inl ⟨by omega,a,MZ hv hp c,by omega⟩⟩
 split at hy
 ·obtain ⟨a,c⟩:=hpl hy
  exact ⟨c,.inr (.inl ⟨a,.inl (by assumption)⟩)⟩
 split at hy
 ·rcases List.mem_append.1 hy with hy | hy
  ·obtain ⟨a,c⟩:=hpl hy
   exact ⟨c,.inr (.inl ⟨a,.inr (by assumption)⟩)⟩
  ·obtain ⟨a,c⟩:=htg hy
   exact ⟨.inl a,.inl ⟨by omega,a,RY hv hp c,by omega⟩⟩
 split at hy
 ·obtain ⟨a,c⟩:=htg hy
  obtain ⟨x,hx,hxe⟩:=List.mem_map.1 c
  obtain ⟨hx1,hx2⟩:=List.mem_filter.1 hx
  refine ⟨.inl a,.inr (.inr ⟨by assumption,a,x,List.mem_reverse.1 hx1,hxe,?_⟩)⟩
  simp only [oD,Bool.and_eq_true,decide_eq_true_eq] at hx2
  omega
 ·cases hy
theorem zl {e:Eff} (h:Hy e=true):(e.code=1→e.target=1∨e.target=2∨e.target=3∨e.target=4∨e.target=5)∧(e.code=2∨e.code=3∨e.code=4→e.target=0∨e.target=4) ∧
  (e.code=5∨e.code=6∨e.code=11→e.target=1∨e.target=2∨e.target=3)∧(e.code=7→e.target=6)∧(e.code=8∨e.code=9→e.target=0∨e.target=1∨e.target=2∨e.target=3)∧(e.code=10∨e.code=12→e.target=0)∧1≤e.code∧e.code≤12:=by
 have hB:∀ {l:List Int} {e:Eff},UF l e=true→e.target ∈ l:=fun h=>by
  simp only [UF,Bool.and_eq_true] at h
  simpa using h.1.1.1
 have hC:∀ {l:List Int} {k:Int} {e:Eff},TN l k e=true→e.target ∈ l:=fun h=>by
  simp only [TN,Bool.and_eq_true] at h
  have:=hB h.2
  exact this
 have hP:∀ {l:List Int} {k:Int} {e:Eff},TM l k e=true→e.target ∈ l:=fun h=>by
  simp only [TM,Bool.and_eq_true] at h
  have:=hB h.2
  exact this
 have hM:∀ {l:List Int} {k:Int} {e:Eff},UE l k e=true→e.target ∈ l:=fun h=>by
  simp only [UE,Bool.and_eq_true] at h
  have:=hC h.2
  exact this
 rw [Hy,xw] at h
 repeat' (split at h)
 all_goals first
  | (have hm:=hC h;simp only [List.mem_cons,List.not_mem_nil,or_false] at hm;omega)
  | (have hm:=hB h;simp only [List.mem_cons,List.not_mem_nil,or_false] at hm;omega)
  | (have hm:=hP h;simp only [List.mem_cons,List.not_mem_nil,or_false] at hm;omega)
  | (have hm:=hM h;simp only [List.mem_cons,List.not_mem_nil,or_false] at hm;omega)
  | cases h
theorem JI {cs:List CdX} {b:Bd} {p:Int} {e:Eff} {t:Tg} (h:¬ UO cs b p e t) (ht:e.target ≠ 0):vJ (cs.map CdX.base) b p e.target t=true:=by
 cases hl:vJ (cs.map CdX.base) b p e.target t
 ·exact absurd ⟨ht,hl⟩ h
 ·rfl
theorem J6 {cs:List CdX} {b:Bd} {p src:Int} {e:Eff} {t:Tg} (hp:p=0∨p=1) (hs:i64 src) (hev:Hy e=true) (h:¬ UO cs b p e t) :
  (I4 p e t=0∨I4 p e t=1)∧i64 (idE src e t)∧(e.code=1→idE src e t > 0→be b (idE src e t)=0):=by
 by_cases h0:e.target=0
 ·rw [I4,idE,if_pos h0,if_pos h0]
  refine ⟨hp,hs,fun hc=>?_⟩
  have:=(zl hev).1 hc
  omega
 ·rw [I4,idE,if_neg h0,if_neg h0]
  obtain ⟨_,hv,h1,h2⟩:=ry (JI h h0)
  refine ⟨h1,?_,fun hc hpos=>?_⟩
  ·rcases h2 with ⟨_,_,h2,_⟩ | ⟨h2,_⟩ | ⟨_,_,x,hx,hxe,_⟩
   ·have:=nR h2;constructor <;> omega
   ·constructor <;> omega
   ·have hxf:=Ah hv hx
    simp only [dz,aw,Bool.and_eq_true,decide_eq_true_eq] at hxf
    constructor <;> omega
  ·have:=(zl hev).1 hc
   rcases h2 with ⟨_,_,h2,_⟩ | ⟨h2,_⟩ | ⟨_,_,x,hx,hxe,_⟩
   ·exact (nR h2).2.2
   ·omega
   ·omega
theorem TS {H:Heap} {O:Own} {cv:Value} {cs:List CdX} (hgl:GlobOk AT H) (hk:CardsX H cv cs) (hli:eD (cs.map CdX.base)=true) {v:cP} {b:Bd} (ho:OwnB tys v b O) (hv:ay b=true) (hB:bdB b) {p src most:Int} (hp:p=0∨p=1) (hs:i64 src) {e:Eff} {t:Tg} (hev:Hy e=true) :
  Triple PP tZ [cv,.agg (ap v b).toArray,iV p,iV src,.agg e.row.toArray,.agg t.row.toArray,iV most] H O (UP (vK cs b p src e t most)):=by
 refine yY (vs:=cv::(ap v b++(iV p::iV src::(e.row++(t.row++[iV most]))))) (by kernel_rfl) ⟨hk.one,az (bq H ho) ⟨rfl,rfl,az (jX e) (az (qj t) ⟨rfl,trivial⟩)⟩⟩ ?_
 simp only [mX]
 refine af fun r0=>af fun r1=>af fun r2=>af fun r3=>?_
 have h200:=DG hv
 have core:∀ {n m r1 r0 r3:Nat} {H':Heap},Heap.le H H'→¬ UO cs b p e t→g (cv::(ap v b++(iV p::iV src::(e.row++(t.row++[iV most]))))) n=iV (I4 p e t)→g (cv::(ap v b++(iV p::iV src::(e.row++(t.row++[iV most]))))) m=iV (idE src e t) →
   (dd (cv::(ap v b++(iV p::iV src::(e.row++(t.row++[iV most]))))) n r1 m r0 r3).den PP (UP (vK cs b p src e t most)) H' O:=by
  intro n m r1 r0 r3 H' hle hb qn qm
  obtain ⟨f1,f2,f3⟩:=J6 hp hs hev hb
  rw [vK,if_neg hb]
  rcases f1 with f1 | f1
  ·exact Q9 (hgl.le hle) (hk.le hle) ho hv hB hev rfl f1 qn qm f2 f3
  ·exact Q8 (hgl.le hle) (hk.le hle) ho hv hB hev rfl f1 qn qm f2 f3
 refine aa ?_
 refine ab _ (bf _ _) (aj (fun h0=>?_) (fun h0=>?_))
 ·have h0:e.target ≠ 0:=by simpa using h0
  refine aa (aa (aa ?_))
  refine ai (OwnB.thaw ho fun Hf lf hf=>V4 (hk.le lf).base hli hf (by omega) p e.target t) rfl ⟨rfl,trivial⟩ fun H1 l1=>?_
  refine ab _ (aN _) (aj (fun hg=>?_) (fun hg=>?_))
  ·have hg:vJ (cs.map CdX.base) b p e.target t=false:=wR hg
   rw [vK,if_pos ⟨h0,hg⟩]
   refine aa (aa (aa ?_))
   exact ah ⟨v,rfl,ho⟩
  have hg:vJ (cs.map CdX.base) b p e.target t=true:=rx hg
  refine aa (aa ?_)
  exact core l1 (fun hb=>by rw [hb.2] at hg;cases hg) (by rw [I4,if_neg h0];rfl) (by rw [idE,if_neg h0];rfl)
 ·have h0:e.target=0:=by simpa using h0
  exact core (Heap.le_refl _) (fun hb=>hb.1 h0) (by rw [I4,if_pos h0];rfl) (by rw [idE,if_pos h0];rfl)
def bJ (cs:List CdX) (b:Bd) (p src:Int) (e:Eff) (t:Tg) (most:Int):Bd × Int:=if (aw p 0 1 && (Hy e && ay b))=true then (vK cs b p src e t most,0) else (zBd,2)
theorem IT {H:Heap} {cv:Value} {cs:List CdX} (hgl:GlobOk AT H) (hk:CardsX H cv cs) (hli:eD (cs.map CdX.base)=true) {v:cP} {b:Bd} (h:BdS H v b) (hB:bdB b) (p:Int) {src:Int} (most:Int) (hs:i64 src) (e:Eff) (t:Tg) :
  Triple PP t8 [cv,.agg (ap v b).toArray,iV p,iV src,.agg e.row.toArray,.agg t.row.toArray,iV most] H [] fun r _ O'=>∃ w,r=.tuple #[.agg (ap w (bJ cs b p src e t most).1).toArray,iV (bJ cs b p src e t most).2]∧OwnB tys w (bJ cs b p src e t most).1 O':=by
 refine y0 (vs:=cv::(ap v b++(iV p::iV src::(e.row++(t.row++[iV most]))))) (by kernel_rfl) ⟨hk.one,az (ao (h.r [])) ⟨rfl,rfl,az (jX e) (az (qj t) ⟨rfl,trivial⟩)⟩⟩ ?_
 simp only [mZ]
 refine af fun r0=>af fun r1=>af fun r2=>af fun r3=>?_
 refine ab _ (aJ _ _) ?_
 refine ae ?_
 refine ab _ (bG _ _) ?_
 refine ae ?_
 refine ab _ (aS _ _) (aj (fun hc=>?_) (fun hc=>?_))
 ·have hc:(decide (p < 0) || decide (p > 1))=true:=hc
  rw [pU] at hc
  have e1:bJ cs b p src e t most=(zBd,2):=by rw [bJ,if_neg (by rw [wR hc];simp)]
  rw [e1]
  refine aa (aa ?_)
  exact ah ⟨BJ,rfl,OwnB.zero tys⟩
 have hc:(decide (p < 0) || decide (p > 1))=false:=hc
 rw [pU] at hc
 have hw:=rx hc
 have hp:p=0∨p=1:=by simp only [aw,decide_eq_true_eq] at hw;omega
 refine aa ?_
 refine ai (HF e H) rfl ⟨rfl,trivial⟩ fun H1 l1=>?_
 refine ab _ (aN _) (aj (fun hc=>?_) (fun hc=>?_))
 ·have e1:bJ cs b p src e t most=(zBd,2):=by rw [bJ,if_neg (by rw [wR hc];simp)]
  rw [e1]
  refine aa (aa ?_)
  exact ah ⟨BJ,rfl,OwnB.zero tys⟩
 have hev:=rx hc
 have h:=h.le l1
 refine aa ?_
 refine ai (dY (h.r [])) rfl ⟨rfl,trivial⟩ fun H2 l2=>?_
 refine ab _ (aN _) (aj (fun hc=>?_) (fun hc=>?_))
 ·have e1:bJ cs b p src e t most=(zBd,2):=by rw [bJ,if_neg (by rw [wR hc];simp)]
  rw [e1]
  refine aa (aa ?_)
  exact ah ⟨BJ,rfl,OwnB.zero tys⟩
 have hv:=rx hc
 have h:=h.le l2
 have e1:bJ cs b p src e t most=(vK cs b p src e t most,0):=by rw [bJ,if_pos (by rw [hw,hev,hv];rfl)]
 rw [e1]
 refine aa (aa (aa ?_))
 refine ax (KD h hB) ?_
 rintro _ H3 O3 ⟨w,rfl,ho⟩ l3
 refine ⟨ap w b,rfl,bq H3 ho,?_⟩
 have l13:=Heap.le_trans l1 (Heap.le_trans l2 l3)
 refine zu (O1:=O3) (O2:=[]) (List.Perm.refl _) (TS (hgl.le l13) (hk.le l13) hli ho hv hB hp hs hev) ?_
 rintro _ H4 O4 ⟨w4,rfl,h4⟩ l4
 refine ⟨ap w4 _,rfl,bq H4 h4,?_⟩
 rw [List.append_nil]
 refine aa (aa ?_)
 exact ah ⟨w4,rfl,h4⟩
end Go.Proofs.YtdhobpmnkfmcfaaGreatDoor
