/- deck.Of. -/
import Derived.Test.YtamgiojcbdbokaaGreatDoorD14
import Derived.Test.YtamgiojcbdbokaaGreatDoorRows
import Derived.Test.YtamgiojcbdbokaaGreatDoorTie
import Derived.Test.YtamgiojcbdbokaaGreatDoorCards
import Derived.SevenTiedAt
import Derived.Carry
import Derived.Lay
import Derived.LaidMore
import Derived.ProofKit
import Derived.Stop.Joined
import Derived.Lib.LaidTab
import Derived.Shelf.Vars
namespace Go.Proofs.YtamgiojcbdbokaaGreatDoor
open Go Go.Sx
open Go.Sx (Own)
set_option maxRecDepth 100000
set_option maxHeartbeats 1000000
theorem EK (x : Int) (H : Heap) (O : Go.Sx.Own) : RetO PP qL ([iV x] ++ []) H O (.bool (decide (x < 0))) := by
 refine rR (vs := [iV x]) (by kernel_rfl) ⟨rfl, trivial⟩ ?_
 simp only [qE]
 exact aa _ (av _ _) (af ⟨rfl, rfl⟩)
theorem DG {H : Heap} {v : Value} {l : List Int} (h : Sl H 1 v (aN l)) (O : Go.Sx.Own) : RetO PP cG [v, .func (.func 47) #[] #[]] H O (.bool (l.any fun x => decide (x < 0))) := by
 refine eK (vs := [v, .func (.func 47) #[] #[]]) (by kernel_rfl) ⟨h.one, rfl, trivial⟩ ?_
 simp only [cE]
 have hI : RetO PP dq [v, .func (.func 47) #[] #[]] H O (iV (sk (fun x => decide (x < 0)) l 0)) := by
  refine fS (vs := [v, .func (.func 47) #[] #[]]) (by kernel_rfl) ⟨h.one, rfl, trivial⟩ ?_
  simp only [dp]
  have hl := h.len
  have hB := h.lenB
  have hil : (aN l).length = l.length := by simp [aN]
  rw [hil] at hl hB
  refine aa _ hl ?_
  refine aJ l.length (fun i H' O' => O' = O ∧ Heap.le H H' ∧ sk (fun x => decide (x < 0)) l 0 = sk (fun x => decide (x < 0)) (l.drop i) i) ⟨rfl, Heap.le_refl H, by simp⟩ ?_
  rintro i H' O' hi - ⟨rfl, hle, hor⟩
  refine aa _ (av _ _) (ai (fun hb => ?_) (fun hb => ?_))
  ·have hlt : i < l.length := by simpa using hb
   obtain ⟨a, h1, h2, _, h3, h4⟩ := ((h.le hle).rsl O').idx .i64 i [iV l[i]] (by simp [aN, hlt])
   refine aa _ h1 (an h2 h3 h4 (mO rfl (iC jI (by decide)) (EK l[i] H' O') rfl ⟨rfl, trivial⟩ fun H2 hle2 => ai (fun hb => ?_) (fun hb => ?_)))
   ·refine af ⟨?_, rfl⟩
    rw [hor, List.drop_eq_getElem_cons hlt, sk, if_pos hb]; rfl
   ·refine aa _ (aw (by omega)) (aA (by simp [Eqs, E]) hlt ⟨rfl, Heap.le_trans hle hle2, ?_⟩)
    rw [hor, List.drop_eq_getElem_cons hlt, sk, if_neg (by rw [hb]; simp)]; rfl
  ·have hge : l.length ≤ i := by simpa using hb
   refine af ⟨?_, rfl⟩
   rw [hor, List.drop_of_length_le hge]; rfl
 refine ak hI rfl ⟨rfl, trivial⟩ fun H1 _ => aa _ (ie _ _) (af ⟨?_, rfl⟩)
 rw [← sj _ l 0 (by omega)]
theorem yZ {H : Heap} {sv : Value} {zs : List Int} (hs : Sl H 1 sv (aN zs)) (hlen : zs.length ≤ 1000) (k1 : Nat) (T : TypeId) :
  Triple PP dN [.func (.func 79) #[] #[.pointer (some ⟨k1, 0, none⟩)]] H [(k1, .cells #[sv] T (0, 0))] fun r H' O' => Sl H' 1 r (aN (cQ zs)) ∧ O' = [] := by
 refine (Ae hs hlen k1 T).ghost ?_
 intro v H' O' _ hc ho
 obtain ⟨H'', g, k, _⟩ := ho.freeze (X := []) (by simpa using hc)
 exact ⟨H'', [], by simpa using g, k, rfl⟩
def vt (acc : List Cp) (i : Int) : List Cp := match acc.getLast? with
 | some x => if x.card = i then acc.dropLast ++ [⟨i, x.n + 1⟩] else acc ++ [⟨i, 1⟩]
 | none => [⟨i, 1⟩]
def EE (zs : List Int) : List Cp := zs.foldl vt []
def ofV (zs : List Int) : List Cp × Int := if 60 < zs.length then ([], 5) else if (zs.any fun x => decide (x < 0)) = true then ([], 2) else (EE (cQ zs), 0)
theorem uM {sl x : Value} {i : Nat} {C : List Value → Heap → Go.Sx.Own → Prop} {l4 : List Value} {v5 : Value} {init : List Cp} {c m : Int} {H : Heap} {O : Go.Sx.Own} {QT : Value → Heap → Go.Sx.Own → Prop} (hO : OSl au 2 sl ((init ++ [(⟨c, m⟩ : Cp)]).map Cp.row) O) (hi : i + 1 < 2 ^ 63) (hm : 0 ≤ m ∧ m < 1000)
  (hk : ∀ O', OSl au 2 sl ((init ++ [(⟨c, m + 1⟩ : Cp)]).map Cp.row) O' → (Tree.cont 15 C [sl, iV ((i + 1 : Nat) : Int)] (Es [[g l4 0], [v5]])).den PP QT H O') : (jH [sl] [x, iV i] C l4 v5).den PP QT H O := by
 simp only [jH]
 have hl := hO.len
 have hlen : ((init ++ [(⟨c, m⟩ : Cp)]).map Cp.row).length = init.length + 1 := by simp
 rw [hlen] at hl
 have hB := hO.lenB
 rw [hlen] at hB
 have hget : ((init ++ [(⟨c, m⟩ : Cp)]).map Cp.row)[init.length]? = some [iV c, iV m] := by simp [Cp.row]
 obtain ⟨a, k1, ksp, _, k3⟩ := hO.idx (O := O) (fun p hp => hp) H (k := .i64) hget
 obtain ⟨a', j1, j2⟩ := hO.store (O := O) (O2 := []) (by simp) (k := .i64) hget
 have haa : a' = a := by rw [k1] at j1; simpa using j1.symm
 subst haa
 have k3' := k3 1 1 (by omega)
 refine aa _ hl ?_
 refine aa (iV ((init.length : Nat) : Int)) ?_ ?_
 ·have : IntKind.i64.wrap (((init.length + 1 : Nat) : Int) - 1) = ((init.length : Nat) : Int) := by rw [iu (by omega) (by omega)]; omega
  show some (iV (IntKind.i64.wrap (((init.length + 1 : Nat) : Int) - 1))) = _
  rw [this]
 refine aa _ k1 ?_
 refine ap rfl ?_
 refine an (vs := [iV m]) k3' rfl ⟨rfl, trivial⟩ ?_
 refine aa _ (qx (by omega) (by omega)) ?_
 refine aa _ k1 ?_
 refine ap rfl (ap rfl ?_)
 obtain ⟨O1', s1, s2⟩ := j2 1 [iV (m + 1)] (by simp) ⟨rfl, trivial⟩
 refine ⟨_, s1, ?_⟩
 rw [List.append_nil]
 refine aa _ (aw hi) ?_
 refine hk O1' ?_
 have e : ((init ++ [(⟨c, m⟩ : Cp)]).map Cp.row).set init.length (bT [iV c, iV m] 1 [iV (m + 1)]) = (init ++ [(⟨c, m + 1⟩ : Cp)]).map Cp.row := by
  rw [List.map_append, List.map_append, List.set_append, if_neg (by simp)]
  simp [bT, Cp.row]
 rw [← e]; exact s2
theorem wv (i : Int) : vt [] i = [⟨i, 1⟩] := rfl
theorem uk {init : List Cp} {c m : Int} : vt (init ++ [⟨c, m⟩]) c = init ++ [⟨c, m + 1⟩] := by simp [vt]
theorem ww {init : List Cp} {c m i : Int} (h : c ≠ i) : vt (init ++ [⟨c, m⟩]) i = init ++ [⟨c, m⟩] ++ [⟨i, 1⟩] := by simp [vt, h]
def BF (k : Int) (acc : List Cp) : Prop := ∀ x ∈ acc, 0 ≤ x.n ∧ x.n ≤ k
theorem CE {acc : List Cp} {k i : Int} (hk : 0 ≤ k) (h : BF k acc) : BF (k + 1) (vt acc i) ∧ (vt acc i).length ≤ acc.length + 1 := by
 rcases List.eq_nil_or_concat acc with rfl | ⟨init, x, rfl⟩
 ·rw [wv]
  refine ⟨fun y hy => ?_, by simp⟩
  obtain rfl : y = ⟨i, 1⟩ := by simpa using hy
  exact ⟨by show (0:Int) ≤ 1; omega, by show (1:Int) ≤ k + 1; omega⟩
 ·rw [List.concat_eq_append] at h ⊢
  obtain ⟨c, m⟩ := x
  have hx := h ⟨c, m⟩ (by simp)
  have hi : ∀ y ∈ init, 0 ≤ y.n ∧ y.n ≤ k := fun y hy => h y (by simp [hy])
  by_cases e : c = i
  ·subst e
   rw [uk]
   refine ⟨fun y hy => ?_, by simp⟩
   rcases List.mem_append.1 hy with hy | hy
   ·have := hi y hy; omega
   ·obtain rfl : y = ⟨c, m + 1⟩ := by simpa using hy
    exact ⟨by show (0:Int) ≤ m + 1; have := hx.1; simp at this; omega, by show m + 1 ≤ k + 1; have := hx.2; simp at this; omega⟩
  ·rw [ww e]
   refine ⟨fun y hy => ?_, by simp⟩
   rcases List.mem_append.1 hy with hy | hy
   ·have := h y hy; omega
   ·obtain rfl : y = ⟨i, 1⟩ := by simpa using hy
    exact ⟨by show (0:Int) ≤ 1; omega, by show (1:Int) ≤ k + 1; omega⟩
def Fz (zs : List Int) (r : Value) (H' : Heap) (O' : Go.Sx.Own) : Prop := (∃ sl, r = .tuple #[sl, iV (ofV zs).2] ∧ lP H' sl (ofV zs).1) ∧ O' = []
def FA (zs : List Int) (r : Value) (_ : Heap) (O' : Go.Sx.Own) : Prop := ∃ sl, r = .tuple #[sl, iV (ofV zs).2] ∧ OSl au 2 sl ((ofV zs).1.map Cp.row) O'
theorem EJ {H : Heap} {v : Value} {zs : List Int} (hs : Sl H 1 v (aN zs)) : Triple PP qM [v] H [] (FA zs) := by
 refine uD (vs := [v]) (by kernel_rfl) ⟨hs.one, trivial⟩ ?_
 simp only [um]
 have hl := hs.len
 have hil : (aN zs).length = zs.length := by simp [aN]
 rw [hil] at hl
 refine aa _ hl (aa _ (b7 _ _) (ai (fun hd => ?_) (fun hd => ?_)))
 ·have : 60 < zs.length := by have := of_decide_eq_true hd; omega
  exact af ⟨.slice none 0 0, by rw [ofV, if_pos this], by rw [ofV, if_pos this]; exact OSl.nil _ _⟩
 have h60 : ¬ 60 < zs.length := by have := of_decide_eq_false hd; omega
 refine ak (DG hs _) rfl ⟨rfl, trivial⟩ fun H1 l1 => ai (fun hd => ?_) (fun hd => ?_)
 ·have hd : (zs.any fun x => decide (x < 0)) = true := hd
  exact af ⟨.slice none 0 0, by rw [ofV, if_neg h60, if_pos hd], by rw [ofV, if_neg h60, if_pos hd]; exact OSl.nil _ _⟩
 have hd : ¬ (zs.any fun x => decide (x < 0)) = true := by have hd : (zs.any fun x => decide (x < 0)) = false := hd; rw [hd]; simp
 have hV : ofV zs = (EE (cQ zs), 0) := by rw [ofV, if_neg h60, if_neg hd]
 refine cC (O1 := []) (O2 := []) (by simp) (Ad v hs.one H1) ?_
 rintro _ H2 _ ⟨k, rfl, rfl⟩ l2
 refine ⟨[_], rfl, ⟨rfl, trivial⟩, ?_⟩
 refine cC (O1 := [(k, .cells #[v] 33 (0, 0))]) (O2 := []) (by simp) (yZ (hs.le (Heap.le_trans l1 l2)) (by omega) k _) ?_
 rintro sv H3 _ ⟨hsv, rfl⟩ l3
 refine ⟨[sv], rfl, ⟨hsv.one, trivial⟩, ?_⟩
 have hzl : (cQ zs).length = zs.length := ml zs
 rw [EE] at hV
 generalize cQ zs = z at *
 have hsl := hsv.len
 have hzl2 : (aN z).length = z.length := by simp [aN]
 rw [hzl2] at hsl
 refine aa _ hsl ?_
 refine ib (fun vs H' O' => ∃ (i : Nat) (sl : Value), vs = [sl, iV i] ∧ i ≤ z.length ∧ Heap.le H3 H' ∧ OSl au 2 sl (((z.take i).foldl vt []).map Cp.row) O' ∧ BF i ((z.take i).foldl vt []) ∧ ((z.take i).foldl vt []).length ≤ i) (fun vs _ _ => match g vs 1 with | .int _ k => z.length + 1 - k.toNat | _ => 0)
  ⟨0, .slice none 0 0, rfl, Nat.zero_le _, Heap.le_refl _, OSl.nil _ _, fun x hx => (by cases hx), Nat.le_refl _⟩ ?_
 rintro _ H4 O4 _ _ _ ⟨i, sl, rfl, hi, hle, hO, hco, hcl⟩
 refine aa _ (av _ _) (ai (fun hlt => ?_) (fun hge => ?_))
 rotate_left
 ·have hge : z.length ≤ i := by have := of_decide_eq_false hge; omega
  rw [List.take_of_length_le hge] at hO
  exact af ⟨sl, by rw [hV]; rfl, by rw [hV]; exact hO⟩
 have hlt : i < z.length := by have := of_decide_eq_true hlt; omega
 have hstep : (z.take (i + 1)).foldl vt [] = vt ((z.take i).foldl vt []) z[i] := by rw [List.take_add_one, List.getElem?_eq_getElem hlt, Option.toList_some, List.foldl_append]; rfl
 obtain ⟨hco2, hcl2⟩ := CE (i := z[i]) (by omega) hco
 rw [← hstep] at hco2 hcl2
 obtain ⟨a, k1, k2, _, k3, k4⟩ := ((hsv.le hle).rsl O4).idx .i64 i [iV z[i]] (by simp [aN, hlt])
 refine aa _ k1 (an k2 k3 k4 ?_)
 have hol := hO.len
 rw [List.length_map] at hol
 refine aa _ hol (aa _ (ao _ _) ?_)
 generalize hacc : (z.take i).foldl vt [] = acc at *
 generalize z[i] = zi at *
 rcases List.eq_nil_or_concat acc with rfl | ⟨init, x, rfl⟩
 ·refine ab ?_
  refine aa (iV (-1)) rfl ?_
  refine ab (ab ?_)
  refine ⟨.pointer (some ⟨0, 0, none⟩), fun hg => (by have := hg.1; simp at this), .inr rfl, ?_⟩
  repeat (first | refine ae ?_ | refine ab ?_ | refine ap rfl ?_ | refine ⟨fun _ => rfl, ?_⟩)
  refine ldG [iV 0] rfl ⟨rfl, trivial⟩ (fun hg => (by have := hg.1; simp at this)) ?_
  refine ab (ab ?_)
  refine aa _ (dB _ _) ?_
  refine ab ?_
  refine aa _ (ay _ _) (ai (fun _ => ?_) (fun hd => by cases hd))
  refine aj fun r0 => ?_
  refine ct (rows := []) (news := [[iV zi, iV 0]]) (O1 := O4) (O2 := []) (e := au) (size := 2) (bytes := 16) (by kernel_rfl) (by simp) hO (fun Hf _ hf => Sl.block1 (hf _ List.mem_cons_self) rfl ⟨rfl, rfl, trivial⟩) (by simp) (by simp) ?_
  intro v' O1' H5 l5 hO'
  rw [List.append_nil]
  refine uM (init := []) (c := zi) (m := 0) hO' (by omega) (by omega) fun O5 h5 => ?_
  refine eP (by simp [Eqs, E, Es]) ⟨i + 1, v', rfl, hlt, Heap.le_trans hle l5, by rw [hstep, wv]; exact h5, hco2, by omega⟩ ?_
  show z.length + 1 - ((i + 1 : Nat) : Int).toNat < z.length + 1 - (i : Int).toNat
  omega
 ·rw [List.concat_eq_append] at *
  obtain ⟨c, m⟩ := x
  have hm0 := hco ⟨c, m⟩ (by simp)
  have hm0 : 0 ≤ m ∧ m ≤ (i : Int) := hm0
  have hlen1 : (init ++ [(⟨c, m⟩ : Cp)]).length = init.length + 1 := by simp
  rw [hlen1]
  have hB := hO.lenB
  rw [List.length_map, hlen1] at hB
  have hget : ((init ++ [(⟨c, m⟩ : Cp)]).map Cp.row)[init.length]? = some [iV c, iV m] := by simp [Cp.row]
  obtain ⟨b, q1, _, _, q3⟩ := hO.idx (O := O4) (fun p hp => hp) H4 (k := .i64) hget
  have q3' := q3 0 1 (by omega)
  rw [CN] at q3'
  have hne0 : ((((init.length + 1 : Nat) : Int)) == 0) = false := by rw [beq_eq_false_iff_ne]; omega
  rw [hne0]
  refine ab ?_
  refine aa (iV ((init.length : Nat) : Int)) ?_ ?_
  ·have : IntKind.i64.wrap (((init.length + 1 : Nat) : Int) - 1) = ((init.length : Nat) : Int) := by rw [iu (by omega) (by omega)]; omega
   show some (iV (IntKind.i64.wrap (((init.length + 1 : Nat) : Int) - 1))) = _
   rw [this]
  refine ab (ab ?_)
  refine ⟨_, fun _ => q1, .inr rfl, ?_⟩
  repeat (first | refine ae ?_ | refine ab ?_ | refine ap rfl ?_ | refine ⟨fun _ => rfl, ?_⟩)
  refine ldG [iV c] rfl ⟨rfl, trivial⟩ (fun _ => q3') ?_
  refine ab (ab ?_)
  refine aa _ (dB _ _) ?_
  refine ab ?_
  refine aa _ (ay _ _) (ai (fun hd => ?_) (fun hd => ?_))
  ·have hne : c ≠ zi := by
    have hd : (false || (c != zi)) = true := hd
    simpa using hd
   refine aj fun r0 => ?_
   refine ct (rows := (init ++ [(⟨c, m⟩ : Cp)]).map Cp.row) (news := [[iV zi, iV 0]]) (O1 := O4) (O2 := []) (e := au) (size := 2) (bytes := 16) (by kernel_rfl) (by simp) hO (fun Hf _ hf => Sl.block1 (hf _ List.mem_cons_self) rfl ⟨rfl, rfl, trivial⟩) (by simp; simp at hcl; omega) (by simp; simp at hcl; omega) ?_
   intro v' O1' H5 l5 hO'
   rw [List.append_nil]
   refine uM (init := init ++ [(⟨c, m⟩ : Cp)]) (c := zi) (m := 0) (by rw [List.map_append]; exact hO') (by omega) (by omega) fun O5 h5 => ?_
   refine eP (by simp [Eqs, E, Es]) ⟨i + 1, v', rfl, hlt, Heap.le_trans hle l5, by rw [hstep, ww hne]; exact h5, hco2, by omega⟩ ?_
   show z.length + 1 - ((i + 1 : Nat) : Int).toNat < z.length + 1 - (i : Int).toNat
   omega
  ·have he : c = zi := by
    have hd : (false || (c != zi)) = false := hd
    simpa using hd
   subst he
   refine uM (init := init) (c := c) (m := m) hO (by omega) (by omega) fun O5 h5 => ?_
   refine eP (by simp [Eqs, E, Es]) ⟨i + 1, sl, rfl, hlt, hle, by rw [hstep, uk]; exact h5, hco2, by omega⟩ ?_
   show z.length + 1 - ((i + 1 : Nat) : Int).toNat < z.length + 1 - (i : Int).toNat
   omega
theorem Fq {H : Heap} {v : Value} {zs : List Int} (hs : Sl H 1 v (aN zs)) : Triple PP qM [v] H [] (Fz zs) := by
 refine (EJ hs).ghost ?_
 rintro r H' O' _ hc ⟨sl, rfl, ho⟩
 obtain ⟨H'', g, k, _⟩ := ho.freeze (X := []) (by simpa using hc)
 exact ⟨H'', [], by simpa using g, ⟨sl, rfl, k⟩, rfl⟩
deriving instance DecidableEq for Cp
theorem EG (o p : Cp) : AY PP (.eqv .neq au false) [.agg o.row.toArray, .agg p.row.toArray] = some (.bool (!(o == p))) := by
 have e : AY PP (.eqv .neq au false) [.agg o.row.toArray, .agg p.row.toArray] = (u7 [o.card == p.card, o.n == p.n]).map fun b => .bool (!b) := by kernel_rfl
 rw [e, mM]
 obtain ⟨a, b⟩ := o
 obtain ⟨c, d⟩ := p
 have : ((⟨a, b⟩ : Cp) == ⟨c, d⟩) = (a == c && b == d) := by
  rw [Bool.eq_iff_iff]; simp
 rw [this]
 simp
theorem A4 {H : Heap} (O : Go.Sx.Own) {v v' : Value} {l l' : List Int} (h : Sl H 1 v (aN l)) (h' : Sl H 1 v' (aN l')) : RetO PP gZ [v, v'] H O (.bool (decide (l = l'))) := by
 refine kn (vs := [v, v']) (by kernel_rfl) ⟨h.one, h'.one, trivial⟩ ?_
 simp only [gP]
 have lo := h.len
 have lo' := h'.len
 have hB := h.lenB
 have e1 : (aN l).length = l.length := by simp [aN]
 have e2 : (aN l').length = l'.length := by simp [aN]
 rw [e1] at lo hB
 rw [e2] at lo'
 refine aa _ lo (aa _ lo' (aa _ (dB _ _) (ai (fun hb => af ⟨?_, rfl⟩) (fun hb => ?_))))
 ·rw [decide_eq_false]; rintro rfl; simp at hb
 have hll : l.length = l'.length := by simp at hb; omega
 refine aJ l.length (fun i H' O' => O' = O ∧ Heap.le H H' ∧ l.take i = l'.take i) ⟨rfl, Heap.le_refl H, by simp⟩ ?_
 rintro i H4 O' hi - ⟨rfl, l4, hor⟩
 refine aa _ lo ?_
 refine aa _ (av _ _) (ai (fun hb => ?_) (fun hb => ?_))
 ·have hlt : i < l.length := by simpa using hb
  have hlt' : i < l'.length := by omega
  obtain ⟨p, h1, h2, _, h3, h4⟩ := ((h.le l4).rsl O').idx .i64 i [iV l[i]] (by simp [aN, hlt])
  obtain ⟨q, k1, k2, _, k3, k4⟩ := ((h'.le l4).rsl O').idx .i64 i [iV l'[i]] (by simp [aN, hlt'])
  refine aa _ h1 (an h2 h3 h4 ?_)
  refine aa _ k1 (an k2 k3 k4 ?_)
  refine aa _ (dB _ _) (ai (fun hb => af ⟨?_, rfl⟩) (fun hb => ?_))
  ·have hne : l[i] ≠ l'[i] := by simpa using hb
   rw [decide_eq_false]; rintro rfl; exact hne rfl
  ·have he : l[i] = l'[i] := by simpa using hb
   refine aa _ (aw (by omega)) (aA (by simp [Eqs, E]) hlt ⟨rfl, l4, ?_⟩)
   rw [List.take_add_one, List.take_add_one, hor, List.getElem?_eq_getElem hlt, List.getElem?_eq_getElem hlt', he]
 ·have hge : l.length ≤ i := by simpa using hb
  rw [List.take_of_length_le hge, List.take_of_length_le (by omega)] at hor
  exact af ⟨by rw [decide_eq_true hor], rfl⟩
theorem yb {H : Heap} (O : Go.Sx.Own) {v v' : Value} {l l' : List Cp} (h : lP H v l) (h' : lP H v' l') : RetO PP gX [v, v'] H O (.bool (decide (l = l'))) := by
 refine kl (vs := [v, v']) (by kernel_rfl) ⟨h.one, h'.one, trivial⟩ ?_
 simp only [gI]
 obtain ⟨lo, hB⟩ := gB h
 obtain ⟨lo', _⟩ := gB h'
 refine aa _ lo (aa _ lo' (aa _ (dB _ _) (ai (fun hb => af ⟨?_, rfl⟩) (fun hb => ?_))))
 ·rw [decide_eq_false]; rintro rfl; simp at hb
 have hll : l.length = l'.length := by simp at hb; omega
 refine aJ l.length (fun i H' O' => O' = O ∧ Heap.le H H' ∧ l.take i = l'.take i) ⟨rfl, Heap.le_refl H, by simp⟩ ?_
 rintro i H4 O' hi - ⟨rfl, l4, hor⟩
 refine aa _ lo ?_
 refine aa _ (av _ _) (ai (fun hb => ?_) (fun hb => ?_))
 ·have hlt : i < l.length := by simpa using hb
  have hlt' : i < l'.length := by omega
  obtain ⟨p, h1, h2, _, _⟩ := qi O' (h.le l4) hlt
  obtain ⟨q, k1, k2, _, _⟩ := qi O' (h'.le l4) hlt'
  refine aa _ h1 (an h2 rfl ⟨rfl, rfl, trivial⟩ ?_)
  refine aa _ k1 (an k2 rfl ⟨rfl, rfl, trivial⟩ ?_)
  refine vJ (EG l[i] l'[i]) (ai (fun hb => af ⟨?_, rfl⟩) (fun hb => ?_))
  ·have hne : l[i] ≠ l'[i] := by simpa using hb
   rw [decide_eq_false]; rintro rfl; exact hne rfl
  ·have he : l[i] = l'[i] := by simpa using hb
   refine aa _ (aw (by omega)) (aA (by simp [Eqs, E]) hlt ⟨rfl, l4, ?_⟩)
   rw [List.take_add_one, List.take_add_one, hor, List.getElem?_eq_getElem hlt, List.getElem?_eq_getElem hlt', he]
 ·have hge : l.length ≤ i := by simpa using hb
  rw [List.take_of_length_le hge, List.take_of_length_le (by omega)] at hor
  exact af ⟨by rw [decide_eq_true hor], rfl⟩
theorem Dv {H : Heap} {v v' : Value} {zs : List Int} {l : List Cp} (hs : Sl H 1 v (aN zs)) (h' : lP H v' l) (e : Int) : RetO PP dM [v, v', iV e] H [] (.bool (decide ((ofV zs).1 = l) && (ofV zs).2 == e)) := by
 refine kq (vs := [v, v', iV e]) (by kernel_rfl) ⟨hs.one, h'.one, rfl, trivial⟩ ?_
 simp only [gR]
 refine bj (Fq hs) ?_
 rintro _ H1 _ ⟨⟨sl, rfl, h1⟩, rfl⟩ l1
 refine ⟨[sl, iV (ofV zs).2], rfl, ⟨h1.one, rfl, trivial⟩, ?_⟩
 refine ak (yb _ h1 (h'.le l1)) rfl ⟨rfl, trivial⟩ fun H2 l2 => ?_
 refine ab (ab (aa _ (ao _ _) (ab (aa _ (ar _ _) ?_))))
 exact af ⟨rfl, rfl⟩
theorem zZ {H : Heap} {p v : Value} {cs : List CdF} (hp : PoolF H p cs) (hG : GlobOk H) {s : List UInt8} (hs : s.length ≤ 1000) {l : List Cp} (h' : lP H v l) (m e : Int) : RetO PP cZ [p, Str s, v, iV m, iV e] H [] (.bool ((decide ((cR cs s).1 = l) && (cR cs s).2.1 == m) && (cR cs s).2.2 == e)) := by
 refine jl (vs := [p, Str s, v, iV m, iV e]) (by kernel_rfl) ⟨hp.one, rfl, h'.one, rfl, rfl, trivial⟩ ?_
 simp only [eV]
 refine bj (BU hp hG s hs) ?_
 rintro _ H1 _ ⟨⟨sl, rfl, h1⟩, rfl⟩ l1
 refine ⟨[sl, iV (cR cs s).2.1, iV (cR cs s).2.2], rfl, ⟨h1.one, rfl, rfl, trivial⟩, ?_⟩
 refine ak (yb _ h1 (h'.le l1)) rfl ⟨rfl, trivial⟩ fun H2 l2 => ?_
 refine ab (ab (aa _ (ao _ _) (ab (aa _ (ar _ _) (ab (ab (aa _ (ao _ _) (ab (aa _ (ar _ _) ?_)))))))))
 exact af ⟨rfl, rfl⟩
theorem AS : PP.underlying 33 = some (.slice 3) := by kernel_rfl
theorem Fg : ∃ i, PP.info? 3 = some i ∧ i.size = 1 := by
 have h : (PP.info? 3).map (·.size) = some 1 := by kernel_rfl
 cases hi : PP.info? 3 with
 | none => rw [hi] at h; cases h
 | some i => rw [hi] at h; exact ⟨i, rfl, by simpa using h⟩
theorem Dy (n : Nat) (hn : n < 1000) (H : Heap) (O : Go.Sx.Own) : RetO PP 57 [.int .u64 1, .int .u64 n] H O (.tuple #[.int .u64 0, .int .u64 n]) := by
 refine dP fun w F hm => ?_
 refine (Tryz.bits_Mul 1 n (by omega) (by omega) w).mono ?_
 rintro e w' ⟨rfl, rfl⟩
 refine ⟨?_, fun _ _ => rfl, rfl⟩
 have h1 : 1 * n / 18446744073709551616 = 0 := by omega
 have h2 : 1 * n % 18446744073709551616 = n := by omega
 rw [h1, h2]; rfl
theorem zo {r n cap k : Nat} (hk : k < n) (hn : n ≤ cap) : ah (.slc 1 true false false) [.slice (some ⟨r, 0, none⟩) n cap, iV k] = some (.slice (some ⟨r, k, none⟩) (n - k) (cap - k)) := by
 have hb : aR n cap (some (.int .i64 (k : Int))) none none = some (k, n, cap) := by
  have h1 : k ≤ n := by omega
  simp [aR, bn, cu, kW, asI, h1]
 simp only [ah, di, fh, hb, Option.map_some]
 have hnk : cap ≠ k := by omega
 by_cases h0 : k = 0
 ·subst h0; simp [hnk, Addr.add]
 ·simp [hnk, h0, Addr.add]
theorem zn {r n cap k : Nat} (hk : k ≤ n) (hn : n ≤ cap) : ah (.slc 1 false true false) [.slice (some ⟨r, 0, none⟩) n cap, iV k] = some (.slice (some ⟨r, 0, none⟩) k cap) := by
 have hb : aR n cap none (some (.int .i64 (k : Int))) none = some (0, k, cap) := by
  have h1 : k ≤ cap := by omega
  simp [aR, bn, cu, kW, asI, h1]
 simp only [ah, di, fh, hb, Option.map_some]
 simp [Addr.add]
theorem vH {c : Int} {k n m : Nat} {sp : List Value} (h : k + m ≤ n) :
  ((List.replicate k (iV c) ++ List.replicate (n - k) (iV 0) ++ sp).take k ++ List.replicate m (iV c) ++ (List.replicate k (iV c) ++ List.replicate (n - k) (iV 0) ++ sp).drop (k + m)) = List.replicate (k + m) (iV c) ++ List.replicate (n - (k + m)) (iV 0) ++ sp := by
 have e1 : (List.replicate k (iV c) ++ List.replicate (n - k) (iV 0) ++ sp).take k = List.replicate k (iV c) := by
  rw [List.append_assoc, List.take_append_of_le_length (by simp), List.take_of_length_le (by simp)]
 have e2 : (List.replicate k (iV c) ++ List.replicate (n - k) (iV 0) ++ sp).drop (k + m) = List.replicate (n - (k + m)) (iV 0) ++ sp := by
  rw [List.append_assoc, List.drop_append, List.drop_of_length_le (by simp), List.nil_append, List.length_replicate, Nat.add_sub_cancel_left, List.drop_append_of_le_length (by simp; omega), List.drop_replicate]
  congr 2; omega
 rw [e1, e2, List.replicate_append_replicate, List.append_assoc]
abbrev wH (c : Int) (k n : Nat) (sp : List Value) : List Value := List.replicate k (iV c) ++ List.replicate (n - k) (iV 0) ++ sp
theorem Af {H : Heap} {r1 : Nat} {T : TypeId} {c : Int} (h1 : H r1 = some (.cells #[iV c] T (0, 0))) (hT : T = 3) {n : Nat} (hn1 : 1 ≤ n) (hn : n ≤ 60) :
  Triple PP eu [.slice (some ⟨r1, 0, none⟩) 1 1, iV n] H [] fun v _ O' => OSl dn 1 v (aN (List.replicate n c)) O' := by
 subst hT
 refine iz (vs := [.slice (some ⟨r1, 0, none⟩) 1 1, iV n]) (by kernel_rfl) ⟨rfl, rfl, trivial⟩ ?_
 simp only [en]
 refine aa _ (av _ _) (ai (fun hd => ?_) (fun _ => ?_))
 ·exfalso; have := of_decide_eq_true hd; omega
 refine aa (iV 1) rfl ?_
 refine aa (.int .u64 1) rfl ?_
 refine aa (.int .u64 n) ?_ ?_
 ·have : IntKind.u64.wrap (n : Int) = n := by simp only [IntKind.wrap, IntKind.bits, IntKind.signed]; simp; omega
  show some (Value.int .u64 (IntKind.u64.wrap (n : Int))) = _
  rw [this]
 refine ak (Dy n (by omega) _ _) rfl (vs := [.int .u64 0, .int .u64 n]) ⟨rfl, rfl, trivial⟩ fun H1 l1 => ?_
 have h1 := l1.1 _ _ h1
 refine aa (.bool false) rfl ?_
 refine ab ?_
 refine aa (.bool false) ?_ ?_
 ·show some (Value.bool (decide ((n : Int) > 9223372036854775807))) = _
  rw [decide_eq_false (by omega)]
 refine ab ?_
 refine aa (.bool false) rfl (ai (fun hd => by cases hd) (fun _ => ?_))
 refine aa (iV n) ?_ ?_
 ·have : IntKind.i64.wrap (n : Int) = n := iu (by omega) (by omega)
  show some (iV (IntKind.i64.wrap (n : Int))) = _
  rw [this]
 refine zL AS (by kernel_rfl) (by kernel_rfl) (by kernel_rfl) (z := iV 0) rfl (by omega) fun v A hA => ?_
 rw [List.append_nil]
 obtain ⟨i, hi, hsz⟩ := Fg
 rcases hA with ⟨_, hnil, _⟩ | ⟨r, cs, cap, rfl, rfl, hcl, hlc, _, _, _, ht⟩
 ·exfalso
  have := congrArg List.length hnil
  rw [List.length_replicate] at this
  simp at this; omega
 have hrl : (List.replicate n [iV 0]).length = n := List.length_replicate
 rw [hrl] at hlc ht ⊢
 rw [Nat.mul_one] at hcl ht
 have hcs : cs = wH c 0 n (cs.drop n) := by
  have h := List.take_append_drop n cs
  rw [ht] at h
  rw [wH, List.replicate_zero, List.nil_append, Nat.sub_zero, oQ]
  exact h.symm
 generalize hsp : cs.drop n = sp at hcs
 have hspl : sp.length = cap - n := by rw [← hsp, List.length_drop, hcl]
 subst hcs
 have key0 := vH (c := c) (k := 0) (n := n) (m := 1) (sp := sp) (by omega)
 refine uc (r := r) (off := 0) (cs := wH c 0 n sp) (e := 3) (O2 := []) (m := 1) (k := 1) (src := [iV c]) AS hi (by simp) (fun _ => rfl) (by omega) (fun w F hm => by rw [hsz]; exact yK hm h1 (by simp)) (by simp [hspl]; omega) (fun v hv => (List.mem_singleton.1 hv ▸ rfl)) ?_
 have key0' : (wH c 0 n sp).take 0 ++ [iV c] ++ (wH c 0 n sp).drop (0 + [iV c].length) = wH c 1 n sp := by
  have := key0
  rw [Nat.zero_add] at this
  exact this
 rw [key0', List.append_nil]
 refine ib (fun vs H' O' => ∃ k : Nat, vs = [iV k] ∧ 1 ≤ k ∧ k ≤ n ∧ O' = [(r, .cells (wH c k n sp).toArray 3 (0, 0))] ∧ Heap.le H1 H') (fun vs _ _ => match g vs 0 with | .int _ k => n + 1 - k.toNat | _ => 0) ⟨1, rfl, Nat.le_refl _, hn1, rfl, Heap.le_refl _⟩ ?_
 rintro _ H2 _ _ _ _ ⟨k, rfl, hk1, hkn, rfl, l2⟩
 refine aa (iV n) rfl ?_
 refine aa _ (av _ _) (ai (fun hd => ?_) (fun hd => ?_))
 ·have hlt : k < n := by have := of_decide_eq_true hd; omega
  refine aa _ (zo hlt hlc) (aa _ (zn hkn hlc) ?_)
  have hlen : (wH c k n sp).length = cap := by simp [hspl]; omega
  have hsrc : ((wH c k n sp).drop 0).take (min k (n - k) * 1) = List.replicate (min k (n - k)) (iV c) := by
   rw [List.drop_zero, Nat.mul_one, wH, List.append_assoc, List.take_append_of_le_length (by simp; omega), List.take_replicate]
   congr 1; omega
  refine uc (r := r) (off := k) (cs := wH c k n sp) (e := 3) (O2 := []) (m := k) (k := min k (n - k)) (src := List.replicate (min k (n - k)) (iV c)) AS hi (by simp) (fun _ => rfl) rfl (fun w F hm => by rw [hsz, ← hsrc]; exact yJ hm (by omega)) (by rw [List.length_replicate, hlen]; omega) (fun v hv => by rw [(List.mem_replicate.1 hv).2]; rfl) ?_
  rw [List.length_replicate, vH (by omega), List.append_nil]
  refine aa _ (y5 (by omega)) (eP (by simp [Eqs, E]) ⟨k + min k (n - k), rfl, by omega, by omega, rfl, l2⟩ ?_)
  show n + 1 - ((k + min k (n - k) : Nat) : Int).toNat < n + 1 - (k : Int).toNat
  omega
 ·have hge : k = n := by have := of_decide_eq_false hd; omega
  subst hge
  have e1 : (aN (List.replicate k c)).length = k := by simp [aN]
  refine af (.inr ⟨r, wH c k k sp, cap, by rw [e1]; rfl, rfl, by simp [hspl]; omega, by rw [e1]; exact hlc, by omega, ?_, ?_, ?_⟩)
  ·intro x hx; obtain ⟨y, _, rfl⟩ := List.mem_map.1 hx; rfl
  ·intro x hx; obtain ⟨y, _, rfl⟩ := List.mem_map.1 hx; exact ⟨rfl, trivial⟩
  ·rw [e1, Nat.mul_one, wH, Nat.sub_self, List.replicate_zero, List.append_nil, List.take_append_of_le_length (by simp), List.take_of_length_le (by simp), aN, List.map_replicate, ← oQ]
theorem ub {T : Heap → Go.Sx.Own → (Value → Heap → Go.Sx.Own → Prop) → Prop} {e : TypeId} {size : Nat} {v : Value} {rows : List (List Value)} {H : Heap} {O O1 X : Go.Sx.Own} {shp : Shp} {K : List Value → List (List Value) → Heap → Go.Sx.Own → Prop}
  (h : OSl e size v rows O1) (hp : O.Perm (O1 ++ X)) (hk : ∀ H', Heap.le H H' → Sl H' size v rows → ce T false [] [] shp K H' X) : ce T false [] [] shp K H O := by
 intro hc
 have hc' : Cons H O := by simpa using hc
 have hc2 := hc'.perm hp
 obtain ⟨H', g, k, l⟩ := h.freeze (X := X) hc2
 have hg : Ghost H O H' X := (Ghost.perm hp).trans g
 obtain ⟨H1, O1', O2, Q, g2, h2, h3⟩ := hk H' l k (by simpa using hc'.ghost hg)
 exact ⟨H1, O1', O2, Q, hg.trans g2, h2, h3⟩
theorem xf {P : Program} {f : FuncId} {args : List Value} {H : Heap} {O : Go.Sx.Own} {frz : List BV} {shp : Shp} {R : Value → Heap → Go.Sx.Own → Prop} {K : List Value → List (List Value) → Heap → Go.Sx.Own → Prop}
  (h : ∀ Hf, Heap.le H Hf → (∀ b ∈ frz, Hf b.r = some b.obj.2) → Triple P f args Hf [] R) (hk : ∀ v H' O3, R v H' O3 → Heap.le H H' → ∃ vs, shp.open v = some vs ∧ Ones vs ∧ K vs [] H' (O3 ++ O)) :
  ce (fun H1 O1 R => Triple P f args H1 O1 R) false frz [] shp K H O := by
 intro hc
 have hf := dR hc
 refine ⟨H.insAll frz, [], O, _, Ghost.refl _ _, h _ (Heap.le_insAll frz H) hf, ?_⟩
 intro v H' O' hr hle
 obtain ⟨vs, h1, h2, h3⟩ := hk v H' O' hr (Heap.le_trans (Heap.le_insAll frz H) hle)
 exact ⟨vs, [], O', h1, h2, trivial, rfl, h3⟩
def cM (l : List Cp) : List Int := l.flatMap fun x => List.replicate x.n.toNat x.card
theorem ru {cs : List CdF} : ∀ {l : List Cp}, (∀ x ∈ l, mH cs x) → ((cM l).length : Int) = oO l
 | [], _ => rfl
 | x :: l, h => by
  have ih := ru (l := l) fun y hy => h y (List.mem_cons_of_mem _ hy)
  obtain ⟨_, h1, _⟩ := h x List.mem_cons_self
  rw [oO, cM, List.flatMap_cons, List.length_append, List.length_replicate, ← ih, cM]
  omega
theorem qo {l : List Cp} {i : Nat} (hi : i < l.length) : cM (l.take (i + 1)) = cM (l.take i) ++ List.replicate l[i].n.toNat l[i].card := by
 rw [List.take_add_one, List.getElem?_eq_getElem hi, Option.toList_some, cM, List.flatMap_append, List.flatMap_singleton]
 rfl
theorem tW {cs : List CdF} {l : List Cp} (h : AQ cs l) (i : Nat) : (cM (l.take i)).length ≤ 60 := by
 have h1 := ru (xC h.1 i)
 have h2 := sT h.1 i
 have := h.2.2.2
 omega
def jc (cs : List CdF) (l : List Cp) : List Int × Int := if (aF cs l).2 = 0 then (cM l, 0) else ([], (aF cs l).2)
theorem Ah {H : Heap} {p : Value} {cs : List CdF} (h : PoolF H p cs) {v : Value} {l : List Cp} (hl : lP H v l) (hb : l.length ≤ 1000000) : Triple PP lh [p, v] H [] fun r _ O' => ∃ sl, r = .tuple #[sl, iV (jc cs l).2] ∧ OSl dn 1 sl (aN (jc cs l).1) O' := by
 refine qS (vs := [p, v]) (by kernel_rfl) ⟨h.one, hl.one, trivial⟩ ?_
 simp only [oh]
 obtain ⟨vlen, hB⟩ := gB hl
 refine ak (qs h hl hb) rfl (vs := [iV (aF cs l).1, iV (aF cs l).2]) ⟨rfl, rfl, trivial⟩ fun H1 l1 => ?_
 refine aa _ (dB _ _) (ai (fun hd => ?_) (fun hd => ?_))
 ·have he : (aF cs l).2 ≠ 0 := by simpa using hd
  exact af ⟨.slice none 0 0, by rw [jc, if_neg he]; rfl, by rw [jc, if_neg he]; exact OSl.nil _ _⟩
 have he : (aF cs l).2 = 0 := by simpa using hd
 have hval := (wm he).1
 have hR : jc cs l = (cM l, 0) := by rw [jc, if_pos he]
 have hl := hl.le l1
 refine aa _ vlen ?_
 refine dl l.length (fun i x H' O' => OSl dn 1 x (aN (cM (l.take i))) O' ∧ Heap.le H1 H') ⟨OSl.nil _ _, Heap.le_refl _⟩ ?_
 rintro i x H2 O2 hi - ⟨hO, l2⟩
 refine aa _ (av _ _) (ai (fun hlt => ?_) (fun hge => ?_))
 ·have hlt : i < l.length := by have := of_decide_eq_true hlt; omega
  obtain ⟨a, k1, k2, _, _⟩ := qi O2 (hl.le l2) hlt
  have hs := qo hlt
  have hbd := tW hval (i + 1)
  obtain ⟨_, w1, w2, _⟩ := hval.1 _ (List.getElem_mem hlt)
  rw [hs] at hbd
  generalize l[i] = y at *
  obtain ⟨n, hn⟩ : ∃ n : Nat, y.n = (n : Int) := ⟨y.n.toNat, by omega⟩
  have hnn : y.n.toNat = n := by omega
  rw [hnn] at hs hbd
  simp only [List.length_append, List.length_replicate] at hbd
  refine aa _ k1 (an k2 rfl ⟨rfl, rfl, trivial⟩ (aj fun r0 => ?_))
  refine ae (ae ?_)
  refine aj fun r1 => ?_
  refine ae ?_
  rw [show g y.row 1 = iV (n : Int) from by rw [← hn]; rfl]
  refine xf (fun Hf _ hf => Af (c := y.card) (hf ⟨r1, _, [iV y.card]⟩ List.mem_cons_self) rfl (n := n) (by omega) (by omega)) ?_
  intro rv H3 O3 hrep l3
  refine ⟨[rv], rfl, ⟨hrep.one, trivial⟩, ?_⟩
  refine ub hrep (List.Perm.refl _) fun H4 l4 hsl => ?_
  have e1 : (aN (cM (l.take i))).length = (cM (l.take i)).length := by simp [aN]
  have e2 : (aN (List.replicate n y.card)).length = n := by simp [aN]
  refine ct (rows := aN (cM (l.take i))) (news := aN (List.replicate n y.card)) (O1 := O2) (O2 := []) (e := dn) (size := 1) (bytes := 8) (by kernel_rfl) (by simp) hO (fun Hf hle _ => hsl.le hle) (by rw [e1, e2]; omega) (by rw [e1, e2]; omega) ?_
  intro v' O1' H5 l5 hO'
  refine aa _ (aw (by omega)) (ba (by simp [Eqs, E]) hlt ⟨?_, Heap.le_trans l2 (Heap.le_trans l3 (Heap.le_trans l4 l5))⟩)
  rw [hs, List.append_nil, show aN (cM (l.take i) ++ List.replicate n y.card) = aN (cM (l.take i)) ++ aN (List.replicate n y.card) from by simp [aN]]
  exact hO'
 ·have hge : l.length ≤ i := by have := of_decide_eq_false hge; omega
  rw [List.take_of_length_le hge] at hO
  exact af ⟨x, by rw [hR]; rfl, by rw [hR]; exact hO⟩
theorem Ai {H : Heap} {p : Value} {cs : List CdF} (h : PoolF H p cs) {v : Value} {l : List Cp} (hl : lP H v l) (hb : l.length ≤ 1000000) : Triple PP lh [p, v] H [] fun r H' O' => (∃ sl, r = .tuple #[sl, iV (jc cs l).2] ∧ Sl H' 1 sl (aN (jc cs l).1)) ∧ O' = [] := by
 refine (Ah h hl hb).ghost ?_
 rintro r H' O' _ hc ⟨sl, rfl, ho⟩
 obtain ⟨H'', g, k, _⟩ := ho.freeze (X := []) (by simpa using hc)
 exact ⟨H'', [], by simpa using g, ⟨sl, rfl, k⟩, rfl⟩
theorem yX {H : Heap} {p : Value} {cs : List CdF} (h : PoolF H p cs) {v v' : Value} {l : List Cp} (hl : lP H v l) (hb : l.length ≤ 1000000) {zs : List Int} (h' : Sl H 1 v' (aN zs)) (e : Int) : RetO PP fQ [p, v, v', iV e] H [] (.bool (decide ((jc cs l).1 = zs) && (jc cs l).2 == e)) := by
 refine j7 (vs := [p, v, v', iV e]) (by kernel_rfl) ⟨h.one, hl.one, h'.one, rfl, trivial⟩ ?_
 simp only [fE]
 refine bj (Ai h hl hb) ?_
 rintro _ H1 _ ⟨⟨sl, rfl, h1⟩, rfl⟩ l1
 refine ⟨[sl, iV (jc cs l).2], rfl, ⟨h1.one, rfl, trivial⟩, ?_⟩
 refine ak (A4 _ h1 (h'.le l1)) rfl ⟨rfl, trivial⟩ fun H2 l2 => ?_
 refine ab (ab (aa _ (ao _ _) (ab (aa _ (ar _ _) ?_))))
 exact af ⟨rfl, rfl⟩
theorem zA {H : Heap} {cs : List CdF} {v : Value} {l : List Cp} (hl : lP H v l) (hval : AQ cs l) : Triple PP dt [v] H [] fun r _ O' => OSl dn 1 r (aN (cM l)) O' := by
 refine jW (vs := [v]) (by kernel_rfl) ⟨hl.one, trivial⟩ ?_
 simp only [ft]
 obtain ⟨vlen, hB⟩ := gB hl
 refine dl l.length (fun i x H' O' => OSl dn 1 x (aN (cM (l.take i))) O' ∧ Heap.le H H') ⟨OSl.nil _ _, Heap.le_refl _⟩ ?_
 rintro i x H2 O2 hi - ⟨hO, l2⟩
 refine aa _ vlen ?_
 refine aa _ (av _ _) (ai (fun hlt => ?_) (fun hge => ?_))
 ·have hlt : i < l.length := by have := of_decide_eq_true hlt; omega
  have hs := qo hlt
  have hbd := tW hval (i + 1)
  obtain ⟨_, w1, w2, _⟩ := hval.1 _ (List.getElem_mem hlt)
  have hat := fun (O : Go.Sx.Own) (H' : Heap) (hle : Heap.le H H') => qi O (hl.le hle) hlt
  rw [hs] at hbd
  generalize l[i] = y at *
  obtain ⟨n, hn⟩ : ∃ n : Nat, y.n = (n : Int) := ⟨y.n.toNat, by omega⟩
  have hnn : y.n.toNat = n := by omega
  rw [hnn] at hs hbd
  simp only [List.length_append, List.length_replicate] at hbd
  refine dl n (fun k x H' O' => OSl dn 1 x (aN (cM (l.take i) ++ List.replicate k y.card)) O' ∧ Heap.le H H') ⟨by rw [List.replicate_zero, List.append_nil]; exact hO, l2⟩ ?_
  rintro k x' H3 O3 hk - ⟨hO3, l3⟩
  obtain ⟨a, k1, _, k3, k4⟩ := hat O3 H3 l3
  rw [hn] at k4
  refine aa _ k1 ?_
  refine ap rfl ?_
  refine an (vs := [iV (n : Int)]) k4 rfl ⟨rfl, trivial⟩ ?_
  refine aa _ (av _ _) (ai (fun hb => ?_) (fun hb => ?_))
  ·have hkn : k < n := by have := of_decide_eq_true hb; omega
   refine aa _ k1 ?_
   refine ap rfl ?_
   refine an (vs := [iV y.card]) k3 rfl ⟨rfl, trivial⟩ ?_
   refine aj fun r0 => ?_
   have e1 : (aN (cM (l.take i) ++ List.replicate k y.card)).length = (cM (l.take i)).length + k := by simp [aN]
   refine ct (rows := aN (cM (l.take i) ++ List.replicate k y.card)) (news := [[iV y.card]]) (O1 := O3) (O2 := []) (e := dn) (size := 1) (bytes := 8) (by kernel_rfl) (by simp) hO3 (fun Hf _ hf => Sl.block1 (hf _ List.mem_cons_self) rfl ⟨rfl, trivial⟩) (by rw [e1, List.length_singleton]; omega) (by rw [e1, List.length_singleton]; omega) ?_
   intro v' O1' H5 l5 hO'
   refine aa _ (aw (by omega)) (ba (by simp [Eqs, E]) hkn ⟨?_, Heap.le_trans l3 l5⟩)
   rw [List.append_nil, List.replicate_succ', ← List.append_assoc, show aN (cM (l.take i) ++ List.replicate k y.card ++ [y.card]) = aN (cM (l.take i) ++ List.replicate k y.card) ++ [[iV y.card]] from by simp [aN]]
   exact hO'
  ·have hkn : k = n := by have := of_decide_eq_false hb; omega
   subst hkn
   refine aa _ (aw (by omega)) (ba (by simp [Eqs, E]) hlt ⟨?_, l3⟩)
   rw [hs]; exact hO3
 ·have hge : l.length ≤ i := by have := of_decide_eq_false hge; omega
  rw [List.take_of_length_le hge] at hO
  exact af hO
theorem A6 {H : Heap} {cs : List CdF} {v : Value} {l : List Cp} (hl : lP H v l) (hval : AQ cs l) : Triple PP dt [v] H [] fun r H' O' => Sl H' 1 r (aN (cM l)) ∧ O' = [] := by
 refine (zA hl hval).ghost ?_
 intro r H' O' _ hc ho
 obtain ⟨H'', g, k, _⟩ := ho.freeze (X := []) (by simpa using hc)
 exact ⟨H'', [], by simpa using g, k, rfl⟩
theorem Ez (n : Nat) (h : n < 1000) : ah (.bin .quo .int) [iV n, iV 10] = some (iV ((n / 10 : Nat) : Int)) := by
 have e : Int.tdiv (n : Int) 10 = ((n / 10 : Nat) : Int) := by rw [Int.tdiv_eq_ediv_of_nonneg (by omega)]; omega
 have w : IntKind.i64.wrap ((n / 10 : Nat) : Int) = ((n / 10 : Nat) : Int) := iu (by omega) (by omega)
 simp [ah, bL, bK, e]
 simpa using w
theorem Ew (n : Nat) (h : n < 1000) : ah (.bin .rem .int) [iV n, iV 10] = some (iV ((n % 10 : Nat) : Int)) := by
 have e : Int.tmod (n : Int) 10 = ((n % 10 : Nat) : Int) := by rw [Int.tmod_eq_emod_of_nonneg (by omega)]; omega
 simp [ah, bL, bK, e]
 try omega
theorem nw {n : Nat} (h : n < 10) : Go.Lib.decDigits n = [UInt8.ofNat (48 + n)] := by rw [Go.Lib.decDigits, dif_pos h]
theorem yP {n : Nat} (h : ¬ n < 10) : Go.Lib.decDigits n = Go.Lib.decDigits (n / 10) ++ [UInt8.ofNat (48 + n % 10)] := by rw [Go.Lib.decDigits, dif_neg h]
theorem uY {n : Nat} (h : n < 100) : (Go.Lib.decDigits n).length ≤ 2 := by
 by_cases h1 : n < 10
 ·rw [nw h1]; simp
 ·rw [yP h1, nw (by omega)]; simp
theorem AU (n : Nat) (h : n < 10) : ah (.sslc true true) [.string ⟨#[48, 49, 50, 51, 52, 53, 54, 55, 56, 57]⟩, iV n, iV ((n + 1 : Nat) : Int)] = some (Str [UInt8.ofNat (48 + n)]) := by
 match n, h with
 | 0, _ => rfl
 | 1, _ => rfl
 | 2, _ => rfl
 | 3, _ => rfl
 | 4, _ => rfl
 | 5, _ => rfl
 | 6, _ => rfl
 | 7, _ => rfl
 | 8, _ => rfl
 | 9, _ => rfl
theorem uJ (n : Nat) (h : n < 10) (H : Heap) (O : Go.Sx.Own) : RetO PP cY [iV n] H O (Str (Go.Lib.decDigits n)) := by
 refine dY (vs := [iV n]) (by kernel_rfl) ⟨rfl, trivial⟩ ?_
 simp only [cV]
 refine aa _ (av _ _) (ai (fun _ => ?_) (fun hd => ?_))
 ·refine aa _ (aw (by omega)) (aa _ (AU n h) (af ⟨by rw [nw h], rfl⟩))
 ·exfalso; have := of_decide_eq_false hd; omega
theorem zz (n : Nat) (h : n < 100) (H : Heap) (O : Go.Sx.Own) : RetO PP cY [iV n] H O (Str (Go.Lib.decDigits n)) := by
 by_cases h1 : n < 10
 ·exact uJ n h1 H O
 refine dY (vs := [iV n]) (by kernel_rfl) ⟨rfl, trivial⟩ ?_
 simp only [cV]
 refine aa _ (av _ _) (ai (fun hd => ?_) (fun _ => ?_))
 ·exfalso; have := of_decide_eq_true hd; omega
 refine aa _ (Ez n (by omega)) ?_
 refine ak (uJ (n / 10) (by omega) _ _) rfl ⟨rfl, trivial⟩ fun H1 l1 => ?_
 refine aa _ (Ew n (by omega)) ?_
 refine ak (uJ (n % 10) (by omega) _ _) rfl ⟨rfl, trivial⟩ fun H2 l2 => ?_
 refine aa _ (kf (by rw [nw (by omega), nw (by omega)]; simp)) (af ⟨?_, rfl⟩)
 rw [yP h1, nw (n := n % 10) (by omega)]
theorem BX (n : Nat) (h : n < 100) (H : Heap) (O : Go.Sx.Own) : RetO PP 40 [iV n] H O (Str (Go.Lib.decDigits n)) := by
 refine dP fun w F hm => ?_
 refine (Tryz.strconv_Itoa_small n h w).mono ?_
 rintro e w' ⟨rfl, rfl⟩
 exact ⟨rfl, fun _ _ => rfl, rfl⟩
def pV (cs : List CdF) (x : Cp) : List UInt8 := Go.Lib.decDigits x.n.toNat ++ [32] ++ (fj cs x.card).nm ++ [10]
def mj (cs : List CdF) (l : List Cp) : List UInt8 := l.flatMap (pV cs)
theorem yo {c : CdF} (h : okN c) : 1 ≤ c.nm.length ∧ c.nm.length ≤ 32 := by
 have h := h.1
 simp only [kA, wi, Bool.and_eq_true, decide_eq_true_eq] at h
 omega
theorem sE {cs : List CdF} {i : Int} (h : inP cs i) : fj cs i ∈ cs := by
 have hlt : i.toNat < cs.length := by have := h.1; have := h.2; omega
 rw [fj, if_pos h, List.getD_eq_getElem?_getD, List.getElem?_eq_getElem hlt]
 exact List.getElem_mem hlt
theorem vX {cs : List CdF} (hk : ∀ c ∈ cs, okN c) {x : Cp} (hx : mH cs x) : (pV cs x).length ≤ 36 ∧ 4 ≤ (pV cs x).length ∨ (pV cs x).length ≤ 36 := by
 right
 have h1 := (yo (hk _ (sE hx.1))).2
 have h2 := uY (n := x.n.toNat) (by have := hx.2.1; have := hx.2.2.1; omega)
 simp only [pV, List.length_append, List.length_singleton]
 omega
theorem sU {cs : List CdF} {l : List Cp} {i : Nat} (hi : i < l.length) : mj cs (l.take (i + 1)) = mj cs (l.take i) ++ pV cs l[i] := by
 rw [List.take_add_one, List.getElem?_eq_getElem hi, Option.toList_some, mj, List.flatMap_append, List.flatMap_singleton]
 rfl
theorem Da {H : Heap} {cv : Value} {cs : List CdF} (h : CardsF H cv cs) (hk : ∀ c ∈ cs, okN c) {v : Value} {l : List Cp} (hl : lP H v l) (hval : AQ cs l) (O : Go.Sx.Own) : RetO PP gV [cv, v] H O (Str (mj cs l)) := by
 refine kj (vs := [cv, v]) (by kernel_rfl) ⟨h.one, hl.one, trivial⟩ ?_
 simp only [gG]
 obtain ⟨vlen, hB⟩ := gB hl
 have hll : (l.length : Int) ≤ 60 := by have := (rG hval.1).2; have := hval.2.2.2; omega
 refine dl l.length (fun i x H' O' => x = Str (mj cs (l.take i)) ∧ (mj cs (l.take i)).length ≤ 36 * i ∧ O' = O ∧ Heap.le H H') ⟨rfl, Nat.le_refl _, rfl, Heap.le_refl _⟩ ?_
 rintro i _ H2 O2 hi - ⟨rfl, hlen, rfl, l2⟩
 refine aa _ vlen ?_
 refine aa _ (av _ _) (ai (fun hlt => ?_) (fun hge => ?_))
 ·have hlt : i < l.length := by have := of_decide_eq_true hlt; omega
  obtain ⟨a, k1, _, q3, q4⟩ := qi O2 (hl.le l2) hlt
  have hs := sU (cs := cs) hlt
  have hx := hval.1 _ (List.getElem_mem hlt)
  have hll2 := vX hk hx
  generalize l[i] = x at *
  obtain ⟨hin, w1, w2, _⟩ := hx
  have hnm := (yo (hk _ (sE hin))).2
  obtain ⟨n, hn⟩ : ∃ n : Nat, x.n = (n : Int) := ⟨x.n.toNat, by omega⟩
  have hnn : x.n.toNat = n := by omega
  have hd := uY (n := n) (by omega)
  obtain ⟨j, hj, ej⟩ : ∃ j : Nat, j < cs.length ∧ x.card = (j : Int) := ⟨x.card.toNat, by have := hin.1; have := hin.2; omega, by have := hin.1; omega⟩
  obtain ⟨a2, row, p1, _, p3, _, _, p6⟩ := iH O2 (h.le l2) hj
  have hc : fj cs x.card = cs[j] := by
   rw [fj, if_pos hin, ej, List.getD_eq_getElem?_getD, show ((j : Int)).toNat = j by omega, List.getElem?_eq_getElem hj]; rfl
  have p7 : Reads H2 O2 (.pointer (some a2)) 1 [Str cs[j].nm] := by
   have := p3 0 1 (by omega)
   rw [CN] at this
   obtain ⟨es, ts, rfl, _⟩ := p6
   exact this
  rw [← ej] at p1
  rw [hc] at hnm
  have hlv : pV cs x = Go.Lib.decDigits n ++ [32] ++ cs[j].nm ++ [10] := by rw [pV, hnn, hc]
  rw [hn] at q4
  refine aa _ k1 ?_
  refine ap rfl ?_
  refine an (vs := [iV (n : Int)]) q4 rfl ⟨rfl, trivial⟩ ?_
  refine aa _ k1 ?_
  refine ap rfl ?_
  refine an q3 rfl ⟨rfl, trivial⟩ ?_
  refine aa _ p1 ?_
  refine ap rfl ?_
  refine an p7 rfl ⟨rfl, trivial⟩ ?_
  refine ak (zz n (by omega) _ _) rfl ⟨rfl, trivial⟩ fun H3 l3 => ?_
  have hi60 : i < 60 := by omega
  refine aa _ (kf (by omega)) ?_
  refine aa _ (kf (b := [32]) (by simp; omega)) ?_
  refine aa _ (kf (by simp; omega)) ?_
  refine aa _ (kf (b := [10]) (by simp; omega)) ?_
  refine aa _ (aw (by omega)) (ba (by simp [Eqs, E]) hlt ⟨?_, ?_, rfl, Heap.le_trans l2 l3⟩)
  ·rw [hs, hlv]
   simp
  ·rw [hs, List.length_append]; omega
 ·have hge : l.length ≤ i := by have := of_decide_eq_false hge; omega
  rw [List.take_of_length_le hge]
  exact af ⟨rfl, rfl⟩
theorem ll : ∀ {l r : List Int}, l.Pairwise (· < ·) → r.Pairwise (· < ·) → (∀ x, x ∈ l ↔ x ∈ r) → l = r
 | [], [], _, _, _ => rfl
 | [], b :: r, _, _, h => by have := (h b).2 (by simp); cases this
 | a :: l, [], _, _, h => by have := (h a).1 (by simp); cases this
 | a :: l, b :: r, hl, hr, h => by
  rw [List.pairwise_cons] at hl hr
  have e : a = b := by
   have h1 := (h a).1 (by simp)
   have h2 := (h b).2 (by simp)
   rcases List.mem_cons.1 h1 with e | h1
   ·exact e
   rcases List.mem_cons.1 h2 with e | h2
   ·exact e.symm
   have := hl.1 b h2
   have := hr.1 a h1
   omega
  subst e
  congr 1
  refine ll hl.2 hr.2 fun x => ⟨fun hx => ?_, fun hx => ?_⟩
  ·rcases List.mem_cons.1 ((h x).1 (by simp [hx])) with e | h'
   ·have := hl.1 x hx; omega
   ·exact h'
  ·rcases List.mem_cons.1 ((h x).2 (by simp [hx])) with e | h'
   ·have := hr.1 x hx; omega
   ·exact h'
theorem tH : ∀ {l : List Cp} {b : Int}, Dk b l → (l.map (·.card)).Pairwise (· < ·) ∧ ∀ x ∈ l, b < x.card
 | [], _, _ => ⟨List.Pairwise.nil, fun x hx => (by cases hx)⟩
 | x :: l, b, h => by
  obtain ⟨h1, h2⟩ := tH h.2
  refine ⟨?_, fun y hy => ?_⟩
  ·rw [List.map_cons, List.pairwise_cons]
   refine ⟨fun c hc => ?_, h1⟩
   obtain ⟨y, hy, rfl⟩ := List.mem_map.1 hc
   exact h2 y hy
  ·rcases List.mem_cons.1 hy with rfl | hy
   ·exact h.1
   ·have := h2 y hy
    have := h.1
    omega
theorem wC {l l' : List Cp} (hp : l'.Perm l) {b : Int} (hi : Dk b l) : lR l' = l := by
 obtain ⟨h1, _⟩ := tH hi
 have hnd : (l.map (·.card)).Nodup := h1.imp fun h e => by omega
 have hnd' : (l'.map (·.card)).Nodup := (hp.map _).nodup_iff.2 hnd
 have hz : cQ (l'.map (·.card)) = l.map (·.card) := by
  have hperm : (cQ (l'.map (·.card))).Perm (l'.map (·.card)) := List.mergeSort_perm _ _
  have hs : (cQ (l'.map (·.card))).Pairwise fun x y => decide (x ≤ y) = true := List.pairwise_mergeSort (fun a b c h1 h2 => by simp at *; omega) (fun a b => by simp; omega) _
  have hn := hperm.nodup_iff.2 hnd'
  refine ll ?_ h1 fun x => ?_
  ·exact List.Pairwise.imp₂ (fun a b h1 h2 => by simp at h1; omega) hs hn
  ·rw [hperm.mem_iff, (hp.map _).mem_iff]
 rw [lR, hz, List.map_map]
 have : ∀ x ∈ l, ((fun c => (⟨c, u6 l' c⟩ : Cp)) ∘ (·.card)) x = x := fun x hx => by
  show (⟨x.card, u6 l' x.card⟩ : Cp) = x
  rw [tU hnd' (hp.mem_iff.2 hx)]
 rw [List.map_congr_left this, List.map_id']
end Go.Proofs.YtamgiojcbdbokaaGreatDoor
namespace Go.Sx
open Go Go.Proofs Go.Lib
set_option maxRecDepth 100000
set_option maxHeartbeats 1000000
def dD (l : List UInt8) : List (List Value) := l.map fun b => [.int .u8 b.toNat]
theorem dC (l : List UInt8) : (dD l).length = l.length := List.length_map _
theorem rz (l : List UInt8) : (dD l).flatten = strCells ⟨l.toArray⟩ := by
 have h : ∀ l : List UInt8, (dD l).flatten = l.map fun b => Value.int .u8 b.toNat := fun l => by
  induction l with
  | nil => rfl
  | cons b l ih => simp only [dD, List.map_cons, List.flatten_cons] at ih ⊢; rw [ih]; rfl
 rw [h, strCells]
theorem uh (l s : List UInt8) : dD (l ++ s) = dD l ++ dD s := List.map_append
theorem eR {l : List UInt8} {row : List Value} (h : row ∈ dD l) : row.length = 1 ∧ Ones row := by
 obtain ⟨b, _, rfl⟩ := List.mem_map.1 h
 exact ⟨rfl, rfl, trivial⟩
theorem xq {P : Program} {t u ty e : TypeId} {i : TypeInfo} (ht : P.underlying t = some (.slice e)) (hu : P.underlying u = some .string) (hi : P.info? e = some i) (hz : i.zero = some (.int .u8 0)) (hs1 : i.size = 1) (hby : i.bytes = 1)
  {v : Value} {l s : List UInt8} {H : Heap} {O1 : Go.Sx.Own} (h : OSl e 1 v (dD l) O1) (hlen : l.length + s.length ≤ 100000000) :
  bq P ((PrimOp.bi .append #[t, u] ty).sem [v, Str s]) H O1 fun v' H' O' => H' = H ∧ OSl e 1 v' (dD (l ++ s)) O' := by
 intro w F hm
 have hsz : (⟨s.toArray⟩ : ByteArray).size = s.length := by simp [ByteArray.size]
 have hsc : strCells ⟨s.toArray⟩ = (dD s).flatten := (rz s).symm
 have hsl : (dD s).flatten.length = s.length := by rw [← hsc, strCells_length, hsz]
 have grown : ∀ (cap : Nat) (olds : List Value), olds = (dD l).flatten → cap < l.length + s.length → ∀ O2, Models w H (O2 ++ F) →
   (Builtin.append_ #[t, u] ty #[v, .string ⟨s.toArray⟩]).run P w = .ok (.slice (some ⟨w.heap.size, 0, none⟩) (l.length + s.length) (grownCap w (l.length + s.length) cap e))
    (w.drew.alloc (.cells (olds.toArray ++ (strCells ⟨s.toArray⟩).toArray ++ Builtin.zeroCells (Value.int .u8 0).cells (grownCap w (l.length + s.length) cap e - (l.length + s.length))) e)) →
   ∃ r w' H' O', ((PrimOp.bi .append #[t, u] ty).sem [v, Str s]).run P w = .ok (.value r) w' ∧ (H' = H ∧ OSl e 1 r (dD (l ++ s)) O') ∧ Heap.le H H' ∧ Models w' H' (O' ++ F) := by
  intro cap olds ho hc O2 hm2 hrun
  have hd : Models w.drew H (O2 ++ F) := Models.same hm2 rfl rfl
  have hol : olds.length = l.length := by rw [ho, aH (size := 1) (fun r hr => (eR hr).1), dC, Nat.mul_one]
  have hge := grownCap_ge w (l.length + s.length) cap e
  have hcm : grownCap w (l.length + s.length) cap e ≤ maxLen := grownCap_le_maxLen w (l.length + s.length) cap e (by simp only [maxLen]; omega)
  generalize grownCap w (l.length + s.length) cap e = c2 at *
  have hp := hd.push (.cells (olds.toArray ++ (strCells ⟨s.toArray⟩).toArray ++ Builtin.zeroCells (Value.int .u8 0).cells (c2 - (l.length + s.length))) e (0, 0))
  have hcells : olds.toArray ++ (strCells ⟨s.toArray⟩).toArray ++ Builtin.zeroCells (Value.int .u8 0).cells (c2 - (l.length + s.length)) = ((dD (l ++ s)).flatten ++ (Builtin.zeroCells (Value.int .u8 0).cells (c2 - (l.length + s.length))).toList).toArray := by
   apply Array.ext'
   rw [uh, List.flatten_append, ← ho, ← hsc]
   simp
  rw [hcells] at hrun hp
  refine ⟨.slice (some ⟨w.heap.size, 0, none⟩) (l.length + s.length) c2, w.drew.alloc (.cells ((dD (l ++ s)).flatten ++ (Builtin.zeroCells (Value.int .u8 0).cells (c2 - (l.length + s.length))).toList).toArray e (0, 0)), H, [(w.heap.size, _)], ?_, ⟨rfl, .inr ⟨w.heap.size, (dD (l ++ s)).flatten ++ (Builtin.zeroCells (Value.int .u8 0).cells (c2 - (l.length + s.length))).toList, c2, ?_, rfl, ?_, ?_, ?_, fun r hr => (eR hr).1, fun r hr => (eR hr).2, ?_⟩⟩, Heap.le_refl H, ?_⟩
  ·simp only [PrimOp.sem, builtin]
   rw [Sem.run_bind]
   show Result.andThen ((Builtin.append_ #[t, u] ty #[v, .string ⟨s.toArray⟩]).run P w) _ = _
   rw [hrun]
   rfl
  ·rw [dC, List.length_append]
  ·have h1 : (Builtin.zeroCells (Value.int .u8 0).cells (c2 - (l.length + s.length))).toList.length = c2 - (l.length + s.length) := by
    rw [Array.length_toList, size_zeroCells]
    show (c2 - (l.length + s.length)) * 1 = _
    omega
   have h2 : (dD (l ++ s)).flatten.length = l.length + s.length := by rw [aH (size := 1) (fun r hr => (eR hr).1), dC, List.length_append, Nat.mul_one]
   rw [List.length_append, h1, h2]
   omega
  ·rw [dC, List.length_append]; exact hge
  ·simp only [maxLen] at hcm; omega
  ·rw [← aH (size := 1) (fun r hr => (eR hr).1), List.take_left]
  ·refine hp.sub ?_
   rw [List.singleton_append]
   exact (List.sublist_append_right O2 F).cons_cons _
 have hown := fun hne => h.ownsRow (w := w) (F := F) hne hm
 rcases h with ⟨⟨a, rfl⟩, hr, rfl⟩ | ⟨r, cs, cap, rfl, rfl, hcl, hlc, hcap, hl, ho, htk⟩
 ·have hl0 : l = [] := by simpa [dD] using hr
  subst hl0
  by_cases hs0 : s = []
  ·subst hs0
   refine ⟨.slice a 0 0, w, H, [], ?_, ⟨rfl, .inl ⟨⟨a, rfl⟩, rfl, rfl⟩⟩, Heap.le_refl H, hm⟩
   simp only [PrimOp.sem, builtin]
   rw [Sem.run_bind]
   have : (Builtin.append_ #[t, u] ty #[.slice a 0 0, .string ⟨#[]⟩]).run P w = .ok (.slice a 0 0) w := by
    cases a <;> simp [Builtin.append_, run_underlying ht, run_underlying hu, sizeOf, typeInfo, hi, Builtin.lenOf, Builtin.firstCells, storeCells, ByteArray.size]
   show Result.andThen ((Builtin.append_ #[t, u] ty #[.slice a 0 0, .string ⟨#[]⟩]).run P w) _ = _
   rw [this]
   rfl
  ·have hpos : 0 < s.length := List.length_pos_iff.2 hs0
   refine grown 0 [] rfl (by simp; omega) [] hm ?_
   cases a with
   | none =>
    have hr := run_append_nil_string (P := P) w t u ty e i (.int .u8 0) ht hu hi hz ⟨s.toArray⟩ (by rw [hsz]; omega) (by rw [hsz]; omega) (by rw [hby, hsz]; omega)
    rw [hsz] at hr
    simp only [List.length_nil, Nat.zero_add, Array.empty_append]
    have e1 : ((⟨s.toArray⟩ : ByteArray).data.map fun b => Value.int .u8 b.toNat) = (strCells ⟨s.toArray⟩).toArray := by
     apply Array.ext'
     simp [strCells]
    rw [e1] at hr
    exact hr
   | some b =>
    have hr := run_append_grow_string (P := P) w t u ty e i (.int .u8 0) ht hu hi hz b 0 0 [] (by simp) (by simp) ⟨s.toArray⟩ (by rw [hsz]; omega) (by rw [hsz]; omega) (by rw [hby]; exact growslice_fits (by rw [hsz]; omega) (by rw [hsz]; omega))
    rw [hsz] at hr
    exact hr
 ·rw [dC] at hlc htk grown ⊢
  have hrow := (hm.own (r, .cells cs.toArray e (0, 0)) (by simp)).1
  have htk' : cs.take l.length = (dD l).flatten := by simpa using htk
  by_cases hroom : l.length + s.length ≤ cap
  ·have hrun := run_append_room_string (P := P) w t u ty e i ht hu hi hs1 r l.length cap cs.toArray hrow ⟨s.toArray⟩ (by rw [hsz]; exact hroom) (by rw [hsz, List.size_toArray]; omega)
   rw [hsz] at hrun
   have hnew : cs.toArray.toList.take l.length ++ strCells ⟨s.toArray⟩ ++ cs.toArray.toList.drop (l.length + s.length) = (dD (l ++ s)).flatten ++ cs.drop (l.length + s.length) := by
    rw [uh, List.flatten_append, ← htk', ← hsc]
   rw [hnew] at hrun
   have h2 : (dD (l ++ s)).flatten.length = l.length + s.length := by rw [aH (size := 1) (fun r hr => (eR hr).1), dC, List.length_append, Nat.mul_one]
   refine ⟨.slice (some ⟨r, 0, none⟩) (l.length + s.length) cap, w.setRow r ((dD (l ++ s)).flatten ++ cs.drop (l.length + s.length)).toArray, H, [(r, .cells ((dD (l ++ s)).flatten ++ cs.drop (l.length + s.length)).toArray e (0, 0))], ?_, ⟨rfl, .inr ⟨r, (dD (l ++ s)).flatten ++ cs.drop (l.length + s.length), cap, ?_, rfl, ?_, ?_, hcap, fun r hr => (eR hr).1, fun r hr => (eR hr).2, ?_⟩⟩, Heap.le_refl H, ?_⟩
   ·simp only [PrimOp.sem, builtin]
    rw [Sem.run_bind]
    show Result.andThen ((Builtin.append_ #[t, u] ty #[.slice (some ⟨r, 0, none⟩) l.length cap, .string ⟨s.toArray⟩]).run P w) _ = _
    rw [hrun]
    rfl
   ·rw [dC, List.length_append]
   ·rw [List.length_append, h2, List.length_drop]; omega
   ·rw [dC, List.length_append]; exact hroom
   ·rw [← aH (size := 1) (fun r hr => (eR hr).1), List.take_left]
   ·exact rh (vs := cs) hm
  ·refine grown cap (dD l).flatten rfl (by omega) [(r, .cells cs.toArray e (0, 0))] hm ?_
   have hrun := run_append_grow_string (P := P) w t u ty e i (.int .u8 0) ht hu hi hz ⟨r, 0, none⟩ l.length cap (dD l).flatten (by rw [aH (size := 1) (fun r hr => (eR hr).1), dC, hs1]) (fun j u hj => ?_) ⟨s.toArray⟩ (by rw [hsz]; omega) (by rw [hsz]; omega) (by rw [hby]; exact growslice_fits (by rw [hsz]; omega) (by rw [hsz]; omega))
   ·rw [hsz] at hrun
    exact hrun
   ·exact (hown (by simp)).cells (g := r) rfl j u hj
end Go.Sx
namespace Go.Proofs.YtamgiojcbdbokaaGreatDoor
open Go Go.Sx
open Go.Sx (Own)
set_option maxRecDepth 100000
set_option maxHeartbeats 1000000
abbrev mW : TypeId := 94
theorem Cc {k : Nat} {p v : Value} {T : TypeId} {O1 : Go.Sx.Own} (H : Heap) : Reads H ((k, .cells #[p, v] T (0, 0)) :: O1) (pP k) 1 [p] := .inr ⟨⟨k, 0, none⟩, #[p, v], T, rfl, rfl, List.mem_cons_self, rfl, rfl⟩
theorem B9 {k : Nat} {p v : Value} {T : TypeId} {O1 : Go.Sx.Own} (H : Heap) : Reads H ((k, .cells #[p, v] T (0, 0)) :: O1) (bo (pP k) 1) 1 [v] := .inr ⟨⟨k, 1, none⟩, #[p, v], T, rfl, rfl, List.mem_cons_self, rfl, rfl⟩
theorem sO : ∃ j, PP.info? mW = some j ∧ j.size = 2 := by
 have h : (PP.info? mW).map (·.size) = some 2 := by kernel_rfl
 exact Option.map_eq_some_iff.1 h
theorem uf {w : World} {H : Heap} {k : Nat} {p v : Value} {F : Go.Sx.Own} (hm : Models w H ((k, .cells #[p, v] mW (0, 0)) :: F)) : w.shape? k = some (mW, 2) := by
 have h : w.heap[k]? = some (.cells #[p, v] mW (0, 0)) := (hm.own (k, .cells #[p, v] mW (0, 0)) (by simp)).1
 simp [World.shape?, h]
theorem B8 {w : World} {H : Heap} {k : Nat} {p v : Value} {F : Go.Sx.Own} (hm : Models w H ((k, .cells #[p, v] mW (0, 0)) :: F)) : ((PrimOp.convert 91 159).sem [pP k]).run PP w = .ok (.value (pP k)) w := by
 obtain ⟨j, hj, hs⟩ := sO
 have := Go.Lib.run_to_unsafe (P := PP) (src := 91) (dst := 159) (t := mW) w ⟨k, 0, none⟩ (by kernel_rfl) (by kernel_rfl) hj (by omega) (uf hm) (by show 0 < 2; omega)
 simp only [PrimOp.sem]
 rw [Sem.run_bind]
 show Result.andThen ((convert 91 159 (.pointer (some ⟨k, 0, none⟩))).run PP w) _ = _
 rw [this]
 rfl
theorem Ce {w : World} {H : Heap} {k : Nat} {p v : Value} {F : Go.Sx.Own} (hm : Models w H ((k, .cells #[p, v] mW (0, 0)) :: F)) : ((PrimOp.convert 159 91).sem [pP k]).run PP w = .ok (.value (pP k)) w := by
 obtain ⟨j, hj, hs⟩ := sO
 have := Go.Lib.run_from_unsafe (P := PP) (src := 159) (dst := 91) (u := mW) w ⟨k, 0, none⟩ (by kernel_rfl) (by kernel_rfl) hj (uf hm) (by kernel_rfl)
 simp only [PrimOp.sem]
 rw [Sem.run_bind]
 show Result.andThen ((convert 159 91 (.pointer (some ⟨k, 0, none⟩))).run PP w) _ = _
 rw [this]
 rfl
theorem Cf (k : Nat) (w : World) : ((PrimOp.intr 92).sem [pP k]).run PP w = .ok (.value (pP k)) w :=
 zP Tryz.func92 (by kernel_rfl) (by kernel_rfl) (by kernel_rfl) (e := Extern.AbiNoEscape.same) (by kernel_rfl) (fun _ => rfl) w
section
open Go.RowKit Go.Shelf
theorem Ac {k : Nat} {v : Value} (H : Heap) : RetO PP bH [pP k] H [(k, .cells #[pP k, v] mW (0, 0))] (.tuple #[]) := by
 refine dP fun w F hm => ?_
 obtain ⟨j, hj, hjs⟩ := sO
 have hbk : w.heap[k]? = some (.cells #[pP k, v] mW (0, 0)) := (hm.own (k, .cells #[pP k, v] mW (0, 0)) (by simp)).1
 have h0 : w.cell? ⟨k, 0, none⟩ = some (.pointer (some ⟨k, 0, none⟩)) := by
  rw [Lib.cell_of_heap hbk]; rfl
 have mixed : Tryz.prog.follows .mixedOrders = true := mixed
 have t91 : Tryz.prog.underlying 91 = some (.pointer mW) := by kernel_rfl
 show Calls Tryz.prog 59 #[.pointer (some ⟨k, 0, none⟩)] w _
 go_enter Tryz.func59, Tryz.ntmps59
 go_wp2
 rw [Lib.run_neq_ptr_same w _ t91 hj]
 go_wp2
 go_end0
 exact ⟨rfl, fun _ _ => rfl, rfl⟩
end
theorem vk {k : Nat} {p v : Value} (hp : p = .pointer none ∨ p = pP k) (H : Heap) : Triple PP bH [pP k] H [(k, .cells #[p, v] mW (0, 0))] fun r H' O' => r = .tuple #[] ∧ O' = [(k, .cells #[pP k, v] mW (0, 0))] := by
 rcases hp with rfl | rfl
 rotate_left
 ·exact Ac H
 refine fg (vs := [pP k]) (by kernel_rfl) ⟨rfl, trivial⟩ ?_
 simp only [cX]
 refine ap rfl (ap rfl ?_)
 refine an (vs := [.pointer none]) (Cc H) rfl ⟨rfl, trivial⟩ ?_
 ·refine aa (.bool true) rfl (ai (fun _ => ?_) (fun hd => by cases hd))
  refine rV (fun w F hm => B8 (by simpa using hm)) rfl (vs := [pP k]) ⟨rfl, trivial⟩ ?_
  refine zC (fun w => Cf k w) rfl (vs := [pP k]) ⟨rfl, trivial⟩ ?_
  refine rV (fun w F hm => Ce (by simpa using hm)) rfl (vs := [pP k]) ⟨rfl, trivial⟩ ?_
  refine ap rfl (ap rfl (ap rfl ?_))
  refine ⟨_, ⟨⟨k, 0, none⟩, #[.pointer none, v], mW, [], rfl, rfl, List.Perm.refl _, by show 0 + 1 ≤ 2; omega, rfl⟩, ?_⟩
  exact af ⟨rfl, rfl⟩
theorem wo {P : Program} {f : FuncId} {args : List Value} {H : Heap} {O : Go.Sx.Own} {k : Nat} {T : TypeId} {cells : List Value} {R : Value → List Value → Go.Sx.Own → Prop} {shp : Shp} {K : List Value → List (List Value) → Heap → Go.Sx.Own → Prop}
  (h : Triple P f args H ((k, .cells cells.toArray T (0, 0)) :: O) fun v _ O' => ∃ cs O3, O' = (k, .cells cs.toArray T (0, 0)) :: O3 ∧ cs.length = cells.length ∧ Ones cs ∧ R v cs O3)
  (hk : ∀ v cs H' O3, R v cs O3 → Heap.le H H' → ∃ vs, shp.open v = some vs ∧ Ones vs ∧ K vs [cs] H' O3) : ce (fun H1 O1 R => Triple P f args H1 O1 R) false [] [⟨k, T, cells⟩] shp K H O := by
 intro _
 refine ⟨H, O, [], _, Ghost.perm (by simp), h, ?_⟩
 rintro v H' O' ⟨cs, O3, rfl, hl, h1, hr⟩ hle
 obtain ⟨vs, a, b, c⟩ := hk v cs H' O3 hr hle
 exact ⟨vs, [cs], O3, a, b, ⟨hl, h1, trivial⟩, rfl, by simpa using c⟩
theorem Fh : ∃ i, PP.info? 5 = some i ∧ i.zero = some (.int .u8 0) ∧ i.size = 1 ∧ i.bytes = 1 := by
 have h : (PP.info? 5).map (fun i => (i.zero, i.size, i.bytes)) = some (some (.int .u8 0), 1, 1) := by kernel_rfl
 obtain ⟨i, hi, e⟩ := Option.map_eq_some_iff.1 h
 simp only [Prod.mk.injEq] at e
 exact ⟨i, hi, e.1, e.2.1, e.2.2⟩
theorem sJ {k : Nat} {p v : Value} (hp : p = .pointer none ∨ p = pP k) {l s : List UInt8} (hn : l.length + s.length ≤ 1000000) (H : Heap) {O1 : Go.Sx.Own} (h : OSl 5 1 v (dD l) O1) :
  Triple PP cF [pP k, Str s] H ((k, .cells [p, v].toArray mW (0, 0)) :: O1) fun r _ O' => ∃ cs O3, O' = (k, .cells cs.toArray mW (0, 0)) :: O3 ∧ cs.length = [p, v].length ∧ Ones cs ∧
   (r = .tuple #[iV s.length, .nilIface] ∧ ∃ v', cs = [pP k, v'] ∧ OSl 5 1 v' (dD (l ++ s)) O3) := by
 refine eJ (vs := [pP k, Str s]) (by kernel_rfl) ⟨rfl, rfl, trivial⟩ ?_
 simp only [cD]
 refine cC (O1 := [(k, .cells #[p, v] mW (0, 0))]) (O2 := O1) (List.Perm.refl _) (vk hp H) ?_
 rintro r H1 _ ⟨rfl, rfl⟩ l1
 refine ⟨[], rfl, trivial, ?_⟩
 refine ap rfl (ap rfl ?_)
 refine an (vs := [v]) (B9 H1) rfl ⟨h.one, trivial⟩ ?_
 obtain ⟨i, hi, hz, hs, hb⟩ := Fh
 have ha := xq (P := PP) (ty := 92) (H := H1) CW EU hi hz hs hb h (s := s) (by omega)
 intro _
 refine ⟨H1, O1, [(k, .cells #[pP k, v] mW (0, 0))], _, Ghost.perm (List.perm_append_comm (l₁ := [_]) (l₂ := O1)), ha, ?_⟩
 rintro v' H2 O2 ⟨rfl, h2⟩ l2
 refine ⟨[v'], [], O2, rfl, ⟨h2.one, trivial⟩, trivial, rfl, ?_⟩
 refine ap rfl (ap rfl (ap rfl ?_))
 refine ⟨_, ⟨⟨k, 1, none⟩, #[pP k, v], mW, O2, rfl, rfl, List.perm_append_comm (l₁ := O2) (l₂ := [_]), by show 1 + 1 ≤ 2; omega, rfl⟩, ?_⟩
 refine aa _ (jj s) ?_
 exact af ⟨[pP k, v'], O2, rfl, rfl, ⟨rfl, h2.one, trivial⟩, rfl, v', rfl, h2⟩
section
open Go.RowKit Go.Shelf
set_option maxHeartbeats 2000000 in
theorem y0 {k : Nat} {p v : Value} (hp1 : p.oneCell' = true) {l : List UInt8} (hl0 : l ≠ []) (hlen : l.length ≤ 1000000) (H : Heap) {O1 : Go.Sx.Own} (h : OSl 5 1 v (dD l) O1) :
  Triple PP 41 [pP k] H ((k, .cells [p, v].toArray mW (0, 0)) :: O1) fun r _ O' => ∃ cs O3, O' = (k, .cells cs.toArray mW (0, 0)) :: O3 ∧ cs.length = [p, v].length ∧ Ones cs ∧ (cs = [p, v] ∧ r = Str l ∧ O3 = []) := by
 intro w F hm
 rcases h with ⟨_, h0, _⟩ | ⟨g, cs, cap, rfl, rfl, hcl, hlc, hcap, hrl, ho, htk⟩
 ·cases l with
  | nil => exact absurd rfl hl0
  | cons a l => cases h0
 rw [dC] at hlc htk hm ⊢
 have hbk : w.heap[k]? = some (.cells #[p, .slice (some ⟨g, 0, none⟩) l.length cap] mW (0, 0)) := (hm.own (k, .cells #[p, .slice (some ⟨g, 0, none⟩) l.length cap] mW (0, 0)) (by simp)).1
 have hbg : w.heap[g]? = some (.cells cs.toArray 5 (0, 0)) := (hm.own (g, .cells cs.toArray 5 (0, 0)) (by simp)).1
 have hlp : 0 < l.length := List.length_pos_iff.2 hl0
 have c1 : w.drew.cell? ⟨k, 1, none⟩ = some (.slice (some ⟨g, 0, none⟩) l.length cap) := by
  have : w.drew.heap[k]? = some (.cells #[p, .slice (some ⟨g, 0, none⟩) l.length cap] mW (0, 0)) := hbk
  rw [Lib.cell_of_heap this]; rfl
 have hSD : (Builtin.unsafeSliceData_ #[92] 130 #[.slice (some ⟨g, 0, none⟩) l.length cap]).run PP w.drew = .ok (.pointer (some ⟨g, 0, none⟩)) w.drew :=
  Lib.run_unsafeSliceData_row _ _ _ _ _ _ (by omega)
 have hUS : (Builtin.unsafeString_ #[130, 3] 9 #[.pointer (some ⟨g, 0, none⟩), .int .i64 l.length]).run PP w.drew = .ok (.string ⟨l.toArray⟩) (w.drew.freeze ⟨g, 0, none⟩ l.length) := by
  refine Lib.run_unsafeString_row w.drew 130 3 9 5 (by kernel_rfl) (by kernel_rfl) g cs.toArray.size (by have hg' : w.drew.heap[g]? = some (.cells cs.toArray 5 (0, 0)) := hbg; simp [World.shape?, hg']) l hl0 (by simp; omega) (by omega) ?_
  intro j x hx
  have hj : cs[j]? = some (.int .u8 x.toNat) := by
   have hjl : j < l.length := (List.getElem?_eq_some_iff.1 hx).1
   have e : (cs.take l.length)[j]? = cs[j]? := by rw [List.getElem?_take, if_pos hjl]
   rw [← e, show cs.take l.length = (dD l).flatten by simpa using htk, rz]
   simp [Go.Lib.strCells, hx]
  have hg' : w.drew.heap[g]? = some (.cells cs.toArray 5 (0, 0)) := hbg
  have ea : ({ block := g, off := 0, spot := none } : Addr).add j = ⟨g, j, none⟩ := by
   unfold Addr.add
   split <;> simp_all
  rw [ea, Lib.cell_of_heap hg']
  simpa using hj
 have hmod : Models (w.drew.freeze ⟨g, 0, none⟩ l.length) H ((k, .cells #[p, .slice (some ⟨g, 0, none⟩) l.length cap] mW (0, 0)) :: F) := by
  have hgone : ∀ j, j ≠ g → (w.drew.freeze ⟨g, 0, none⟩ l.length).heap[j]? = w.heap[j]? := fun j hj => by
   unfold World.freeze
   split
   ·rfl
   ·simp only [Array.getElem?_modify]
    rw [if_neg (Ne.symm hj)]
    rfl
  have hHg : H g = none := (hm.own (g, .cells cs.toArray 5 (0, 0)) (by simp)).2
  have hnd := hm.nodup
  simp only [List.cons_append, List.nil_append, List.map_cons, List.nodup_cons, List.mem_cons, not_or] at hnd
  refine ⟨fun b o hb => ?_, fun q hq => ?_, ?_, ?_⟩
  ·rw [hgone b (by rintro rfl; rw [hHg] at hb; cases hb)]; exact hm.pers b o hb
  ·have hq' : q ∈ (k, .cells [p, .slice (some ⟨g, 0, none⟩) l.length cap].toArray mW (0, 0)) :: [(g, .cells cs.toArray 5 (0, 0))] ++ F := by
    rcases List.mem_cons.1 hq with rfl | hq
    ·simp
    ·simp [hq]
   have hqg : q.1 ≠ g := by
    rcases List.mem_cons.1 hq with rfl | hqF
    ·exact hnd.1.1
    ·intro e
     exact hnd.2.1 (List.mem_map.2 ⟨q, hqF, e⟩)
   rw [hgone _ hqg]
   exact hm.own q hq'
  ·simp only [List.map_cons, List.nodup_cons]
   exact ⟨hnd.1.2, hnd.2.2⟩
  ·have : cO (w.drew.freeze ⟨g, 0, none⟩ l.length) = cO w := by
    unfold World.freeze
    split <;> rfl
   rw [this]; exact hm.env
 have mixed : Tryz.prog.follows .mixedOrders = true := mixed
 show Calls Tryz.prog 41 #[.pointer (some ⟨k, 0, none⟩)] w _
 go_enter Tryz.func41, Tryz.ntmps41
 go_wp2
 go_region_o
 all_goals (go_wp2; go_ret; exact ⟨_, H, _, rfl, ⟨[p, .slice (some ⟨g, 0, none⟩) l.length cap], [], rfl, rfl, ⟨hp1, rfl, trivial⟩, rfl, rfl, rfl⟩, Heap.le_refl H, hmod⟩)
end
abbrev IP (n : Nat) (R : Nat → Value → Value → Heap → Go.Sx.Own → Prop) : List Value → Heap → Go.Sx.Own → Prop := fun vs H O => ∃ (i : Nat) (p v : Value), vs = [iV i, p, v] ∧ i ≤ n ∧ R i p v H O
abbrev MP (n : Nat) : List Value → Heap → Go.Sx.Own → Nat := fun vs _ _ => match g vs 0 with | .int _ k => n - k.toNat | _ => 0
theorem xb {P : Program} {lab key : Nat} {p0 v0 : Value} {body : (List Value → Heap → Go.Sx.Own → Prop) → List Value → Tree} {H : Heap} {O : Go.Sx.Own} {Q : Value → Heap → Go.Sx.Own → Prop} (n : Nat) (R : Nat → Value → Value → Heap → Go.Sx.Own → Prop)
  (h0 : R 0 p0 v0 H O) (step : ∀ i p v H' O', i ≤ n → Heap.le H H' → R i p v H' O' → (body (AO (IP n R) (MP n) (n - i)) [iV i, p, v]).den P Q H' O') :
  (Tree.loop lab key [iV 0, p0, v0] body).den P Q H O := by
 refine ib (IP n R) (MP n) ⟨0, p0, v0, rfl, Nat.zero_le _, h0⟩ ?_
 rintro vs H' O' _ _ hle ⟨i, p, v, rfl, hi, hr⟩
 exact step i p v H' O' hi hle hr
theorem uZ {P : Program} {lab n i : Nat} {R : Nat → Value → Value → Heap → Go.Sx.Own → Prop} {p v : Value} {eqs : List (List Value × List Value)} {H : Heap} {O : Go.Sx.Own} {Q : Value → Heap → Go.Sx.Own → Prop} (he : Eqs eqs) (hi : i < n) (hr : R (i + 1) p v H O) :
  (Tree.cont lab (AO (IP n R) (MP n) (n - i)) [iV ((i + 1 : Nat) : Int), p, v] eqs).den P Q H O := by
 refine eP he ⟨i + 1, p, v, rfl, hi, hr⟩ ?_
 show n - ((i + 1 : Nat) : Int).toNat < n - i
 simp; omega
def nc (cs : List CdF) (l : List Cp) : List UInt8 × Int := if (aF cs l).2 = 0 then (mj cs l, 0) else ([], (aF cs l).2)
theorem Dw {H : Heap} {p : Value} {cs : List CdF} (h : PoolK H p cs) {v : Value} {l : List Cp} (hl : lP H v l) (hb : l.length ≤ 1000000) : RetO PP qK [p, v] H [] (.tuple #[Str (nc cs l).1, iV (nc cs l).2]) := by
 obtain ⟨h, hk⟩ := h
 refine rQ (vs := [p, v]) (by kernel_rfl) ⟨h.one, hl.one, trivial⟩ ?_
 simp only [qD]
 obtain ⟨vlen, _⟩ := gB hl
 refine ak (qs h hl hb) rfl (vs := [iV (aF cs l).1, iV (aF cs l).2]) ⟨rfl, rfl, trivial⟩ fun H1 l1 => ?_
 refine aa _ (dB _ _) (ai (fun hd => ?_) (fun hd => ?_))
 ·have he : (aF cs l).2 ≠ 0 := by simpa using hd
  exact af ⟨by rw [nc, if_neg he]; rfl, rfl⟩
 have he : (aF cs l).2 = 0 := by simpa using hd
 have hR : nc cs l = (mj cs l, 0) := by rw [nc, if_pos he]
 have hval := (wm he).1
 have h := h.le l1
 have hl := hl.le l1
 have hll : (l.length : Int) ≤ 60 := by have := (rG hval.1).2; have := hval.2.2.2; omega
 refine aj fun r0 => ?_
 refine aa _ vlen ?_
 refine xb l.length (fun i p v H' O' => (p = .pointer none ∨ p = pP r0) ∧ OSl 5 1 v (dD (mj cs (l.take i))) O' ∧ (mj cs (l.take i)).length ≤ 36 * i ∧ Heap.le H1 H') ⟨.inl rfl, OSl.nil _ _, Nat.le_refl _, Heap.le_refl _⟩ ?_
 rintro i q bv H2 O2 hi - ⟨hp, hO, hlen, l2⟩
 refine aa _ (av _ _) (ai (fun hlt => ?_) (fun hge => ?_))
 ·have hlt : i < l.length := by have := of_decide_eq_true hlt; omega
  obtain ⟨a, k1, k2, _, _⟩ := qi O2 (hl.le l2) hlt
  have hs := sU (cs := cs) hlt
  have hx := hval.1 _ (List.getElem_mem hlt)
  have hll2 := vX hk hx
  generalize l[i] = x at *
  obtain ⟨hin, w1, w2, _⟩ := hx
  have hnm := (yo (hk _ (sE hin))).2
  obtain ⟨n, hn⟩ : ∃ n : Nat, x.n = (n : Int) := ⟨x.n.toNat, by omega⟩
  have hnn : x.n.toNat = n := by omega
  have hd := uY (n := n) (by omega)
  have hlv : pV cs x = Go.Lib.decDigits n ++ [32] ++ (fj cs x.card).nm ++ [10] := by rw [pV, hnn]
  refine aa _ k1 (an k2 rfl ⟨rfl, rfl, trivial⟩ (aj fun r1 => ?_))
  refine ae (ae ?_)
  refine bj (sK (h.le l2) x.card) ?_
  rintro _ H3 _ ⟨⟨cells, rfl, c1, c2⟩, rfl⟩ l3
  have hc := c2.nm.1
  refine ⟨cells ++ [iV (ge cs x.card)], oP c1, mC c2.ones ⟨rfl, trivial⟩, aj fun r2 => ?_⟩
  refine ae (ae (ae ?_))
  rw [show g x.row 1 = iV (n : Int) from by rw [← hn]; rfl]
  refine ak (BX n (by omega) _ _) rfl ⟨rfl, trivial⟩ fun H4 l4 => ?_
  rw [show g (cells ++ [iV (ge cs x.card)]) 0 = Str (fj cs x.card).nm from (xT c1 (by omega)).trans hc]
  have hi60 : i < 60 := by omega
  refine aa _ (kf (b := [32]) (by simp; omega)) ?_
  refine aa _ (kf (by simp; omega)) ?_
  refine aa _ (kf (b := [10]) (by simp; omega)) ?_
  refine wo (k := r0) (T := 94) (cells := [q, bv]) (sJ hp (by rw [← hlv]; omega) H4 hO) ?_
  rintro _ _ H5 O5 ⟨rfl, v', rfl, hO5⟩ l5
  refine ⟨[iV _, .nilIface], rfl, ⟨rfl, rfl, trivial⟩, ?_⟩
  refine aa _ (aw (by omega)) (uZ (by simp [Eqs, E]) hlt ⟨.inr rfl, ?_, ?_, Heap.le_trans l2 (Heap.le_trans l3 (Heap.le_trans l4 l5))⟩)
  ·rw [hs, hlv]; exact hO5
  ·rw [hs, List.length_append]; omega
 ·have hge : l.length ≤ i := by have := of_decide_eq_false hge; omega
  rw [List.take_of_length_le hge] at hO hlen
  have hne : mj cs l ≠ [] := by
   cases l with
   | nil => exact absurd hval.2.2.1 (by decide)
   | cons x l => rw [mj, List.flatMap_cons, pV]; simp
  refine wo (k := r0) (T := 94) (cells := [q, bv]) (y0 (by rcases hp with rfl | rfl <;> rfl) hne (by omega) H2 hO) ?_
  rintro _ _ H5 _ ⟨rfl, rfl, rfl⟩ l5
  refine ⟨[Str (mj cs l)], rfl, ⟨rfl, trivial⟩, ?_⟩
  exact af ⟨by rw [hR]; rfl, rfl⟩
theorem vd {H : Heap} {p : Value} {cs : List CdF} (h : PoolK H p cs) {v : Value} {l : List Cp} (hl : lP H v l) (hb : l.length ≤ 1000000) (s : List UInt8) (e : Int) : RetO PP du [p, v, Str s, iV e] H [] (.bool ((nc cs l).1 == s && (nc cs l).2 == e)) := by
 refine j4 (vs := [p, v, Str s, iV e]) (by kernel_rfl) ⟨h.1.one, hl.one, rfl, rfl, trivial⟩ ?_
 simp only [fB]
 refine ak (Dw h hl hb) rfl (vs := [Str (nc cs l).1, iV (nc cs l).2]) ⟨rfl, rfl, trivial⟩ fun H1 l1 => ?_
 refine aa _ (uw _ _) ?_
 refine ab (ab (aa _ (ao _ _) (ab (aa _ (ar _ _) ?_))))
 exact af ⟨rfl, rfl⟩
def tK : List Cp := [⟨0, 18⟩, ⟨1, 4⟩]
theorem kv1 : aF aK tK = (-1, 0) := by decide +kernel
theorem kv2 : aF aK [⟨0, 18⟩, ⟨1, 5⟩] = (1, 7) := by decide +kernel
theorem kv3 : aF aK [⟨0, 18⟩, ⟨3, 1⟩] = (1, 3) := by decide +kernel
theorem kv4 : aF aK [⟨1, 4⟩, ⟨0, 18⟩] = (1, 2) := by decide +kernel
theorem kv5 : aF aK [⟨0, 0⟩] = (0, 2) := by decide +kernel
theorem kv6 : aF aK [⟨0, 19⟩] = (-1, 4) := by decide +kernel
theorem kv7 : aF aK [⟨0, 60⟩, ⟨2, 1⟩] = (-1, 5) := by decide +kernel
theorem kv8 : aF aK [⟨0, 61⟩] = (0, 2) := by decide +kernel
theorem Eu : cQ [2, 0, 0] = [0, 0, 2] := by simp [cQ, List.mergeSort, List.MergeSort.Internal.splitInTwo, List.merge]
theorem kv9 : ofV [2, 0, 0] = ([⟨0, 2⟩, ⟨2, 1⟩], 0) := by
 rw [ofV, if_neg (by decide), if_neg (by decide), Eu]
 decide +kernel
theorem Ff : ofV [-1] = ([], 2) := by decide +kernel
theorem Fe : mj aK tK = [49, 56, 32, 87, 101, 108, 108, 10, 52, 32, 74, 111, 108, 116, 10] := by decide +kernel
theorem Fb : ql aK 1 tK = 18 := by decide +kernel
theorem Fa : ql aK 0 tK = 22 := by decide +kernel
theorem Aq (a b : Int) : lR [⟨1, a⟩, ⟨0, b⟩] = [⟨0, b⟩, ⟨1, a⟩] := wC (List.Perm.swap _ _ _) (b := -1) ⟨show (-1 : Int) < 0 by decide, show (0 : Int) < 1 by decide, trivial⟩
abbrev s14 : List UInt8 := [52, 32, 74, 111, 108, 116, 10, 49, 56, 32, 87, 101, 108, 108, 10]
theorem E9 : cR aK s14 = (tK, 0, 0) := by
 have h : cT aK (cK s14.length s14) [] 0 = .inl [⟨1, 4⟩, ⟨0, 18⟩] := by decide +kernel
 rw [cR, h]
 simp only []
 rw [Aq, if_neg (by decide +kernel)]
 rfl
theorem E8 : cR aK [49, 56, 32, 87, 101, 108, 108, 10, 52, 32, 106, 111, 108, 116, 10] = ([], 2, 9) := by decide +kernel
theorem E7 : cR aK [49, 56, 32, 87, 101, 108, 108, 10, 50, 32, 87, 101, 108, 108, 10] = ([], 2, 11) := by decide +kernel
theorem E6 : cR aK [48, 52, 32, 74, 111, 108, 116, 10] = ([], 1, 6) := by decide +kernel
abbrev s18 : List UInt8 := [53, 32, 74, 111, 108, 116, 10, 49, 56, 32, 87, 101, 108, 108, 10]
theorem E5 : cR aK s18 = ([], 0, 7) := by
 have h : cT aK (cK s18.length s18) [] 0 = .inl [⟨1, 5⟩, ⟨0, 18⟩] := by decide +kernel
 rw [cR, h]
 simp only []
 rw [Aq, if_pos (by decide +kernel), show aF aK [⟨0, 18⟩, ⟨1, 5⟩] = (1, 7) from kv2]
theorem E4 : cR aK [] = ([], 0, 4) := by decide +kernel
theorem bB {P : Program} {f : FuncId} {args : List Value} {H : Heap} {O : Go.Sx.Own} {frz : List BV} {r : Value} {shp : Shp} {vs : List Value} {K : List Value → List (List Value) → Heap → Go.Sx.Own → Prop}
  (h : ∀ Hf, Heap.le H Hf → (∀ b ∈ frz, Hf b.r = some b.obj.2) → RetO P f args Hf [] r) (ho : shp.open r = some vs) (h1 : Ones vs) (hk : ∀ H', Heap.le H H' → (∀ b ∈ frz, H' b.r = some b.obj.2) → K vs [] H' O) :
  ce (fun H1 O1 R => Triple P f args H1 O1 R) false frz [] shp K H O := by
 intro hc
 have hf := dR hc
 refine ⟨H.insAll frz, [], O, _, Ghost.refl _ _, h _ (Heap.le_insAll frz H) hf, ?_⟩
 rintro v H' O' ⟨rfl, rfl⟩ hle
 exact ⟨vs, [], [], ho, h1, trivial, rfl, hk _ (Heap.le_trans (Heap.le_insAll frz H) hle) fun b hb => hle.1 _ _ (hf b hb)⟩
theorem iG {H : Heap} {r n : Nat} {T : TypeId} (l : List Cp) (hn : n = l.length) (h : H r = some (.cells (l.map Cp.row).flatten.toArray T (0, 0))) (hb : l.length < 1000) : lP H (.slice (some ⟨r, 0, none⟩) n n) l := by
 refine uB (by simpa using hn) h (fun row hr => ?_) (fun row hr => ?_) (by rw [List.length_map]; omega)
 ·obtain ⟨c, _, rfl⟩ := List.mem_map.1 hr; rfl
 ·obtain ⟨c, _, rfl⟩ := List.mem_map.1 hr; exact ⟨rfl, rfl, trivial⟩
theorem wb {H : Heap} {r n : Nat} {T : TypeId} (l : List Int) (hn : n = l.length) (h : H r = some (.cells (aN l).flatten.toArray T (0, 0))) (hb : l.length < 1000) : Sl H 1 (.slice (some ⟨r, 0, none⟩) n n) (aN l) := by
 have hl : (aN l).length = l.length := by simp [aN]
 refine uB (hn.trans hl.symm) h (fun row hr => ?_) (fun row hr => ?_) (by omega)
 ·obtain ⟨c, _, rfl⟩ := List.mem_map.1 hr; rfl
 ·obtain ⟨c, _, rfl⟩ := List.mem_map.1 hr; exact ⟨rfl, trivial⟩
theorem ny (H : Heap) : lP H (.slice none 0 0) [] := Sl.nil _ _
theorem ic {H : Heap} {p : Value} (h : PoolK H p aK) {v : Value} {l : List Cp} (hl : lP H v l) (hb : l.length ≤ 1000000) {i e : Int} (hv : aF aK l = (i, e)) : RetO PP de [p, v, iV i, iV e] H [] (.bool true) := by
 have := Ab h.1 hl hb i e
 rw [hv] at this
 simpa using this
theorem AB {H : Heap} {v v' : Value} {zs : List Int} {l : List Cp} (hs : Sl H 1 v (aN zs)) (h' : lP H v' l) {e : Int} (hv : ofV zs = (l, e)) : RetO PP dM [v, v', iV e] H [] (.bool true) := by
 have := Dv hs h' e
 rw [hv] at this
 simpa using this
theorem Bv {H : Heap} {p : Value} {cs : List CdF} (h : PoolK H p cs) {v : Value} {l : List Cp} (hl : lP H v l) (hb : l.length ≤ 1000000) {s : List UInt8} {e : Int} (hv : nc cs l = (s, e)) : RetO PP du [p, v, Str s, iV e] H [] (.bool true) := by
 have := vd h hl hb s e
 rw [hv] at this
 simpa using this
theorem wa {H : Heap} {p : Value} {cs : List CdF} (h : PoolK H p cs) {v : Value} {l : List Cp} (hl : lP H v l) (hb : l.length ≤ 1000000) {k i e : Int} (hv : jb cs l k = (i, e)) : RetO PP dc [p, v, iV k, iV i, iV e] H [] (.bool true) := by
 have := oV h.1 hl hb k i e
 rw [hv] at this
 simpa using this
theorem lr {H : Heap} {p v : Value} {cs : List CdF} (hp : PoolK H p cs) (hG : GlobOk H) {s : List UInt8} (hs : s.length ≤ 1000) {l : List Cp} (h' : lP H v l) {m e : Int} (hv : cR cs s = (l, m, e)) : RetO PP cZ [p, Str s, v, iV m, iV e] H [] (.bool true) := by
 have := zZ hp.1 hG hs h' m e
 rw [hv] at this
 simpa using this
theorem BM {H : Heap} (hG : GlobOk H) : RetO PP fO [] H [] (.bool true) := by
 refine j5 (vs := []) (by kernel_rfl) trivial ?_
 simp only [fC]
 refine bj (BN H) ?_
 rintro cv H1 _ ⟨hcv, rfl⟩ l1
 refine ⟨[cv], rfl, ⟨hcv.one, trivial⟩, ?_⟩
 have hG := hG.le l1
 refine bj (Du hcv) ?_
 rintro _ H2 _ ⟨⟨p, rfl, h⟩, rfl⟩ l2
 have hG := hG.le l2
 refine ⟨[p, iV 0], rfl, ⟨h.1.one, rfl, trivial⟩, ?_⟩
 have hpp : ah (.bin .eql .ptr) [p, .pointer none] = some (.bool false) := by
  obtain ⟨r, _, _, _, rfl, _⟩ := h.1
  rfl
 refine aa _ hpp ?_
 refine ab ?_
 refine aa _ (dB _ _) ?_
 refine ab ?_
 refine aa _ (ay _ _) (ai (fun hd => by cases hd) (fun _ => ?_))
 refine aj fun r0 => ?_
 refine bB (r := .bool true) (fun Hf lf hf => ic (h.le lf) (iG tK rfl (hf _ List.mem_cons_self) (by decide)) (by decide) kv1) rfl ⟨rfl, trivial⟩ fun H3 l3 f3 => ?_
 have h := h.le l3
 have hG := hG.le l3
 have hg : lP H3 (.slice (some ⟨r0, 0, none⟩) 2 2) tK := iG tK rfl (f3 _ List.mem_cons_self) (by decide)
 refine aa _ (aD _) (ai (fun hd => by cases hd) (fun _ => ?_))
 refine aj fun r1 => ?_
 refine bB (r := .bool true) (fun Hf lf hf => ic (h.le lf) (iG [⟨0, 18⟩, ⟨1, 5⟩] rfl (hf _ List.mem_cons_self) (by decide)) (by decide) kv2) rfl ⟨rfl, trivial⟩ fun H4 l4 f4 => ?_
 have h := h.le l4
 have hG := hG.le l4
 have hg := hg.le l4
 refine aa _ (aD _) (ai (fun hd => by cases hd) (fun _ => ?_))
 refine aj fun r2 => ?_
 refine bB (r := .bool true) (fun Hf lf hf => ic (h.le lf) (iG [⟨0, 18⟩, ⟨3, 1⟩] rfl (hf _ List.mem_cons_self) (by decide)) (by decide) kv3) rfl ⟨rfl, trivial⟩ fun H5 l5 f5 => ?_
 have h := h.le l5
 have hG := hG.le l5
 have hg := hg.le l5
 refine aa _ (aD _) (ai (fun hd => by cases hd) (fun _ => ?_))
 refine aj fun r3 => ?_
 refine bB (r := .bool true) (fun Hf lf hf => ic (h.le lf) (iG [⟨1, 4⟩, ⟨0, 18⟩] rfl (hf _ List.mem_cons_self) (by decide)) (by decide) kv4) rfl ⟨rfl, trivial⟩ fun H6 l6 f6 => ?_
 have h := h.le l6
 have hG := hG.le l6
 have hg := hg.le l6
 refine aa _ (aD _) (ai (fun hd => by cases hd) (fun _ => ?_))
 refine aj fun r4 => ?_
 refine bB (r := .bool true) (fun Hf lf hf => ic (h.le lf) (iG [⟨0, 0⟩] rfl (hf _ List.mem_cons_self) (by decide)) (by decide) kv5) rfl ⟨rfl, trivial⟩ fun H7 l7 f7 => ?_
 have h := h.le l7
 have hG := hG.le l7
 have hg := hg.le l7
 refine aa _ (aD _) (ai (fun hd => by cases hd) (fun _ => ?_))
 refine aj fun r5 => ?_
 refine bB (r := .bool true) (fun Hf lf hf => ic (h.le lf) (iG [⟨0, 19⟩] rfl (hf _ List.mem_cons_self) (by decide)) (by decide) kv6) rfl ⟨rfl, trivial⟩ fun H8 l8 f8 => ?_
 have h := h.le l8
 have hG := hG.le l8
 have hg := hg.le l8
 refine aa _ (aD _) (ai (fun hd => by cases hd) (fun _ => ?_))
 refine aj fun r6 => ?_
 refine bB (r := .bool true) (fun Hf lf hf => ic (h.le lf) (iG [⟨0, 60⟩, ⟨2, 1⟩] rfl (hf _ List.mem_cons_self) (by decide)) (by decide) kv7) rfl ⟨rfl, trivial⟩ fun H9 l9 f9 => ?_
 have h := h.le l9
 have hG := hG.le l9
 have hg := hg.le l9
 refine aa _ (aD _) (ai (fun hd => by cases hd) (fun _ => ?_))
 refine aj fun r7 => ?_
 refine bB (r := .bool true) (fun Hf lf hf => ic (h.le lf) (iG [⟨0, 61⟩] rfl (hf _ List.mem_cons_self) (by decide)) (by decide) kv8) rfl ⟨rfl, trivial⟩ fun H10 l10 f10 => ?_
 have h := h.le l10
 have hG := hG.le l10
 have hg := hg.le l10
 refine aa _ (aD _) (ai (fun hd => by cases hd) (fun _ => ?_))
 refine aj fun r8 => ?_
 refine aj fun r9 => ?_
 refine bB (r := .bool true) (fun Hf lf hf => AB (wb [2, 0, 0] rfl (hf _ List.mem_cons_self) (by decide)) (iG [⟨0, 2⟩, ⟨2, 1⟩] rfl (hf _ (List.mem_cons_of_mem _ List.mem_cons_self)) (by decide)) kv9) rfl ⟨rfl, trivial⟩ fun H11 l11 f11 => ?_
 have h := h.le l11
 have hG := hG.le l11
 have hg := hg.le l11
 refine aa _ (aD _) (ai (fun hd => by cases hd) (fun _ => ?_))
 refine aj fun r10 => ?_
 refine bB (r := .bool true) (fun Hf lf hf => AB (wb [-1] rfl (hf _ List.mem_cons_self) (by decide)) (ny _) Ff) rfl ⟨rfl, trivial⟩ fun H12 l12 f12 => ?_
 have h := h.le l12
 have hG := hG.le l12
 have hg := hg.le l12
 refine aa _ (aD _) (ai (fun hd => by cases hd) (fun _ => ?_))
 refine bB (r := .bool true) (fun Hf lf hf => Bv (h.le lf) (hg.le lf) (by decide) (s := [49, 56, 32, 87, 101, 108, 108, 10, 52, 32, 74, 111, 108, 116, 10]) (by rw [nc, if_pos (by rw [kv1]), Fe])) rfl ⟨rfl, trivial⟩ fun H13 l13 f13 => ?_
 have h := h.le l13
 have hG := hG.le l13
 have hg := hg.le l13
 refine aa _ (aD _) (ai (fun hd => by cases hd) (fun _ => ?_))
 refine bB (r := .bool true) (fun Hf lf hf => wa (h.le lf) (hg.le lf) (by decide) (by rw [jb, if_pos (by rw [kv1]), Fb])) rfl ⟨rfl, trivial⟩ fun H14 l14 f14 => ?_
 have h := h.le l14
 have hG := hG.le l14
 have hg := hg.le l14
 refine aa _ (aD _) (ai (fun hd => by cases hd) (fun _ => ?_))
 refine bB (r := .bool true) (fun Hf lf hf => wa (h.le lf) (hg.le lf) (by decide) (by rw [jb, if_pos (by rw [kv1]), Fa])) rfl ⟨rfl, trivial⟩ fun H15 l15 f15 => ?_
 have h := h.le l15
 have hG := hG.le l15
 have hg := hg.le l15
 refine aa _ (aD _) (ai (fun hd => by cases hd) (fun _ => ?_))
 refine bB (r := .bool true) (fun Hf lf hf => lr (h.le lf) (hG.le lf) (s := s14) (by decide) (hg.le lf) E9) rfl ⟨rfl, trivial⟩ fun H16 l16 f16 => ?_
 have h := h.le l16
 have hG := hG.le l16
 have hg := hg.le l16
 refine ai (fun _ => ?_) (fun hd => by cases hd)
 refine bB (r := .bool true) (fun Hf lf hf => lr (h.le lf) (hG.le lf) (s := [49, 56, 32, 87, 101, 108, 108, 10, 52, 32, 106, 111, 108, 116, 10]) (by decide) (ny _) E8) rfl ⟨rfl, trivial⟩ fun H17 l17 f17 => ?_
 have h := h.le l17
 have hG := hG.le l17
 have hg := hg.le l17
 refine ai (fun _ => ?_) (fun hd => by cases hd)
 refine bB (r := .bool true) (fun Hf lf hf => lr (h.le lf) (hG.le lf) (s := [49, 56, 32, 87, 101, 108, 108, 10, 50, 32, 87, 101, 108, 108, 10]) (by decide) (ny _) E7) rfl ⟨rfl, trivial⟩ fun H18 l18 f18 => ?_
 have h := h.le l18
 have hG := hG.le l18
 have hg := hg.le l18
 refine ai (fun _ => ?_) (fun hd => by cases hd)
 refine bB (r := .bool true) (fun Hf lf hf => lr (h.le lf) (hG.le lf) (s := [48, 52, 32, 74, 111, 108, 116, 10]) (by decide) (ny _) E6) rfl ⟨rfl, trivial⟩ fun H19 l19 f19 => ?_
 have h := h.le l19
 have hG := hG.le l19
 have hg := hg.le l19
 refine ai (fun _ => ?_) (fun hd => by cases hd)
 refine bB (r := .bool true) (fun Hf lf hf => lr (h.le lf) (hG.le lf) (s := s18) (by decide) (ny _) E5) rfl ⟨rfl, trivial⟩ fun H20 l20 f20 => ?_
 have h := h.le l20
 have hG := hG.le l20
 have hg := hg.le l20
 refine ai (fun _ => ?_) (fun hd => by cases hd)
 refine bB (r := .bool true) (fun Hf lf hf => lr (h.le lf) (hG.le lf) (s := []) (by decide) (ny _) E4) rfl ⟨rfl, trivial⟩ fun H21 l21 f21 => ?_
 exact af ⟨rfl, rfl⟩
abbrev DU (r : Value) (_ : Heap) (O' : Go.Sx.Own) : Prop := r = .bool true ∧ O' = []
theorem mI {H : Heap} (hG : GlobOk H) : (Tree.call false 9 [] [] [] .one fun l _ => .ret (g l 0) []).den PP DU H [] :=
 ak (BM hG) rfl ⟨rfl, trivial⟩ fun _ _ => af ⟨rfl, rfl⟩
theorem tX {H : Heap} {cv v : Value} {cs : List CdF} {l : List Cp} (hG : GlobOk H) (hc : CardsF H cv cs) (hl : lP H v l) (k : Int) : Triple PP dW [cv, v, iV k] H [] DU := by
 refine hJ (vs := [cv, v, iV k]) (by kernel_rfl) ⟨hc.one, hl.one, rfl, trivial⟩ ?_
 simp only [dU]
 obtain ⟨vlen, _⟩ := gB hl
 refine bj (Dq hc) ?_
 rintro _ H1 _ ⟨⟨p, rfl, hp, _⟩ | ⟨p, rfl, hp1⟩, rfl⟩ l1
 ·refine ⟨[p, .bool true], rfl, ⟨hp.1.one, rfl, trivial⟩, ?_⟩
  have hG := hG.le l1
  have hc := hc.le l1
  have hl := hl.le l1
  refine aa _ (aD _) ?_
  refine ab ?_
  refine aa _ vlen ?_
  refine ab ?_
  refine aa _ (b7 _ _) ?_
  refine ab ?_
  refine aa _ (ay _ _) (ai (fun _ => mI hG) (fun hd => ?_))
  have hb : l.length ≤ 100 := Int.ofNat_le.1 (by simpa using hd)
  have hb6 : l.length ≤ 1000000 := by omega
  refine ak (A5 hc hl hb6 _) rfl (vs := [iV (aF cs l).1, iV (aF cs l).2]) ⟨rfl, rfl, trivial⟩ fun H2 l2 => ?_
  have hG := hG.le l2
  have hc := hc.le l2
  have hl := hl.le l2
  have hp := hp.le l2
  refine aa _ (dB _ _) (ai (fun hd => ?_) (fun hd => ?_))
  ·have he : (aF cs l).2 ≠ 0 := by simpa using hd
   refine ak (yX hp.1 hl hb6 (zs := []) (Sl.nil _ _) _) rfl ⟨rfl, trivial⟩ fun H3 l3 => ?_
   refine ai (fun _ => ?_) (fun hd => by rw [jc, if_neg he] at hd; simp at hd)
   refine ak (vd (hp.le l3) (hl.le l3) hb6 [] _) rfl ⟨rfl, trivial⟩ fun H4 l4 => ?_
   refine ai (fun _ => ?_) (fun hd => by rw [nc, if_neg he] at hd; simp at hd)
   refine ak (oV ((hp.1.le l3).le l4) ((hl.le l3).le l4) hb6 k 0 _) rfl ⟨rfl, trivial⟩ fun H5 l5 => ?_
   exact ai (fun _ => mI (((hG.le l3).le l4).le l5)) (fun hd => by rw [jb, if_neg he] at hd; simp at hd)
  ·have he : (aF cs l).2 = 0 := by simpa using hd
   have hval := (wm he).1
   refine bj (A6 hl hval) ?_
   rintro cl H3 _ ⟨hcl, rfl⟩ l3
   refine ⟨[cl], rfl, ⟨hcl.one, trivial⟩, ?_⟩
   have hG := hG.le l3
   have hc := hc.le l3
   have hl := hl.le l3
   have hp := hp.le l3
   refine ak (yX hp.1 hl hb6 hcl 0) rfl ⟨rfl, trivial⟩ fun H4 l4 => ?_
   refine ai (fun _ => ?_) (fun hd => by rw [jc, if_pos he] at hd; simp at hd)
   have hG := hG.le l4
   have hc := hc.le l4
   have hl := hl.le l4
   have hp := hp.le l4
   refine ak (Da hc hp.2 hl hval _) rfl ⟨rfl, trivial⟩ fun H5 l5 => ?_
   have hG := hG.le l5
   have hc := hc.le l5
   have hl := hl.le l5
   have hp := hp.le l5
   refine ak (vd hp hl hb6 _ 0) rfl ⟨rfl, trivial⟩ fun H6 l6 => ?_
   refine ai (fun _ => ?_) (fun hd => by rw [nc, if_pos he] at hd; simp at hd)
   have hG := hG.le l6
   have hc := hc.le l6
   have hl := hl.le l6
   have hp := hp.le l6
   refine ak (yc hc hl hb6 hval k _) rfl ⟨rfl, trivial⟩ fun H7 l7 => ?_
   have hG := hG.le l7
   have hc := hc.le l7
   have hl := hl.le l7
   have hp := hp.le l7
   refine ak (oV hp.1 hl hb6 k _ 0) rfl ⟨rfl, trivial⟩ fun H8 l8 => ?_
   refine ai (fun _ => ?_) (fun hd => by rw [jb, if_pos he] at hd; simp at hd)
   have hG := hG.le l8
   have hc := hc.le l8
   have hl := hl.le l8
   have hp := hp.le l8
   refine ak (yc hc hl hb6 hval 0 _) rfl ⟨rfl, trivial⟩ fun H9 l9 => ?_
   refine ak (oV (hp.1.le l9) (hl.le l9) hb6 0 _ 0) rfl ⟨rfl, trivial⟩ fun HA lA => ?_
   exact ai (fun _ => mI ((hG.le l9).le lA)) (fun hd => by rw [jb, if_pos he] at hd; simp at hd)
 ·refine ⟨[p, .bool false], rfl, ⟨hp1, rfl, trivial⟩, ?_⟩
  refine aa _ (aD _) ?_
  refine ab ?_
  refine aa _ vlen ?_
  refine ab ?_
  refine aa _ (b7 _ _) ?_
  refine ab ?_
  exact aa _ (ay _ _) (ai (fun _ => mI (hG.le l1)) (fun hd => by simp at hd))
end Go.Proofs.YtamgiojcbdbokaaGreatDoor
namespace Go.Proofs.YtamgiojcbdbokaaGreatDoor
open Go Go.Sx Go.ChangeShapes Go.WideShapes Go.ChangeAt Go.RowKit
set_option maxRecDepth 100000
set_option maxHeartbeats 1000000
theorem own : ownKnob Tryz.prog.godebug = none := by kernel_rfl
theorem Bt : laidOutB Tryz.prog = true := by kernel_rfl
theorem sOk : dz Tryz.prog = true := by kernel_rfl
abbrev Di : Value := .slice none 0 0
abbrev uS : List (String × DataW Unit) := [("math/bits.deBruijn32tab", Rows.laid_math_bits_deBruijn32tab), ("math/bits.deBruijn64tab", Rows.laid_math_bits_deBruijn64tab), ("internal/strconv.uint64pow10", Rows.laid_internal_strconv_uint64pow10), ("unicode/utf8.acceptRanges", Rows.laid_unicode_utf8_acceptRanges), ("strconv.ErrRange", Rows.laid_strconv_ErrRange), ("strconv.ErrSyntax", Rows.laid_strconv_ErrSyntax), ("unicode/utf8.first", Rows.laid_unicode_utf8_first)]
theorem uR {P : Program} {w : World} {n : String} {d : DataW Unit} : ∀ {l : List (String × DataW Unit)} {ps : List MemPlace}, DataW.LaidVars P w l ps → (n, d) ∈ l →
  ∃ g t cs fuel p, P.globalNamed n = some g ∧ (P.globals[g]?).map (·.type) = some t ∧ w.var? P n = some cs ∧ DataW.trod (fun _ => ()) P w 0 (fun _ => true) false fuel t cs.toList = some (d, p)
 | [], _, _, h => by cases h
 | (n', d') :: l, ps, h, hm => by
  obtain ⟨g, t, cs, fuel, p, q, h1, h2, h3, h4, h5, _⟩ := h
  rcases List.mem_cons.1 hm with e | hm
  ·cases e; exact ⟨g, t, cs, fuel, p, h1, h2, h3, h4⟩
  ·exact uR h5 hm
theorem sg {P : Program} {w : World} {fuel : Nat} {t : TypeId} {cs : List Value} {x : DataW Unit × List MemPlace} {m : Array (String × TypeId)} (ht : P.underlying t = some (.interface m)) (h : DataW.trod (fun _ => ()) P w 0 (fun _ => true) false fuel t cs = some x) :
  cs = [.nilIface] ∨ ∃ u v, cs = [.iface u v] := by
 cases fuel with
 | zero => simp [DataW.trod] at h
 | succ fuel =>
  unfold DataW.trod at h
  rw [ht] at h
  split at h <;> simp_all
theorem qn {W w : World} {O : Go.Sx.Own} (hm : Models w (nN W) O) {a : Addr} {v : Value} (h : W.cell? a = some v) : w.cell? a = some v := by
 unfold World.cell? at h ⊢
 cases hb : W.heap[a.block]? with
 | none => rw [hb] at h; cases h
 | some o =>
  have := hm.pers a.block o hb
  rw [this]; rw [hb] at h; exact h
theorem zf {P : Program} {W w : World} {O : Go.Sx.Own} (hm : Models w (nN W) O) {n : String} {cs : Array Value} (h : W.var? P n = some cs) : w.var? P n = some cs := by
 unfold World.var? at h ⊢
 cases hg : P.globalNamed n with
 | none => rw [hg] at h; cases h
 | some g =>
  rw [hg] at h
  simp only [Option.bind_some] at h ⊢
  cases hb : W.heap[g]? with
  | none => rw [hb] at h; cases h
  | some o =>
   have := hm.pers g o hb
   rw [this]; rw [hb] at h; exact h
theorem we {W : World} {n : String} {g : Nat} {t : TypeId} {d : DataW Unit} {m : Array (String × TypeId)} (hg : Tryz.prog.globalNamed n = some g) (ht : (Tryz.prog.globals[g]?).map (·.type) = some t) (hu : Tryz.prog.underlying t = some (.interface m)) {ps : List MemPlace} (h : DataW.LaidVars Tryz.prog W uS ps) (hm : (n, d) ∈ uS) :
  ∃ ev, W.cell? ⟨g, 0, none⟩ = some ev ∧ (ev = .nilIface ∨ ∃ te pe, ev = .iface te pe) := by
 obtain ⟨g', t', cs, fuel, p, h1, h2, h3, h4⟩ := uR h hm
 obtain rfl := Option.some.inj (hg.symm.trans h1)
 obtain rfl := Option.some.inj (ht.symm.trans h2)
 have hc := World.var?_cell hg h3 0
 rcases sg hu h4 with e | ⟨u, v, e⟩
 ·have : cs[0]? = some .nilIface := by rw [← Array.getElem?_toList, e]; rfl
  exact ⟨_, hc.trans this, .inl rfl⟩
 ·have : cs[0]? = some (.iface u v) := by rw [← Array.getElem?_toList, e]; rfl
  exact ⟨_, hc.trans this, .inr ⟨u, v, rfl⟩⟩
theorem Bz {W : World} (h : laidMetH Tryz.prog uS W) (hs : W.ShapedOpen Tryz.prog) : GlobOk (nN W) := by
 rw [MakeChecks.laidMetH_plain _ _ _ (by kernel_rfl)] at h
 obtain ⟨ps, hl, _, _⟩ := h
 obtain ⟨g, t, cs, fuel, p, h1, h2, h3, h4⟩ := uR (n := "internal/strconv.uint64pow10") (d := Rows.laid_internal_strconv_uint64pow10) hl (by simp)
 obtain rfl := Option.some.inj ((show Tryz.prog.globalNamed "internal/strconv.uint64pow10" = some 0 by kernel_rfl).symm.trans h1)
 have h4' : cs.toList = Go.Lib.pow10Tab.map fun z => Value.int .u64 z := by
  refine Go.Lib.cells_of_tab (e := 156) (n := 20) ?_ (by kernel_rfl) (by kernel_rfl) ?_ h4
  ·obtain rfl := Option.some.inj ((show (Tryz.prog.globals[0]?).map (·.type) = some 220 by kernel_rfl).symm.trans h2)
   kernel_rfl
  ·obtain rfl := Option.some.inj ((show (Tryz.prog.globals[0]?).map (·.type) = some 220 by kernel_rfl).symm.trans h2)
   kernel_rfl
 have ht : Go.Lib.TabIs Tryz.prog W "internal/strconv.uint64pow10" .u64 Go.Lib.pow10Tab := by
  unfold Go.Lib.TabIs
  rw [h3, ← h4', Array.toArray_toList]
 obtain ⟨m, hmx⟩ := cell_of_shapedOpen_int (g := 1) (t := 3) (zero := #[.int .i64 0]) (k := .i64) hs (Nat.le_of_ble_eq_true (by kernel_rfl)) (by kernel_rfl) rfl (by kernel_rfl) (by kernel_rfl) (by kernel_rfl)
 obtain ⟨e2, a2, b2⟩ := we (n := "strconv.ErrSyntax") (g := 2) (t := 96) (d := Rows.laid_strconv_ErrSyntax) (by kernel_rfl) (by kernel_rfl) Tryz.underlying96 hl (by simp)
 obtain ⟨e3, a3, b3⟩ := we (n := "strconv.ErrRange") (g := 3) (t := 96) (d := Rows.laid_strconv_ErrRange) (by kernel_rfl) (by kernel_rfl) Tryz.underlying96 hl (by simp)
 intro w O hm
 exact ⟨zf hm ht, ⟨m, qn hm hmx⟩, ⟨e2, qn hm a2, b2⟩, ⟨e3, qn hm a3, b3⟩⟩
end Go.Proofs.YtamgiojcbdbokaaGreatDoor
