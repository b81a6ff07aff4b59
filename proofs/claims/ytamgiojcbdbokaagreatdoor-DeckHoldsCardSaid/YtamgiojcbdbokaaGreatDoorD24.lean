/- deck.Of. -/
import Derived.Test.YtamgiojcbdbokaaGreatDoorD14
namespace Go.Proofs.YtamgiojcbdbokaaGreatDoor
open Go Go.Sx
open Go.Sx (Own)
set_option maxRecDepth 100000
set_option maxHeartbeats 1000000
theorem E1 (x : Int) (H : Heap) (O : Go.Sx.Own) : RetO PP qq ([iV x] ++ []) H O (.bool (decide (x < 0))) := by
 refine rD (vs := [iV x]) (by kernel_rfl) ⟨rfl, trivial⟩ ?_
 simp only [qj]
 exact aa _ (aF _ _) (af ⟨rfl, rfl⟩)
theorem Ee {H : Heap} {v : Value} {l : List Int} (h : Sl H 1 v (aO l)) (O : Go.Sx.Own) : RetO PP cM [v, .func (.func 47) #[] #[]] H O (.bool (l.any fun x => decide (x < 0))) := by
 refine eH (vs := [v, .func (.func 47) #[] #[]]) (by kernel_rfl) ⟨h.one, rfl, trivial⟩ ?_
 simp only [cK]
 have hI : RetO PP dn [v, .func (.func 47) #[] #[]] H O (iV (rV (fun x => decide (x < 0)) l 0)) := by
  refine fG (vs := [v, .func (.func 47) #[] #[]]) (by kernel_rfl) ⟨h.one, rfl, trivial⟩ ?_
  simp only [dm]
  have hl := h.len
  have hB := h.lenB
  have hil : (aO l).length = l.length := by simp [aO]
  rw [hil] at hl hB
  refine aa _ hl ?_
  refine aL l.length (fun i H' O' => O' = O ∧ Heap.le H H' ∧ rV (fun x => decide (x < 0)) l 0 = rV (fun x => decide (x < 0)) (l.drop i) i) ⟨rfl, Heap.le_refl H, by simp⟩ ?_
  rintro i H' O' hi - ⟨rfl, hle, hor⟩
  refine aa _ (aF _ _) (ai (fun hb => ?_) (fun hb => ?_))
  ·have hlt : i < l.length := by simpa using hb
   obtain ⟨a, h1, h2, _, h3, h4⟩ := ((h.le hle).rsl O').idx .i64 i [iV l[i]] (by simp [aO, hlt])
   refine aa _ h1 (ao h2 h3 h4 (mA rfl (ie ju (by decide)) (E1 l[i] H' O') rfl ⟨rfl, trivial⟩ fun H2 hle2 => ai (fun hb => ?_) (fun hb => ?_)))
   ·refine af ⟨?_, rfl⟩
    rw [hor, List.drop_eq_getElem_cons hlt, rV, if_pos hb]; rfl
   ·refine aa _ (aD (by omega)) (az (by simp [Eqs, E]) hlt ⟨rfl, Heap.le_trans hle hle2, ?_⟩)
    rw [hor, List.drop_eq_getElem_cons hlt, rV, if_neg (by rw [hb]; simp)]; rfl
  ·have hge : l.length ≤ i := by simpa using hb
   refine af ⟨?_, rfl⟩
   rw [hor, List.drop_of_length_le hge]; rfl
 refine ak hI rfl ⟨rfl, trivial⟩ fun H1 _ => aa _ (iI _ _) (af ⟨?_, rfl⟩)
 rw [← rU _ l 0 (by omega)]
theorem y4 {H : Heap} {sv : Value} {zs : List Int} (hs : Sl H 1 sv (aO zs)) (hlen : zs.length ≤ 1000) (k1 : Nat) (T : TypeId) :
  Triple PP dM [.func (.func 79) #[] #[.pointer (some ⟨k1, 0, none⟩)]] H [(k1, .cells #[sv] T (0, 0))] fun r H' O' => Sl H' 1 r (aO (cR zs)) ∧ O' = [] := by
 refine (Au hs hlen k1 T).ghost ?_
 intro v H' O' _ hc ho
 obtain ⟨H'', g, k, _⟩ := ho.freeze (X := []) (by simpa using hc)
 exact ⟨H'', [], by simpa using g, k, rfl⟩
def sG (acc : List Cp) (i : Int) : List Cp := match acc.getLast? with
 | some x => if x.card = i then acc.dropLast ++ [⟨i, x.n + 1⟩] else acc ++ [⟨i, 1⟩]
 | none => [⟨i, 1⟩]
def EA (zs : List Int) : List Cp := zs.foldl sG []
def ofV (zs : List Int) : List Cp × Int := if 60 < zs.length then ([], 5) else if (zs.any fun x => decide (x < 0)) = true then ([], 2) else (EA (cR zs), 0)
theorem uC {sl x : Value} {i : Nat} {C : List Value → Heap → Go.Sx.Own → Prop} {l4 : List Value} {v5 : Value} {init : List Cp} {c m : Int} {H : Heap} {O : Go.Sx.Own} {QT : Value → Heap → Go.Sx.Own → Prop} (hO : OSl ar 2 sl ((init ++ [(⟨c, m⟩ : Cp)]).map Cp.row) O) (hi : i + 1 < 2 ^ 63) (hm : 0 ≤ m ∧ m < 1000)
  (hk : ∀ O', OSl ar 2 sl ((init ++ [(⟨c, m + 1⟩ : Cp)]).map Cp.row) O' → (Tree.cont 15 C [sl, iV ((i + 1 : Nat) : Int)] (Es [[g l4 0], [v5]])).den PP QT H O') : (js [sl] [x, iV i] C l4 v5).den PP QT H O := by
 simp only [js]
 have hl := hO.len
 have hlen : ((init ++ [(⟨c, m⟩ : Cp)]).map Cp.row).length = init.length + 1 := by simp
 rw [hlen] at hl
 have hB := hO.lenB
 rw [hlen] at hB
 have hget : ((init ++ [(⟨c, m⟩ : Cp)]).map Cp.row)[init.length]? = some [iV c, iV m] := by simp [Cp.row]
 obtain ⟨a, k1, ksp, _, k3⟩ := hO.idx (O := O) (fun p hp => hp) H (k := .i64) hget
 obtain ⟨a', j1, j2⟩ := hO.store (O := O) (O2 := []) (by simp) (k := .i64) hget
 have haa : a' = a := by rw [k1] at j1; simpa using j1.symm
 subst haa
 have k3' := k3 1 1 (by omega)
 refine aa _ hl ?_
 refine aa (iV ((init.length : Nat) : Int)) ?_ ?_
 ·have : IntKind.i64.wrap (((init.length + 1 : Nat) : Int) - 1) = ((init.length : Nat) : Int) := by rw [iQ (by omega) (by omega)]; omega
  show some (iV (IntKind.i64.wrap (((init.length + 1 : Nat) : Int) - 1))) = _
  rw [this]
 refine aa _ k1 ?_
 refine au rfl ?_
 refine ao (vs := [iV m]) k3' rfl ⟨rfl, trivial⟩ ?_
 refine aa _ (sE (by omega) (by omega)) ?_
 refine aa _ k1 ?_
 refine au rfl (au rfl ?_)
 obtain ⟨O1', s1, s2⟩ := j2 1 [iV (m + 1)] (by simp) ⟨rfl, trivial⟩
 refine ⟨_, s1, ?_⟩
 rw [List.append_nil]
 refine aa _ (aD hi) ?_
 refine hk O1' ?_
 have e : ((init ++ [(⟨c, m⟩ : Cp)]).map Cp.row).set init.length (bQ [iV c, iV m] 1 [iV (m + 1)]) = (init ++ [(⟨c, m + 1⟩ : Cp)]).map Cp.row := by
  rw [List.map_append, List.map_append, List.set_append, if_neg (by simp)]
  simp [bQ, Cp.row]
 rw [← e]; exact s2
theorem wk (i : Int) : sG [] i = [⟨i, 1⟩] := rfl
theorem qc {init : List Cp} {c m : Int} : sG (init ++ [⟨c, m⟩]) c = init ++ [⟨c, m + 1⟩] := by simp [sG]
theorem sF {init : List Cp} {c m i : Int} (h : c ≠ i) : sG (init ++ [⟨c, m⟩]) i = init ++ [⟨c, m⟩] ++ [⟨i, 1⟩] := by simp [sG, h]
def B2 (k : Int) (acc : List Cp) : Prop := ∀ x ∈ acc, 0 ≤ x.n ∧ x.n ≤ k
theorem Dc {acc : List Cp} {k i : Int} (hk : 0 ≤ k) (h : B2 k acc) : B2 (k + 1) (sG acc i) ∧ (sG acc i).length ≤ acc.length + 1 := by
 rcases List.eq_nil_or_concat acc with rfl | ⟨init, x, rfl⟩
 ·rw [wk]
  refine ⟨fun y hy => ?_, by simp⟩
  obtain rfl : y = ⟨i, 1⟩ := by simpa using hy
  exact ⟨by show (0:Int) ≤ 1; omega, by show (1:Int) ≤ k + 1; omega⟩
 ·rw [List.concat_eq_append] at h ⊢
  obtain ⟨c, m⟩ := x
  have hx := h ⟨c, m⟩ (by simp)
  have hi : ∀ y ∈ init, 0 ≤ y.n ∧ y.n ≤ k := fun y hy => h y (by simp [hy])
  by_cases e : c = i
  ·subst e
   rw [qc]
   refine ⟨fun y hy => ?_, by simp⟩
   rcases List.mem_append.1 hy with hy | hy
   ·have := hi y hy; omega
   ·obtain rfl : y = ⟨c, m + 1⟩ := by simpa using hy
    exact ⟨by show (0:Int) ≤ m + 1; have := hx.1; simp at this; omega, by show m + 1 ≤ k + 1; have := hx.2; simp at this; omega⟩
  ·rw [sF e]
   refine ⟨fun y hy => ?_, by simp⟩
   rcases List.mem_append.1 hy with hy | hy
   ·have := h y hy; omega
   ·obtain rfl : y = ⟨i, 1⟩ := by simpa using hy
    exact ⟨by show (0:Int) ≤ 1; omega, by show (1:Int) ≤ k + 1; omega⟩
def FW (zs : List Int) (r : Value) (H' : Heap) (O' : Go.Sx.Own) : Prop := (∃ sl, r = .tuple #[sl, iV (ofV zs).2] ∧ ol H' sl (ofV zs).1) ∧ O' = []
def FX (zs : List Int) (r : Value) (_ : Heap) (O' : Go.Sx.Own) : Prop := ∃ sl, r = .tuple #[sl, iV (ofV zs).2] ∧ OSl ar 2 sl ((ofV zs).1.map Cp.row) O'
theorem E0 {H : Heap} {v : Value} {zs : List Int} (hs : Sl H 1 v (aO zs)) : Triple PP qs [v] H [] (FX zs) := by
 refine uu (vs := [v]) (by kernel_rfl) ⟨hs.one, trivial⟩ ?_
 simp only [uc]
 have hl := hs.len
 have hil : (aO zs).length = zs.length := by simp [aO]
 rw [hil] at hl
 refine aa _ hl (aa _ (cH _ _) (ai (fun hd => ?_) (fun hd => ?_)))
 ·have : 60 < zs.length := by have := of_decide_eq_true hd; omega
  exact af ⟨.slice none 0 0, by rw [ofV, if_pos this], by rw [ofV, if_pos this]; exact OSl.nil _ _⟩
 have h60 : ¬ 60 < zs.length := by have := of_decide_eq_false hd; omega
 refine ak (Ee hs _) rfl ⟨rfl, trivial⟩ fun H1 l1 => ai (fun hd => ?_) (fun hd => ?_)
 ·have hd : (zs.any fun x => decide (x < 0)) = true := hd
  exact af ⟨.slice none 0 0, by rw [ofV, if_neg h60, if_pos hd], by rw [ofV, if_neg h60, if_pos hd]; exact OSl.nil _ _⟩
 have hd : ¬ (zs.any fun x => decide (x < 0)) = true := by have hd : (zs.any fun x => decide (x < 0)) = false := hd; rw [hd]; simp
 have hV : ofV zs = (EA (cR zs), 0) := by rw [ofV, if_neg h60, if_neg hd]
 refine cI (O1 := []) (O2 := []) (by simp) (As v hs.one H1) ?_
 rintro _ H2 _ ⟨k, rfl, rfl⟩ l2
 refine ⟨[_], rfl, ⟨rfl, trivial⟩, ?_⟩
 refine cI (O1 := [(k, .cells #[v] 33 (0, 0))]) (O2 := []) (by simp) (y4 (hs.le (Heap.le_trans l1 l2)) (by omega) k _) ?_
 rintro sv H3 _ ⟨hsv, rfl⟩ l3
 refine ⟨[sv], rfl, ⟨hsv.one, trivial⟩, ?_⟩
 have hzl : (cR zs).length = zs.length := lU zs
 rw [EA] at hV
 generalize cR zs = z at *
 have hsl := hsv.len
 have hzl2 : (aO z).length = z.length := by simp [aO]
 rw [hzl2] at hsl
 refine aa _ hsl ?_
 refine gR (fun vs H' O' => ∃ (i : Nat) (sl : Value), vs = [sl, iV i] ∧ i ≤ z.length ∧ Heap.le H3 H' ∧ OSl ar 2 sl (((z.take i).foldl sG []).map Cp.row) O' ∧ B2 i ((z.take i).foldl sG []) ∧ ((z.take i).foldl sG []).length ≤ i) (fun vs _ _ => match g vs 1 with | .int _ k => z.length + 1 - k.toNat | _ => 0)
  ⟨0, .slice none 0 0, rfl, Nat.zero_le _, Heap.le_refl _, OSl.nil _ _, fun x hx => (by cases hx), Nat.le_refl _⟩ ?_
 rintro _ H4 O4 _ _ _ ⟨i, sl, rfl, hi, hle, hO, hco, hcl⟩
 refine aa _ (aF _ _) (ai (fun hlt => ?_) (fun hge => ?_))
 rotate_left
 ·have hge : z.length ≤ i := by have := of_decide_eq_false hge; omega
  rw [List.take_of_length_le hge] at hO
  exact af ⟨sl, by rw [hV]; rfl, by rw [hV]; exact hO⟩
 have hlt : i < z.length := by have := of_decide_eq_true hlt; omega
 have hstep : (z.take (i + 1)).foldl sG [] = sG ((z.take i).foldl sG []) z[i] := by rw [List.take_add_one, List.getElem?_eq_getElem hlt, Option.toList_some, List.foldl_append]; rfl
 obtain ⟨hco2, hcl2⟩ := Dc (i := z[i]) (by omega) hco
 rw [← hstep] at hco2 hcl2
 obtain ⟨a, k1, k2, _, k3, k4⟩ := ((hsv.le hle).rsl O4).idx .i64 i [iV z[i]] (by simp [aO, hlt])
 refine aa _ k1 (ao k2 k3 k4 ?_)
 have hol := hO.len
 rw [List.length_map] at hol
 refine aa _ hol (aa _ (an _ _) ?_)
 generalize hacc : (z.take i).foldl sG [] = acc at *
 generalize z[i] = zi at *
 rcases List.eq_nil_or_concat acc with rfl | ⟨init, x, rfl⟩
 ·refine ab ?_
  refine aa (iV (-1)) rfl ?_
  refine ab (ab ?_)
  refine ⟨.pointer (some ⟨0, 0, none⟩), fun hg => (by have := hg.1; simp at this), .inr rfl, ?_⟩
  repeat (first | refine ae ?_ | refine ab ?_ | refine au rfl ?_ | refine ⟨fun _ => rfl, ?_⟩)
  refine ldG [iV 0] rfl ⟨rfl, trivial⟩ (fun hg => (by have := hg.1; simp at this)) ?_
  refine ab (ab ?_)
  refine aa _ (dl _ _) ?_
  refine ab ?_
  refine aa _ (aw _ _) (ai (fun _ => ?_) (fun hd => by cases hd))
  refine aj fun r0 => ?_
  refine cB (rows := []) (news := [[iV zi, iV 0]]) (O1 := O4) (O2 := []) (e := ar) (size := 2) (bytes := 16) (by kernel_rfl) (by simp) hO (fun Hf _ hf => Sl.block1 (hf _ List.mem_cons_self) rfl ⟨rfl, rfl, trivial⟩) (by simp) (by simp) ?_
  intro v' O1' H5 l5 hO'
  rw [List.append_nil]
  refine uC (init := []) (c := zi) (m := 0) hO' (by omega) (by omega) fun O5 h5 => ?_
  refine eL (by simp [Eqs, E, Es]) ⟨i + 1, v', rfl, hlt, Heap.le_trans hle l5, by rw [hstep, wk]; exact h5, hco2, by omega⟩ ?_
  show z.length + 1 - ((i + 1 : Nat) : Int).toNat < z.length + 1 - (i : Int).toNat
  omega
 ·rw [List.concat_eq_append] at *
  obtain ⟨c, m⟩ := x
  have hm0 := hco ⟨c, m⟩ (by simp)
  have hm0 : 0 ≤ m ∧ m ≤ (i : Int) := hm0
  have hlen1 : (init ++ [(⟨c, m⟩ : Cp)]).length = init.length + 1 := by simp
  rw [hlen1]
  have hB := hO.lenB
  rw [List.length_map, hlen1] at hB
  have hget : ((init ++ [(⟨c, m⟩ : Cp)]).map Cp.row)[init.length]? = some [iV c, iV m] := by simp [Cp.row]
  obtain ⟨b, q1, _, _, q3⟩ := hO.idx (O := O4) (fun p hp => hp) H4 (k := .i64) hget
  have q3' := q3 0 1 (by omega)
  rw [Dy] at q3'
  have hne0 : ((((init.length + 1 : Nat) : Int)) == 0) = false := by rw [beq_eq_false_iff_ne]; omega
  rw [hne0]
  refine ab ?_
  refine aa (iV ((init.length : Nat) : Int)) ?_ ?_
  ·have : IntKind.i64.wrap (((init.length + 1 : Nat) : Int) - 1) = ((init.length : Nat) : Int) := by rw [iQ (by omega) (by omega)]; omega
   show some (iV (IntKind.i64.wrap (((init.length + 1 : Nat) : Int) - 1))) = _
   rw [this]
  refine ab (ab ?_)
  refine ⟨_, fun _ => q1, .inr rfl, ?_⟩
  repeat (first | refine ae ?_ | refine ab ?_ | refine au rfl ?_ | refine ⟨fun _ => rfl, ?_⟩)
  refine ldG [iV c] rfl ⟨rfl, trivial⟩ (fun _ => q3') ?_
  refine ab (ab ?_)
  refine aa _ (dl _ _) ?_
  refine ab ?_
  refine aa _ (aw _ _) (ai (fun hd => ?_) (fun hd => ?_))
  ·have hne : c ≠ zi := by
    have hd : (false || (c != zi)) = true := hd
    simpa using hd
   refine aj fun r0 => ?_
   refine cB (rows := (init ++ [(⟨c, m⟩ : Cp)]).map Cp.row) (news := [[iV zi, iV 0]]) (O1 := O4) (O2 := []) (e := ar) (size := 2) (bytes := 16) (by kernel_rfl) (by simp) hO (fun Hf _ hf => Sl.block1 (hf _ List.mem_cons_self) rfl ⟨rfl, rfl, trivial⟩) (by simp; simp at hcl; omega) (by simp; simp at hcl; omega) ?_
   intro v' O1' H5 l5 hO'
   rw [List.append_nil]
   refine uC (init := init ++ [(⟨c, m⟩ : Cp)]) (c := zi) (m := 0) (by rw [List.map_append]; exact hO') (by omega) (by omega) fun O5 h5 => ?_
   refine eL (by simp [Eqs, E, Es]) ⟨i + 1, v', rfl, hlt, Heap.le_trans hle l5, by rw [hstep, sF hne]; exact h5, hco2, by omega⟩ ?_
   show z.length + 1 - ((i + 1 : Nat) : Int).toNat < z.length + 1 - (i : Int).toNat
   omega
  ·have he : c = zi := by
    have hd : (false || (c != zi)) = false := hd
    simpa using hd
   subst he
   refine uC (init := init) (c := c) (m := m) hO (by omega) (by omega) fun O5 h5 => ?_
   refine eL (by simp [Eqs, E, Es]) ⟨i + 1, sl, rfl, hlt, hle, by rw [hstep, qc]; exact h5, hco2, by omega⟩ ?_
   show z.length + 1 - ((i + 1 : Nat) : Int).toNat < z.length + 1 - (i : Int).toNat
   omega
theorem FT {H : Heap} {v : Value} {zs : List Int} (hs : Sl H 1 v (aO zs)) : Triple PP qs [v] H [] (FW zs) := by
 refine (E0 hs).ghost ?_
 rintro r H' O' _ hc ⟨sl, rfl, ho⟩
 obtain ⟨H'', g, k, _⟩ := ho.freeze (X := []) (by simpa using hc)
 exact ⟨H'', [], by simpa using g, ⟨sl, rfl, k⟩, rfl⟩
deriving instance DecidableEq for Cp
theorem EX (o p : Cp) : Bm PP (.eqv .neq ar false) [.agg o.row.toArray, .agg p.row.toArray] = some (.bool (!(o == p))) := by
 have e : Bm PP (.eqv .neq ar false) [.agg o.row.toArray, .agg p.row.toArray] = (uT [o.card == p.card, o.n == p.n]).map fun b => .bool (!b) := by kernel_rfl
 rw [e, mw]
 obtain ⟨a, b⟩ := o
 obtain ⟨c, d⟩ := p
 have : ((⟨a, b⟩ : Cp) == ⟨c, d⟩) = (a == c && b == d) := by
  rw [Bool.eq_iff_iff]; simp
 rw [this]
 simp
theorem xY {H : Heap} (O : Go.Sx.Own) {v v' : Value} {l l' : List Cp} (h : ol H v l) (h' : ol H v' l') : RetO PP gy [v, v'] H O (.bool (decide (l = l'))) := by
 refine jY (vs := [v, v']) (by kernel_rfl) ⟨h.one, h'.one, trivial⟩ ?_
 simp only [gq]
 obtain ⟨lo, hB⟩ := lL h
 obtain ⟨lo', _⟩ := lL h'
 refine aa _ lo (aa _ lo' (aa _ (dl _ _) (ai (fun hb => af ⟨?_, rfl⟩) (fun hb => ?_))))
 ·rw [decide_eq_false]; rintro rfl; simp at hb
 have hll : l.length = l'.length := by simp at hb; omega
 refine aL l.length (fun i H' O' => O' = O ∧ Heap.le H H' ∧ l.take i = l'.take i) ⟨rfl, Heap.le_refl H, by simp⟩ ?_
 rintro i H4 O' hi - ⟨rfl, l4, hor⟩
 refine aa _ lo ?_
 refine aa _ (aF _ _) (ai (fun hb => ?_) (fun hb => ?_))
 ·have hlt : i < l.length := by simpa using hb
  have hlt' : i < l'.length := by omega
  obtain ⟨p, h1, h2, _, _⟩ := wU O' (h.le l4) hlt
  obtain ⟨q, k1, k2, _, _⟩ := wU O' (h'.le l4) hlt'
  refine aa _ h1 (ao h2 rfl ⟨rfl, rfl, trivial⟩ ?_)
  refine aa _ k1 (ao k2 rfl ⟨rfl, rfl, trivial⟩ ?_)
  refine vz (EX l[i] l'[i]) (ai (fun hb => af ⟨?_, rfl⟩) (fun hb => ?_))
  ·have hne : l[i] ≠ l'[i] := by simpa using hb
   rw [decide_eq_false]; rintro rfl; exact hne rfl
  ·have he : l[i] = l'[i] := by simpa using hb
   refine aa _ (aD (by omega)) (az (by simp [Eqs, E]) hlt ⟨rfl, l4, ?_⟩)
   rw [List.take_add_one, List.take_add_one, hor, List.getElem?_eq_getElem hlt, List.getElem?_eq_getElem hlt', he]
 ·have hge : l.length ≤ i := by simpa using hb
  rw [List.take_of_length_le hge, List.take_of_length_le (by omega)] at hor
  exact af ⟨by rw [decide_eq_true hor], rfl⟩
theorem A2 {H : Heap} {v v' : Value} {zs : List Int} {l : List Cp} (hs : Sl H 1 v (aO zs)) (h' : ol H v' l) (e : Int) : RetO PP dL [v, v', iV e] H [] (.bool (decide ((ofV zs).1 = l) && (ofV zs).2 == e)) := by
 refine j3 (vs := [v, v', iV e]) (by kernel_rfl) ⟨hs.one, h'.one, rfl, trivial⟩ ?_
 simp only [gw]
 refine bn (FT hs) ?_
 rintro _ H1 _ ⟨⟨sl, rfl, h1⟩, rfl⟩ l1
 refine ⟨[sl, iV (ofV zs).2], rfl, ⟨h1.one, rfl, trivial⟩, ?_⟩
 refine ak (xY _ h1 (h'.le l1)) rfl ⟨rfl, trivial⟩ fun H2 l2 => ?_
 refine ab (ab (aa _ (an _ _) (ab (aa _ (ap _ _) ?_))))
 exact af ⟨rfl, rfl⟩
theorem Ao {H : Heap} {p v : Value} {cs : List CdF} (hp : PoolF H p cs) (hG : GlobOk H) {s : List UInt8} (hs : s.length ≤ 1000) {l : List Cp} (h' : ol H v l) (m e : Int) : RetO PP cZ [p, Str s, v, iV m, iV e] H [] (.bool ((decide ((cG cs s).1 = l) && (cG cs s).2.1 == m) && (cG cs s).2.2 == e)) := by
 refine iU (vs := [p, Str s, v, iV m, iV e]) (by kernel_rfl) ⟨hp.one, rfl, h'.one, rfl, rfl, trivial⟩ ?_
 simp only [eR]
 refine bn (CG hp hG s hs) ?_
 rintro _ H1 _ ⟨⟨sl, rfl, h1⟩, rfl⟩ l1
 refine ⟨[sl, iV (cG cs s).2.1, iV (cG cs s).2.2], rfl, ⟨h1.one, rfl, rfl, trivial⟩, ?_⟩
 refine ak (xY _ h1 (h'.le l1)) rfl ⟨rfl, trivial⟩ fun H2 l2 => ?_
 refine ab (ab (aa _ (an _ _) (ab (aa _ (ap _ _) (ab (ab (aa _ (an _ _) (ab (aa _ (ap _ _) ?_)))))))))
 exact af ⟨rfl, rfl⟩
theorem Bf : PP.underlying 33 = some (.slice 3) := by kernel_rfl
theorem FN : ∃ i, PP.info? 3 = some i ∧ i.size = 1 := by
 have h : (PP.info? 3).map (·.size) = some 1 := by kernel_rfl
 cases hi : PP.info? 3 with
 | none => rw [hi] at h; cases h
 | some i => rw [hi] at h; exact ⟨i, rfl, by simpa using h⟩
theorem DY (n : Nat) (hn : n < 1000) (H : Heap) (O : Go.Sx.Own) : RetO PP 57 [.int .u64 1, .int .u64 n] H O (.tuple #[.int .u64 0, .int .u64 n]) := by
 refine dN fun w F hm => ?_
 refine (Tryz.bits_Mul 1 n (by omega) (by omega) w).mono ?_
 rintro e w' ⟨rfl, rfl⟩
 refine ⟨?_, fun _ _ => rfl, rfl⟩
 have h1 : 1 * n / 18446744073709551616 = 0 := by omega
 have h2 : 1 * n % 18446744073709551616 = n := by omega
 rw [h1, h2]; rfl
theorem zB {r n cap k : Nat} (hk : k < n) (hn : n ≤ cap) : ah (.slc 1 true false false) [.slice (some ⟨r, 0, none⟩) n cap, iV k] = some (.slice (some ⟨r, k, none⟩) (n - k) (cap - k)) := by
 have hb : aG n cap (some (.int .i64 (k : Int))) none none = some (k, n, cap) := by
  have h1 : k ≤ n := by omega
  simp [aG, a8, bP, iM, asI, h1]
 simp only [ah, ct, fc, hb, Option.map_some]
 have hnk : cap ≠ k := by omega
 by_cases h0 : k = 0
 ·subst h0; simp [hnk, Addr.add]
 ·simp [hnk, h0, Addr.add]
theorem zA {r n cap k : Nat} (hk : k ≤ n) (hn : n ≤ cap) : ah (.slc 1 false true false) [.slice (some ⟨r, 0, none⟩) n cap, iV k] = some (.slice (some ⟨r, 0, none⟩) k cap) := by
 have hb : aG n cap none (some (.int .i64 (k : Int))) none = some (0, k, cap) := by
  have h1 : k ≤ cap := by omega
  simp [aG, a8, bP, iM, asI, h1]
 simp only [ah, ct, fc, hb, Option.map_some]
 simp [Addr.add]
theorem vx {c : Int} {k n m : Nat} {sp : List Value} (h : k + m ≤ n) :
  ((List.replicate k (iV c) ++ List.replicate (n - k) (iV 0) ++ sp).take k ++ List.replicate m (iV c) ++ (List.replicate k (iV c) ++ List.replicate (n - k) (iV 0) ++ sp).drop (k + m)) = List.replicate (k + m) (iV c) ++ List.replicate (n - (k + m)) (iV 0) ++ sp := by
 have e1 : (List.replicate k (iV c) ++ List.replicate (n - k) (iV 0) ++ sp).take k = List.replicate k (iV c) := by
  rw [List.append_assoc, List.take_append_of_le_length (by simp), List.take_of_length_le (by simp)]
 have e2 : (List.replicate k (iV c) ++ List.replicate (n - k) (iV 0) ++ sp).drop (k + m) = List.replicate (n - (k + m)) (iV 0) ++ sp := by
  rw [List.append_assoc, List.drop_append, List.drop_of_length_le (by simp), List.nil_append, List.length_replicate, Nat.add_sub_cancel_left, List.drop_append_of_le_length (by simp; omega), List.drop_replicate]
  congr 2; omega
 rw [e1, e2, List.replicate_append_replicate, List.append_assoc]
abbrev ww (c : Int) (k n : Nat) (sp : List Value) : List Value := List.replicate k (iV c) ++ List.replicate (n - k) (iV 0) ++ sp
theorem Av {H : Heap} {r1 : Nat} {T : TypeId} {c : Int} (h1 : H r1 = some (.cells #[iV c] T (0, 0))) (hT : T = 3) {n : Nat} (hn1 : 1 ≤ n) (hn : n ≤ 60) :
  Triple PP ek [.slice (some ⟨r1, 0, none⟩) 1 1, iV n] H [] fun v _ O' => OSl dR 1 v (aO (List.replicate n c)) O' := by
 subst hT
 refine ic (vs := [.slice (some ⟨r1, 0, none⟩) 1 1, iV n]) (by kernel_rfl) ⟨rfl, rfl, trivial⟩ ?_
 simp only [eh]
 refine aa _ (aF _ _) (ai (fun hd => ?_) (fun _ => ?_))
 ·exfalso; have := of_decide_eq_true hd; omega
 refine aa (iV 1) rfl ?_
 refine aa (.int .u64 1) rfl ?_
 refine aa (.int .u64 n) ?_ ?_
 ·have : IntKind.u64.wrap (n : Int) = n := by simp only [IntKind.wrap, IntKind.bits, IntKind.signed]; simp; omega
  show some (Value.int .u64 (IntKind.u64.wrap (n : Int))) = _
  rw [this]
 refine ak (DY n (by omega) _ _) rfl (vs := [.int .u64 0, .int .u64 n]) ⟨rfl, rfl, trivial⟩ fun H1 l1 => ?_
 have h1 := l1.1 _ _ h1
 refine aa (.bool false) rfl ?_
 refine ab ?_
 refine aa (.bool false) ?_ ?_
 ·show some (Value.bool (decide ((n : Int) > 9223372036854775807))) = _
  rw [decide_eq_false (by omega)]
 refine ab ?_
 refine aa (.bool false) rfl (ai (fun hd => by cases hd) (fun _ => ?_))
 refine aa (iV n) ?_ ?_
 ·have : IntKind.i64.wrap (n : Int) = n := iQ (by omega) (by omega)
  show some (iV (IntKind.i64.wrap (n : Int))) = _
  rw [this]
 refine zV Bf (by kernel_rfl) (by kernel_rfl) (by kernel_rfl) (z := iV 0) rfl (by omega) fun v A hA => ?_
 rw [List.append_nil]
 obtain ⟨i, hi, hsz⟩ := FN
 rcases hA with ⟨_, hnil, _⟩ | ⟨r, cs, cap, rfl, rfl, hcl, hlc, _, _, _, ht⟩
 ·exfalso
  have := congrArg List.length hnil
  rw [List.length_replicate] at this
  simp at this; omega
 have hrl : (List.replicate n [iV 0]).length = n := List.length_replicate
 rw [hrl] at hlc ht ⊢
 rw [Nat.mul_one] at hcl ht
 have hcs : cs = ww c 0 n (cs.drop n) := by
  have h := List.take_append_drop n cs
  rw [ht] at h
  rw [ww, List.replicate_zero, List.nil_append, Nat.sub_zero, oz]
  exact h.symm
 generalize hsp : cs.drop n = sp at hcs
 have hspl : sp.length = cap - n := by rw [← hsp, List.length_drop, hcl]
 subst hcs
 have key0 := vx (c := c) (k := 0) (n := n) (m := 1) (sp := sp) (by omega)
 refine tW (r := r) (off := 0) (cs := ww c 0 n sp) (e := 3) (O2 := []) (m := 1) (k := 1) (src := [iV c]) Bf hi (by simp) (fun _ => rfl) (by omega) (fun w F hm => by rw [hsz]; exact yK hm h1 (by simp)) (by simp [hspl]; omega) (fun v hv => (List.mem_singleton.1 hv ▸ rfl)) ?_
 have key0' : (ww c 0 n sp).take 0 ++ [iV c] ++ (ww c 0 n sp).drop (0 + [iV c].length) = ww c 1 n sp := by
  have := key0
  rw [Nat.zero_add] at this
  exact this
 rw [key0', List.append_nil]
 refine gR (fun vs H' O' => ∃ k : Nat, vs = [iV k] ∧ 1 ≤ k ∧ k ≤ n ∧ O' = [(r, .cells (ww c k n sp).toArray 3 (0, 0))] ∧ Heap.le H1 H') (fun vs _ _ => match g vs 0 with | .int _ k => n + 1 - k.toNat | _ => 0) ⟨1, rfl, Nat.le_refl _, hn1, rfl, Heap.le_refl _⟩ ?_
 rintro _ H2 _ _ _ _ ⟨k, rfl, hk1, hkn, rfl, l2⟩
 refine aa (iV n) rfl ?_
 refine aa _ (aF _ _) (ai (fun hd => ?_) (fun hd => ?_))
 ·have hlt : k < n := by have := of_decide_eq_true hd; omega
  refine aa _ (zB hlt hlc) (aa _ (zA hkn hlc) ?_)
  have hlen : (ww c k n sp).length = cap := by simp [hspl]; omega
  have hsrc : ((ww c k n sp).drop 0).take (min k (n - k) * 1) = List.replicate (min k (n - k)) (iV c) := by
   rw [List.drop_zero, Nat.mul_one, ww, List.append_assoc, List.take_append_of_le_length (by simp; omega), List.take_replicate]
   congr 1; omega
  refine tW (r := r) (off := k) (cs := ww c k n sp) (e := 3) (O2 := []) (m := k) (k := min k (n - k)) (src := List.replicate (min k (n - k)) (iV c)) Bf hi (by simp) (fun _ => rfl) rfl (fun w F hm => by rw [hsz, ← hsrc]; exact yJ hm (by omega)) (by rw [List.length_replicate, hlen]; omega) (fun v hv => by rw [(List.mem_replicate.1 hv).2]; rfl) ?_
  rw [List.length_replicate, vx (by omega), List.append_nil]
  refine aa _ (ze (by omega)) (eL (by simp [Eqs, E]) ⟨k + min k (n - k), rfl, by omega, by omega, rfl, l2⟩ ?_)
  show n + 1 - ((k + min k (n - k) : Nat) : Int).toNat < n + 1 - (k : Int).toNat
  omega
 ·have hge : k = n := by have := of_decide_eq_false hd; omega
  subst hge
  have e1 : (aO (List.replicate k c)).length = k := by simp [aO]
  refine af (.inr ⟨r, ww c k k sp, cap, by rw [e1]; rfl, rfl, by simp [hspl]; omega, by rw [e1]; exact hlc, by omega, ?_, ?_, ?_⟩)
  ·intro x hx; obtain ⟨y, _, rfl⟩ := List.mem_map.1 hx; rfl
  ·intro x hx; obtain ⟨y, _, rfl⟩ := List.mem_map.1 hx; exact ⟨rfl, trivial⟩
  ·rw [e1, Nat.mul_one, ww, Nat.sub_self, List.replicate_zero, List.append_nil, List.take_append_of_le_length (by simp), List.take_of_length_le (by simp), aO, List.map_replicate, ← oz]
theorem tV {T : Heap → Go.Sx.Own → (Value → Heap → Go.Sx.Own → Prop) → Prop} {e : TypeId} {size : Nat} {v : Value} {rows : List (List Value)} {H : Heap} {O O1 X : Go.Sx.Own} {shp : Shp} {K : List Value → List (List Value) → Heap → Go.Sx.Own → Prop}
  (h : OSl e size v rows O1) (hp : O.Perm (O1 ++ X)) (hk : ∀ H', Heap.le H H' → Sl H' size v rows → cg T false [] [] shp K H' X) : cg T false [] [] shp K H O := by
 intro hc
 have hc' : Cons H O := by simpa using hc
 have hc2 := hc'.perm hp
 obtain ⟨H', g, k, l⟩ := h.freeze (X := X) hc2
 have hg : Ghost H O H' X := (Ghost.perm hp).trans g
 obtain ⟨H1, O1', O2, Q, g2, h2, h3⟩ := hk H' l k (by simpa using hc'.ghost hg)
 exact ⟨H1, O1', O2, Q, hg.trans g2, h2, h3⟩
theorem wZ {P : Program} {f : FuncId} {args : List Value} {H : Heap} {O : Go.Sx.Own} {frz : List BV} {shp : Shp} {R : Value → Heap → Go.Sx.Own → Prop} {K : List Value → List (List Value) → Heap → Go.Sx.Own → Prop}
  (h : ∀ Hf, Heap.le H Hf → (∀ b ∈ frz, Hf b.r = some b.obj.2) → Triple P f args Hf [] R) (hk : ∀ v H' O3, R v H' O3 → Heap.le H H' → ∃ vs, shp.open v = some vs ∧ Ones vs ∧ K vs [] H' (O3 ++ O)) :
  cg (fun H1 O1 R => Triple P f args H1 O1 R) false frz [] shp K H O := by
 intro hc
 have hf := dP hc
 refine ⟨H.insAll frz, [], O, _, Ghost.refl _ _, h _ (Heap.le_insAll frz H) hf, ?_⟩
 intro v H' O' hr hle
 obtain ⟨vs, h1, h2, h3⟩ := hk v H' O' hr (Heap.le_trans (Heap.le_insAll frz H) hle)
 exact ⟨vs, [], O', h1, h2, trivial, rfl, h3⟩
def b9 (l : List Cp) : List Int := l.flatMap fun x => List.replicate x.n.toNat x.card
theorem kT {cs : List CdF} : ∀ {l : List Cp}, (∀ x ∈ l, dz cs x) → ((b9 l).length : Int) = lT l
 | [], _ => rfl
 | x :: l, h => by
  have ih := kT (l := l) fun y hy => h y (List.mem_cons_of_mem _ hy)
  obtain ⟨_, h1, _⟩ := h x List.mem_cons_self
  rw [lT, b9, List.flatMap_cons, List.length_append, List.length_replicate, ← ih, b9]
  omega
theorem uU {l : List Cp} {i : Nat} (hi : i < l.length) : b9 (l.take (i + 1)) = b9 (l.take i) ++ List.replicate l[i].n.toNat l[i].card := by
 rw [List.take_add_one, List.getElem?_eq_getElem hi, Option.toList_some, b9, List.flatMap_append, List.flatMap_singleton]
 rfl
theorem yX {cs : List CdF} {l : List Cp} (h : Be cs l) (i : Nat) : (b9 (l.take i)).length ≤ 60 := by
 have h1 := kT (xx h.1 i)
 have h2 := sL h.1 i
 have := h.2.2.2
 omega
def eu (cs : List CdF) (l : List Cp) : List Int × Int := if (aE cs l).2 = 0 then (b9 l, 0) else ([], (aE cs l).2)
theorem Ax {H : Heap} {p : Value} {cs : List CdF} (h : PoolF H p cs) {v : Value} {l : List Cp} (hl : ol H v l) (hb : l.length ≤ 1000000) : Triple PP kC [p, v] H [] fun r _ O' => ∃ sl, r = .tuple #[sl, iV (eu cs l).2] ∧ OSl dR 1 sl (aO (eu cs l).1) O' := by
 refine qz (vs := [p, v]) (by kernel_rfl) ⟨h.one, hl.one, trivial⟩ ?_
 simp only [nS]
 obtain ⟨vlen, hB⟩ := lL hl
 refine ak (ni h hl hb) rfl (vs := [iV (aE cs l).1, iV (aE cs l).2]) ⟨rfl, rfl, trivial⟩ fun H1 l1 => ?_
 refine aa _ (dl _ _) (ai (fun hd => ?_) (fun hd => ?_))
 ·have he : (aE cs l).2 ≠ 0 := by simpa using hd
  exact af ⟨.slice none 0 0, by rw [eu, if_neg he]; rfl, by rw [eu, if_neg he]; exact OSl.nil _ _⟩
 have he : (aE cs l).2 = 0 := by simpa using hd
 have hval := (tL he).1
 have hR : eu cs l = (b9 l, 0) := by rw [eu, if_pos he]
 have hl := hl.le l1
 refine aa _ vlen ?_
 refine fV l.length (fun i x H' O' => OSl dR 1 x (aO (b9 (l.take i))) O' ∧ Heap.le H1 H') ⟨OSl.nil _ _, Heap.le_refl _⟩ ?_
 rintro i x H2 O2 hi - ⟨hO, l2⟩
 refine aa _ (aF _ _) (ai (fun hlt => ?_) (fun hge => ?_))
 ·have hlt : i < l.length := by have := of_decide_eq_true hlt; omega
  obtain ⟨a, k1, k2, _, _⟩ := wU O2 (hl.le l2) hlt
  have hs := uU hlt
  have hbd := yX hval (i + 1)
  obtain ⟨_, w1, w2, _⟩ := hval.1 _ (List.getElem_mem hlt)
  rw [hs] at hbd
  generalize l[i] = y at *
  obtain ⟨n, hn⟩ : ∃ n : Nat, y.n = (n : Int) := ⟨y.n.toNat, by omega⟩
  have hnn : y.n.toNat = n := by omega
  rw [hnn] at hs hbd
  simp only [List.length_append, List.length_replicate] at hbd
  refine aa _ k1 (ao k2 rfl ⟨rfl, rfl, trivial⟩ (aj fun r0 => ?_))
  refine ae (ae ?_)
  refine aj fun r1 => ?_
  refine ae ?_
  rw [show g y.row 1 = iV (n : Int) from by rw [← hn]; rfl]
  refine wZ (fun Hf _ hf => Av (c := y.card) (hf ⟨r1, _, [iV y.card]⟩ List.mem_cons_self) rfl (n := n) (by omega) (by omega)) ?_
  intro rv H3 O3 hrep l3
  refine ⟨[rv], rfl, ⟨hrep.one, trivial⟩, ?_⟩
  refine tV hrep (List.Perm.refl _) fun H4 l4 hsl => ?_
  have e1 : (aO (b9 (l.take i))).length = (b9 (l.take i)).length := by simp [aO]
  have e2 : (aO (List.replicate n y.card)).length = n := by simp [aO]
  refine cB (rows := aO (b9 (l.take i))) (news := aO (List.replicate n y.card)) (O1 := O2) (O2 := []) (e := dR) (size := 1) (bytes := 8) (by kernel_rfl) (by simp) hO (fun Hf hle _ => hsl.le hle) (by rw [e1, e2]; omega) (by rw [e1, e2]; omega) ?_
  intro v' O1' H5 l5 hO'
  refine aa _ (aD (by omega)) (bO (by simp [Eqs, E]) hlt ⟨?_, Heap.le_trans l2 (Heap.le_trans l3 (Heap.le_trans l4 l5))⟩)
  rw [hs, List.append_nil, show aO (b9 (l.take i) ++ List.replicate n y.card) = aO (b9 (l.take i)) ++ aO (List.replicate n y.card) from by simp [aO]]
  exact hO'
 ·have hge : l.length ≤ i := by have := of_decide_eq_false hge; omega
  rw [List.take_of_length_le hge] at hO
  exact af ⟨x, by rw [hR]; rfl, by rw [hR]; exact hO⟩
theorem Az {H : Heap} {p : Value} {cs : List CdF} (h : PoolF H p cs) {v : Value} {l : List Cp} (hl : ol H v l) (hb : l.length ≤ 1000000) : Triple PP kC [p, v] H [] fun r H' O' => (∃ sl, r = .tuple #[sl, iV (eu cs l).2] ∧ Sl H' 1 sl (aO (eu cs l).1)) ∧ O' = [] := by
 refine (Ax h hl hb).ghost ?_
 rintro r H' O' _ hc ⟨sl, rfl, ho⟩
 obtain ⟨H'', g, k, _⟩ := ho.freeze (X := []) (by simpa using hc)
 exact ⟨H'', [], by simpa using g, ⟨sl, rfl, k⟩, rfl⟩
theorem sg {n : Nat} (h : n < 10) : Go.Lib.decDigits n = [UInt8.ofNat (48 + n)] := by rw [Go.Lib.decDigits, dif_pos h]
theorem yP {n : Nat} (h : ¬ n < 10) : Go.Lib.decDigits n = Go.Lib.decDigits (n / 10) ++ [UInt8.ofNat (48 + n % 10)] := by rw [Go.Lib.decDigits, dif_neg h]
theorem yQ {n : Nat} (h : n < 100) : (Go.Lib.decDigits n).length ≤ 2 := by
 by_cases h1 : n < 10
 ·rw [sg h1]; simp
 ·rw [yP h1, sg (by omega)]; simp
theorem CJ (n : Nat) (h : n < 100) (H : Heap) (O : Go.Sx.Own) : RetO PP 40 [iV n] H O (Str (Go.Lib.decDigits n)) := by
 refine dN fun w F hm => ?_
 refine (Tryz.strconv_Itoa_small n h w).mono ?_
 rintro e w' ⟨rfl, rfl⟩
 exact ⟨rfl, fun _ _ => rfl, rfl⟩
def iF (cs : List CdF) (x : Cp) : List UInt8 := Go.Lib.decDigits x.n.toNat ++ [32] ++ (eo cs x.card).nm ++ [10]
def aR (cs : List CdF) (l : List Cp) : List UInt8 := l.flatMap (iF cs)
theorem yk {c : CdF} (h : okN c) : 1 ≤ c.nm.length ∧ c.nm.length ≤ 32 := by
 have h := h.1
 simp only [jv, wi, Bool.and_eq_true, decide_eq_true_eq] at h
 omega
theorem mz {cs : List CdF} {i : Int} (h : inP cs i) : eo cs i ∈ cs := by
 have hlt : i.toNat < cs.length := by have := h.1; have := h.2; omega
 rw [eo, if_pos h, List.getD_eq_getElem?_getD, List.getElem?_eq_getElem hlt]
 exact List.getElem_mem hlt
theorem vO {cs : List CdF} (hk : ∀ c ∈ cs, okN c) {x : Cp} (hx : dz cs x) : (iF cs x).length ≤ 36 ∧ 4 ≤ (iF cs x).length ∨ (iF cs x).length ≤ 36 := by
 right
 have h1 := (yk (hk _ (mz hx.1))).2
 have h2 := yQ (n := x.n.toNat) (by have := hx.2.1; have := hx.2.2.1; omega)
 simp only [iF, List.length_append, List.length_singleton]
 omega
theorem xw {cs : List CdF} {l : List Cp} {i : Nat} (hi : i < l.length) : aR cs (l.take (i + 1)) = aR cs (l.take i) ++ iF cs l[i] := by
 rw [List.take_add_one, List.getElem?_eq_getElem hi, Option.toList_some, aR, List.flatMap_append, List.flatMap_singleton]
 rfl
theorem yV {cs : List CdF} : ∀ l : List Cp, lP cs 0 l = lT l
 | [] => rfl
 | x :: l => by rw [lP, lT, yV l, if_pos (by simp [kB])]
theorem yT {cs : List CdF} (hk : ∀ c ∈ cs, okN c) : ∀ {l : List Cp}, (∀ x ∈ l, dz cs x) → ((lP cs 1 l + lP cs 2 l) + lP cs 3 l) + lP cs 4 l = lT l
 | [], _ => rfl
 | x :: l, h => by
  have ih := yT hk (l := l) fun y hy => h y (List.mem_cons_of_mem _ hy)
  obtain ⟨hin, _⟩ := h x List.mem_cons_self
  have hkd := (hk _ (mz hin)).2
  have : (eo cs x.card).kind = 1 ∨ (eo cs x.card).kind = 2 ∨ (eo cs x.card).kind = 3 ∨ (eo cs x.card).kind = 4 := by omega
  simp only [lP, lT]
  have hb : ∀ k, kB cs k x = (k == 0 || (eo cs x.card).kind == k) := fun _ => rfl
  generalize (eo cs x.card).kind = kd at *
  have b1 := hb 1
  have b2 := hb 2
  have b3 := hb 3
  have b4 := hb 4
  rcases this with rfl | rfl | rfl | rfl
  ·rw [show kB cs 1 x = true from b1, show kB cs 2 x = false from b2, show kB cs 3 x = false from b3, show kB cs 4 x = false from b4]; simp; omega
  ·rw [show kB cs 1 x = false from b1, show kB cs 2 x = true from b2, show kB cs 3 x = false from b3, show kB cs 4 x = false from b4]; simp; omega
  ·rw [show kB cs 1 x = false from b1, show kB cs 2 x = false from b2, show kB cs 3 x = true from b3, show kB cs 4 x = false from b4]; simp; omega
  ·rw [show kB cs 1 x = false from b1, show kB cs 2 x = false from b2, show kB cs 3 x = false from b3, show kB cs 4 x = true from b4]; simp; omega
theorem zd {init : List Cp} {c : Int} : ∀ (n : Nat) (m : Int), (List.replicate n c).foldl sG (init ++ [⟨c, m⟩]) = init ++ [⟨c, m + n⟩]
 | 0, m => by simp
 | n + 1, m => by
  rw [List.replicate_succ, List.foldl_cons, qc, zd n (m + 1)]
  congr 3
  omega
theorem xm {init : List Cp} {b c : Int} (h : ∀ x, init.getLast? = some x → x.card < c) : sG init c = init ++ [⟨c, 1⟩] := by
 rcases List.eq_nil_or_concat init with rfl | ⟨i, x, rfl⟩
 ·rfl
 ·rw [List.concat_eq_append] at *
  obtain ⟨d, m⟩ := x
  have := h ⟨d, m⟩ (by simp)
  rw [sF (by have : d < c := this; omega)]
theorem tB {cs : List CdF} : ∀ (l init : List Cp), (∀ x ∈ l, dz cs x) → (∀ x, init.getLast? = some x → xn x.card l) → (∀ b, init = [] → xn b l ∨ True) → (init = [] → ∃ b, xn b l) → (b9 l).foldl sG init = init ++ l
 | [], init, _, _, _, _ => by simp [b9]
 | x :: l, init, h, hi, _, hn => by
  obtain ⟨_, w1, w2, _⟩ := h x List.mem_cons_self
  obtain ⟨n, hn'⟩ : ∃ n : Nat, x.n = ((n + 1 : Nat) : Int) := ⟨x.n.toNat - 1, by omega⟩
  have hnn : x.n.toNat = n + 1 := by omega
  have hincr : xn x.card l := by
   cases hl : init.getLast? with
   | some y => exact (hi y hl).2
   | none =>
    obtain ⟨b, hb⟩ := hn (by simpa using hl)
    exact hb.2
  have hfirst : sG init x.card = init ++ [⟨x.card, 1⟩] := xm (b := 0) fun y hy => (hi y hy).1
  have hx : (⟨x.card, 1 + (n : Int)⟩ : Cp) = x := by
   obtain ⟨c, m⟩ := x
   simp only at hn' ⊢
   rw [hn']; congr 1; omega
  rw [b9, List.flatMap_cons, hnn, List.replicate_succ, List.foldl_append, List.foldl_cons, hfirst, zd, hx]
  have := tB l (init ++ [x]) (fun y hy => h y (List.mem_cons_of_mem _ hy)) (fun y hy => by simp at hy; subst hy; exact hincr) (fun _ _ => .inr trivial) (fun e => by simp at e)
  rw [b9] at this
  rw [this, List.append_assoc]; rfl
theorem sn : ∀ {l : List Cp} {b : Int}, xn b l → ∀ y ∈ b9 l, b < y
 | [], _, _, y, hy => by simp [b9] at hy
 | x :: l, b, h, y, hy => by
  rw [b9, List.flatMap_cons] at hy
  rcases List.mem_append.1 hy with hy | hy
  ·rw [(List.mem_replicate.1 hy).2]; exact h.1
  ·have := sn h.2 y hy
   have := h.1
   omega
theorem nI : ∀ {l : List Cp} {b : Int}, xn b l → (b9 l).Pairwise fun x y => decide (x ≤ y) = true
 | [], _, _ => by simp [b9]
 | x :: l, b, h => by
  rw [b9, List.flatMap_cons, List.pairwise_append]
  refine ⟨?_, nI h.2, fun a ha c hc => ?_⟩
  ·rw [List.pairwise_replicate]; right; simp
  ·rw [(List.mem_replicate.1 ha).2]
   have := sn h.2 c hc
   simp; omega
theorem zP {cs : List CdF} {l : List Cp} (h : Be cs l) : ofV (b9 l) = (l, 0) := by
 have hlen := kT h.1
 have h60 := h.2.2.2
 have h0 := sn h.2.1
 rw [ofV, if_neg (by omega), if_neg, cR, List.mergeSort_of_pairwise (nI h.2.1), EA, tB l [] h.1 (fun x hx => by simp at hx) (fun _ _ => .inr trivial) (fun _ => ⟨-1, h.2.1⟩)]
 ·rfl
 ·rw [Bool.not_eq_true, List.any_eq_false]
  intro y hy
  have := h0 y hy
  simp; omega
def BS (n : Nat) : List UInt8 := if n < 10 then [UInt8.ofNat (48 + n)] else [UInt8.ofNat (48 + n / 10), UInt8.ofNat (48 + n % 10)]
theorem uO {n : Nat} (h : n < 100) : Go.Lib.decDigits n = BS n := by
 rw [BS]
 split
 ·rename_i h1; exact sg h1
 ·rename_i h1; rw [yP h1, sg (by omega)]; rfl
theorem Aj : ∀ n : Fin 61, Go.Lib.atoiAll (BS n.1) = .ok (n.1 : Int) := by decide
theorem DN : ∀ n : Fin 61, (32 : UInt8) ∉ BS n.1 := by decide
theorem yB : ∀ (a b : List UInt8) (c : UInt8), c ∉ a → Go.Lib.indexByte (a ++ c :: b) c = a.length
 | [], b, c, _ => by simp [Go.Lib.indexByte]
 | x :: a, b, c, h => by
  have hx : (x == c) = false := by rw [beq_eq_false_iff_ne]; rintro rfl; exact h List.mem_cons_self
  have ih := yB a b c fun hm => h (List.mem_cons_of_mem _ hm)
  rw [List.cons_append, Go.Lib.indexByte, hx, if_neg (by simp), ih]
  have : ((a.length : Int) == -1) = false := by rw [beq_eq_false_iff_ne]; omega
  rw [this, if_neg (by simp), List.length_cons]
  omega
theorem BX {a b : List UInt8} (h : (32 : UInt8) ∉ a) : Go.Lib.cut (a ++ 32 :: b) [32] = (a, b, true) := by
 rw [Go.Lib.cut, Go.Lib.index_one, yB a b 32 h, if_pos (by omega)]
 simp
theorem xB (y : List UInt8) : Go.Lib.hasSuffix (y ++ [10]) [10] = true := by
 rw [Go.Lib.hasSuffix, List.isSuffixOf_iff_suffix]; exact List.suffix_append _ _
theorem zt (y : List UInt8) : Go.Lib.trimSuffix (y ++ [10]) [10] = y := by
 rw [Go.Lib.trimSuffix, xB, if_pos rfl]; simp
theorem Af {cs : List CdF} (hnd : (cs.map (·.nm)).Nodup) {j : Nat} (hj : j < cs.length) : fM cs cs[j].nm = some j := by
 rw [fM, List.findIdx?_eq_some_iff_getElem]
 refine ⟨hj, by simp, fun i hi => ?_⟩
 have := (List.pairwise_iff_getElem.1 hnd) i j (by rw [List.length_map]; omega) (by rw [List.length_map]; exact hj) hi
 rw [List.getElem_map, List.getElem_map] at this
 simpa using fun e => this e.symm
theorem xW {cs : List CdF} (hk : ∀ c ∈ cs, okN c) (hnd : (cs.map (·.nm)).Nodup) {x : Cp} (hx : dz cs x) : du cs (iF cs x) = ((x.card, x.n), 0) := by
 obtain ⟨hin, w1, w2, _⟩ := hx
 obtain ⟨n, hn⟩ : ∃ n : Nat, x.n = (n : Int) := ⟨x.n.toNat, by omega⟩
 have hnn : x.n.toNat = n := by omega
 have hn61 : n < 61 := by omega
 have hj : x.card.toNat < cs.length := by have := hin.1; have := hin.2; omega
 have hc : eo cs x.card = cs[x.card.toNat] := by
  rw [eo, if_pos hin, List.getD_eq_getElem?_getD, List.getElem?_eq_getElem hj]; rfl
 have hnm := (yk (hk _ (mz hin))).1
 have hf : mZ cs (eo cs x.card).nm = (x.card, 0) := by
  rw [mZ, hc, Af hnd hj]
  have := hin.1
  simp; omega
 have e : iF cs x = (BS n ++ 32 :: (eo cs x.card).nm) ++ [10] := by
  rw [iF, hnn, uO (by omega)]; simp
 rw [e, du, xB, zt, BX (DN ⟨n, hn61⟩), if_neg (by
  rintro (h | h | h)
  ·cases h
  ·cases h
  ·rw [show (eo cs x.card).nm = [] from h] at hnm; simp at hnm), Aj ⟨n, hn61⟩]
 simp only []
 rw [if_neg, hf, hn]
 rintro (h | h | h)
 ·exact h (by rw [Go.Lib.itoa, if_neg (by omega), Int.toNat_natCast, uO (by omega)])
 ·omega
 ·omega
theorem kG : ∀ {l r : List Int}, l.Pairwise (· < ·) → r.Pairwise (· < ·) → (∀ x, x ∈ l ↔ x ∈ r) → l = r
 | [], [], _, _, _ => rfl
 | [], b :: r, _, _, h => by have := (h b).2 (by simp); cases this
 | a :: l, [], _, _, h => by have := (h a).1 (by simp); cases this
 | a :: l, b :: r, hl, hr, h => by
  rw [List.pairwise_cons] at hl hr
  have e : a = b := by
   have h1 := (h a).1 (by simp)
   have h2 := (h b).2 (by simp)
   rcases List.mem_cons.1 h1 with e | h1
   ·exact e
   rcases List.mem_cons.1 h2 with e | h2
   ·exact e.symm
   have := hl.1 b h2
   have := hr.1 a h1
   omega
  subst e
  congr 1
  refine kG hl.2 hr.2 fun x => ⟨fun hx => ?_, fun hx => ?_⟩
  ·rcases List.mem_cons.1 ((h x).1 (by simp [hx])) with e | h'
   ·have := hl.1 x hx; omega
   ·exact h'
  ·rcases List.mem_cons.1 ((h x).2 (by simp [hx])) with e | h'
   ·have := hr.1 x hx; omega
   ·exact h'
theorem uG {y rest : List UInt8} (h : (10 : UInt8) ∉ y) : dK (y ++ 10 :: rest) = y.length + 1 := by
 rw [dK, yB y rest 10 h, if_pos (by omega)]; omega
theorem tp : ∀ (ys : List (List UInt8)), (∀ y ∈ ys, (10 : UInt8) ∉ y) → cq (ys.flatMap fun y => y ++ [10]).length (ys.flatMap fun y => y ++ [10]) = ys.map fun y => y ++ [10]
 | [], _ => rfl
 | y :: ys, h => by
  have hy := h y List.mem_cons_self
  have ih := tp ys fun z hz => h z (List.mem_cons_of_mem _ hz)
  have e : (y :: ys).flatMap (fun y => y ++ [10]) = y ++ 10 :: ys.flatMap fun y => y ++ [10] := by simp
  rw [e, lF (by simp), uG hy]
  have e1 : (y ++ 10 :: ys.flatMap fun y => y ++ [10]).take (y.length + 1) = y ++ [10] := by
   rw [List.take_append, List.take_of_length_le (by omega), Nat.add_sub_cancel_left]; simp
  have e2 : (y ++ 10 :: ys.flatMap fun y => y ++ [10]).drop (y.length + 1) = ys.flatMap fun y => y ++ [10] := by
   rw [List.drop_append, List.drop_of_length_le (by omega), Nat.add_sub_cancel_left]; simp
  rw [e1, e2, ih, List.map_cons]
theorem Ai : ∀ n : Fin 61, (10 : UInt8) ∉ BS n.1 := by decide
def y8 (cs : List CdF) (x : Cp) : List UInt8 := BS x.n.toNat ++ 32 :: (eo cs x.card).nm
theorem po {cs : List CdF} {x : Cp} (hx : dz cs x) : iF cs x = y8 cs x ++ [10] := by
 have := hx.2.1
 have := hx.2.2.1
 rw [iF, y8, uO (by omega)]; simp
theorem y7 {cs : List CdF} (hk : ∀ c ∈ cs, okN c) {x : Cp} (hx : dz cs x) : (10 : UInt8) ∉ y8 cs x := by
 have h1 := hx.2.1
 have h2 := hx.2.2.1
 have hn := (hk _ (mz hx.1)).1
 simp only [jv, Bool.and_eq_true, List.all_eq_true] at hn
 intro hm
 rw [y8] at hm
 rcases List.mem_append.1 hm with hm | hm
 ·exact Ai ⟨x.n.toNat, by omega⟩ hm
 ·rcases List.mem_cons.1 hm with hm | hm
  ·cases hm
  ·have := hn.2.2 10 hm
   revert this; decide
theorem vU {α β : Type} {f g : α → List β} : ∀ (l : List α), (∀ x ∈ l, f x = g x) → l.flatMap f = l.flatMap g
 | [], _ => rfl
 | x :: l, h => by rw [List.flatMap_cons, List.flatMap_cons, h x List.mem_cons_self, vU l fun y hy => h y (List.mem_cons_of_mem _ hy)]
theorem wL {cs : List CdF} (hk : ∀ c ∈ cs, okN c) {l : List Cp} (h : ∀ x ∈ l, dz cs x) : cq (aR cs l).length (aR cs l) = l.map (iF cs) := by
 have e : aR cs l = (l.map (y8 cs)).flatMap fun y => y ++ [10] := by
  rw [aR, List.flatMap_map]
  exact vU l fun x hx => po (h x hx)
 rw [e, tp _ (fun y hy => by obtain ⟨x, hx, rfl⟩ := List.mem_map.1 hy; exact y7 hk (h x hx)), List.map_map]
 refine List.map_congr_left fun x hx => (po (h x hx)).symm
theorem vD {cs : List CdF} (hk : ∀ c ∈ cs, okN c) (hnd : (cs.map (·.nm)).Nodup) : ∀ (r acc : List Cp) (n : Int), (∀ x ∈ r, dz cs x) → ((acc ++ r).map (·.card)).Nodup → bW cs (r.map (iF cs)) acc n = .inl (acc ++ r)
 | [], acc, n, _, _ => by simp [bW]
 | x :: r, acc, n, h, hd => by
  have hr := xW hk hnd (h x List.mem_cons_self)
  rw [List.map_cons, bW, hr, if_neg (by simp), if_neg]
  ·refine (vD hk hnd r (acc ++ [x]) (n + 1) (fun y hy => h y (List.mem_cons_of_mem _ hy)) (by simpa using hd)).trans ?_
   simp
  ·rw [Bool.not_eq_true, List.any_eq_false]
   intro y hy e
   rw [List.map_append, List.nodup_append] at hd
   exact hd.2.2 _ (List.mem_map.2 ⟨y, hy, rfl⟩) _ (by simp : x.card ∈ (x :: r).map (·.card)) (by simpa using e)
theorem pv : ∀ {l : List Cp} {b : Int}, xn b l → (l.map (·.card)).Pairwise (· < ·) ∧ ∀ x ∈ l, b < x.card
 | [], _, _ => ⟨List.Pairwise.nil, fun x hx => (by cases hx)⟩
 | x :: l, b, h => by
  obtain ⟨h1, h2⟩ := pv h.2
  refine ⟨?_, fun y hy => ?_⟩
  ·rw [List.map_cons, List.pairwise_cons]
   refine ⟨fun c hc => ?_, h1⟩
   obtain ⟨y, hy, rfl⟩ := List.mem_map.1 hc
   exact h2 y hy
  ·rcases List.mem_cons.1 hy with rfl | hy
   ·exact h.1
   ·have := h2 y hy
    have := h.1
    omega
theorem qK {l l' : List Cp} (hp : l'.Perm l) {b : Int} (hi : xn b l) : lv l' = l := by
 obtain ⟨h1, _⟩ := pv hi
 have hnd : (l.map (·.card)).Nodup := h1.imp fun h e => by omega
 have hnd' : (l'.map (·.card)).Nodup := (hp.map _).nodup_iff.2 hnd
 have hz : cR (l'.map (·.card)) = l.map (·.card) := by
  have hperm : (cR (l'.map (·.card))).Perm (l'.map (·.card)) := List.mergeSort_perm _ _
  have hs : (cR (l'.map (·.card))).Pairwise fun x y => decide (x ≤ y) = true := List.pairwise_mergeSort (fun a b c h1 h2 => by simp at *; omega) (fun a b => by simp; omega) _
  have hn := hperm.nodup_iff.2 hnd'
  refine kG ?_ h1 fun x => ?_
  ·exact List.Pairwise.imp₂ (fun a b h1 h2 => by simp at h1; omega) hs hn
  ·rw [hperm.mem_iff, (hp.map _).mem_iff]
 rw [lv, hz, List.map_map]
 have : ∀ x ∈ l, ((fun c => (⟨c, uS l' c⟩ : Cp)) ∘ (·.card)) x = x := fun x hx => by
  show (⟨x.card, uS l' x.card⟩ : Cp) = x
  rw [tK hnd' (hp.mem_iff.2 hx)]
 rw [List.map_congr_left this, List.map_id']
theorem qP {cs : List CdF} (hk : ∀ c ∈ cs, okN c) (hnd : (cs.map (·.nm)).Nodup) {l l' : List Cp} (hp : l'.Perm l) (hc : (aE cs l).2 = 0) : cG cs (aR cs l') = (l, 0, 0) := by
 have hval := (tL hc).1
 have hok : ∀ x ∈ l', dz cs x := fun x hx => hval.1 x (hp.mem_iff.1 hx)
 have h1 := (pv hval.2.1).1
 have hnd1 : (l.map (·.card)).Nodup := h1.imp fun h e => by omega
 have hgo := vD hk hnd l' [] 0 hok (by rw [List.nil_append]; exact (hp.map _).nodup_iff.2 hnd1)
 rw [cG, wL hk hok, hgo]
 simp only [List.nil_append]
 rw [qK hp hval.2.1, if_neg (by rw [hc]; simp)]
def mM : Nat → List UInt8 → List Int
 | _, [] => []
 | i, b :: s => if b = 10 then ((i + 1 : Nat) : Int) :: mM (i + 1) s else mM (i + 1) s
theorem mj : ∀ (a b : List UInt8) (i : Nat), mM i (a ++ b) = mM i a ++ mM (i + a.length) b
 | [], b, i => by simp [mM]
 | x :: a, b, i => by
  rw [List.cons_append, mM, mM, mj a b (i + 1), List.length_cons]
  have e : i + 1 + a.length = i + (a.length + 1) := by omega
  rw [e]
  split <;> simp
theorem ym : ∀ (a : List UInt8) (i : Nat), (10 : UInt8) ∉ a → mM i a = []
 | [], i, _ => rfl
 | x :: a, i, h => by
  rw [mM, if_neg (fun e => h (by rw [e]; simp)), ym a (i + 1) fun hm => h (List.mem_cons_of_mem _ hm)]
theorem yl (a : List UInt8) (b : UInt8) : mM 0 (a ++ [b]) = mM 0 a ++ if b = 10 then [((a.length + 1 : Nat) : Int)] else [] := by
 rw [mj, Nat.zero_add]
 simp only [mM]
theorem yn : ∀ (a : List UInt8) (i : Nat), (mM i a).length ≤ a.length
 | [], i => Nat.le_refl _
 | x :: a, i => by
  have := yn a (i + 1)
  rw [mM]
  split <;> simp only [List.length_cons] <;> omega
theorem tc {cs : List CdF} (hk : ∀ c ∈ cs, okN c) {x : Cp} (hx : dz cs x) (i : Nat) : mM i (iF cs x) = [((i + (iF cs x).length : Nat) : Int)] := by
 rw [po hx, mj, ym _ _ (y7 hk hx), List.length_append, List.length_singleton]
 rfl
theorem jS (cs : List CdF) (x : Cp) (l : List Cp) : aR cs (x :: l) = iF cs x ++ aR cs l := by rw [aR, List.flatMap_cons, aR]
theorem rl (cs : List CdF) (a b : List Cp) : aR cs (a ++ b) = aR cs a ++ aR cs b := List.flatMap_append ..
theorem AO {cs : List CdF} (hk : ∀ c ∈ cs, okN c) : ∀ (l : List Cp) (i : Nat), (∀ x ∈ l, dz cs x) → (mM i (aR cs l)).length = l.length
 | [], i, _ => rfl
 | x :: l, i, h => by
  rw [jS, mj, tc hk (h x List.mem_cons_self), List.length_append, AO hk l _ fun y hy => h y (List.mem_cons_of_mem _ hy), List.length_singleton, List.length_cons]
  omega
theorem DF {cs : List CdF} (hk : ∀ c ∈ cs, okN c) : ∀ (l : List Cp) (i k : Nat), (∀ x ∈ l, dz cs x) → k < l.length → (mM i (aR cs l))[k]? = some ((i + (aR cs (l.take (k + 1))).length : Nat) : Int)
 | [], i, k, _, hk' => by cases hk'
 | x :: l, i, k, h, hk' => by
  rw [jS, mj, tc hk (h x List.mem_cons_self)]
  cases k with
  | zero =>
   rw [List.take_succ_cons, List.take_zero, jS]
   simp [aR]
  | succ k =>
   rw [List.length_cons] at hk'
   have := DF hk l (i + (iF cs x).length) k (fun y hy => h y (List.mem_cons_of_mem _ hy)) (by omega)
   rw [List.singleton_append, List.getElem?_cons_succ, this, List.take_succ_cons, jS, List.length_append]
   congr 2
   omega
theorem Ak (cs : List CdF) (l : List Cp) (k : Nat) : (aR cs l).drop (aR cs (l.take k)).length ++ (aR cs l).take (aR cs (l.take k)).length = aR cs (l.drop k ++ l.take k) := by
 have e : aR cs l = aR cs (l.take k) ++ aR cs (l.drop k) := by rw [← rl, List.take_append_drop]
 rw [e, List.drop_left, List.take_left, rl]
theorem si (l : List Cp) (k : Nat) : (l.drop k ++ l.take k).Perm l := by
 have := (List.perm_append_comm (l₁ := l.drop k) (l₂ := l.take k))
 rwa [List.take_append_drop] at this
end Go.Proofs.YtamgiojcbdbokaaGreatDoor
namespace Go.Sx
open Go Go.Proofs Go.Lib
set_option maxRecDepth 100000
set_option maxHeartbeats 1000000
def dB (l : List UInt8) : List (List Value) := l.map fun b => [.int .u8 b.toNat]
theorem dA (l : List UInt8) : (dB l).length = l.length := List.length_map _
theorem rb (l : List UInt8) : (dB l).flatten = strCells ⟨l.toArray⟩ := by
 have h : ∀ l : List UInt8, (dB l).flatten = l.map fun b => Value.int .u8 b.toNat := fun l => by
  induction l with
  | nil => rfl
  | cons b l ih => simp only [dB, List.map_cons, List.flatten_cons] at ih ⊢; rw [ih]; rfl
 rw [h, strCells]
theorem t7 (l s : List UInt8) : dB (l ++ s) = dB l ++ dB s := List.map_append
theorem eN {l : List UInt8} {row : List Value} (h : row ∈ dB l) : row.length = 1 ∧ Ones row := by
 obtain ⟨b, _, rfl⟩ := List.mem_map.1 h
 exact ⟨rfl, rfl, trivial⟩
theorem xj {P : Program} {t u ty e : TypeId} {i : TypeInfo} (ht : P.underlying t = some (.slice e)) (hu : P.underlying u = some .string) (hi : P.info? e = some i) (hz : i.zero = some (.int .u8 0)) (hs1 : i.size = 1) (hby : i.bytes = 1)
  {v : Value} {l s : List UInt8} {H : Heap} {O1 : Go.Sx.Own} (h : OSl e 1 v (dB l) O1) (hlen : l.length + s.length ≤ 100000000) :
  bp P ((PrimOp.bi .append #[t, u] ty).sem [v, Str s]) H O1 fun v' H' O' => H' = H ∧ OSl e 1 v' (dB (l ++ s)) O' := by
 intro w F hm
 have hsz : (⟨s.toArray⟩ : ByteArray).size = s.length := by simp [ByteArray.size]
 have hsc : strCells ⟨s.toArray⟩ = (dB s).flatten := (rb s).symm
 have hsl : (dB s).flatten.length = s.length := by rw [← hsc, strCells_length, hsz]
 have grown : ∀ (cap : Nat) (olds : List Value), olds = (dB l).flatten → cap < l.length + s.length → ∀ O2, Models w H (O2 ++ F) →
   (Builtin.append_ #[t, u] ty #[v, .string ⟨s.toArray⟩]).run P w = .ok (.slice (some ⟨w.heap.size, 0, none⟩) (l.length + s.length) (grownCap w (l.length + s.length) cap e))
    (w.drew.alloc (.cells (olds.toArray ++ (strCells ⟨s.toArray⟩).toArray ++ Builtin.zeroCells (Value.int .u8 0).cells (grownCap w (l.length + s.length) cap e - (l.length + s.length))) e)) →
   ∃ r w' H' O', ((PrimOp.bi .append #[t, u] ty).sem [v, Str s]).run P w = .ok (.value r) w' ∧ (H' = H ∧ OSl e 1 r (dB (l ++ s)) O') ∧ Heap.le H H' ∧ Models w' H' (O' ++ F) := by
  intro cap olds ho hc O2 hm2 hrun
  have hd : Models w.drew H (O2 ++ F) := Models.same hm2 rfl rfl
  have hol : olds.length = l.length := by rw [ho, aI (size := 1) (fun r hr => (eN hr).1), dA, Nat.mul_one]
  have hge := grownCap_ge w (l.length + s.length) cap e
  have hcm : grownCap w (l.length + s.length) cap e ≤ maxLen := grownCap_le_maxLen w (l.length + s.length) cap e (by simp only [maxLen]; omega)
  generalize grownCap w (l.length + s.length) cap e = c2 at *
  have hp := hd.push (.cells (olds.toArray ++ (strCells ⟨s.toArray⟩).toArray ++ Builtin.zeroCells (Value.int .u8 0).cells (c2 - (l.length + s.length))) e (0, 0))
  have hcells : olds.toArray ++ (strCells ⟨s.toArray⟩).toArray ++ Builtin.zeroCells (Value.int .u8 0).cells (c2 - (l.length + s.length)) = ((dB (l ++ s)).flatten ++ (Builtin.zeroCells (Value.int .u8 0).cells (c2 - (l.length + s.length))).toList).toArray := by
   apply Array.ext'
   rw [t7, List.flatten_append, ← ho, ← hsc]
   simp
  rw [hcells] at hrun hp
  refine ⟨.slice (some ⟨w.heap.size, 0, none⟩) (l.length + s.length) c2, w.drew.alloc (.cells ((dB (l ++ s)).flatten ++ (Builtin.zeroCells (Value.int .u8 0).cells (c2 - (l.length + s.length))).toList).toArray e (0, 0)), H, [(w.heap.size, _)], ?_, ⟨rfl, .inr ⟨w.heap.size, (dB (l ++ s)).flatten ++ (Builtin.zeroCells (Value.int .u8 0).cells (c2 - (l.length + s.length))).toList, c2, ?_, rfl, ?_, ?_, ?_, fun r hr => (eN hr).1, fun r hr => (eN hr).2, ?_⟩⟩, Heap.le_refl H, ?_⟩
  ·simp only [PrimOp.sem, builtin]
   rw [Sem.run_bind]
   show Result.andThen ((Builtin.append_ #[t, u] ty #[v, .string ⟨s.toArray⟩]).run P w) _ = _
   rw [hrun]
   rfl
  ·rw [dA, List.length_append]
  ·have h1 : (Builtin.zeroCells (Value.int .u8 0).cells (c2 - (l.length + s.length))).toList.length = c2 - (l.length + s.length) := by
    rw [Array.length_toList, size_zeroCells]
    show (c2 - (l.length + s.length)) * 1 = _
    omega
   have h2 : (dB (l ++ s)).flatten.length = l.length + s.length := by rw [aI (size := 1) (fun r hr => (eN hr).1), dA, List.length_append, Nat.mul_one]
   rw [List.length_append, h1, h2]
   omega
  ·rw [dA, List.length_append]; exact hge
  ·simp only [maxLen] at hcm; omega
  ·rw [← aI (size := 1) (fun r hr => (eN hr).1), List.take_left]
  ·refine hp.sub ?_
   rw [List.singleton_append]
   exact (List.sublist_append_right O2 F).cons_cons _
 have hown := fun hne => h.ownsRow (w := w) (F := F) hne hm
 rcases h with ⟨⟨a, rfl⟩, hr, rfl⟩ | ⟨r, cs, cap, rfl, rfl, hcl, hlc, hcap, hl, ho, htk⟩
 ·have hl0 : l = [] := by simpa [dB] using hr
  subst hl0
  by_cases hs0 : s = []
  ·subst hs0
   refine ⟨.slice a 0 0, w, H, [], ?_, ⟨rfl, .inl ⟨⟨a, rfl⟩, rfl, rfl⟩⟩, Heap.le_refl H, hm⟩
   simp only [PrimOp.sem, builtin]
   rw [Sem.run_bind]
   have : (Builtin.append_ #[t, u] ty #[.slice a 0 0, .string ⟨#[]⟩]).run P w = .ok (.slice a 0 0) w := by
    cases a <;> simp [Builtin.append_, run_underlying ht, run_underlying hu, sizeOf, typeInfo, hi, Builtin.lenOf, Builtin.firstCells, storeCells, ByteArray.size]
   show Result.andThen ((Builtin.append_ #[t, u] ty #[.slice a 0 0, .string ⟨#[]⟩]).run P w) _ = _
   rw [this]
   rfl
  ·have hpos : 0 < s.length := List.length_pos_iff.2 hs0
   refine grown 0 [] rfl (by simp; omega) [] hm ?_
   cases a with
   | none =>
    have hr := run_append_nil_string (P := P) w t u ty e i (.int .u8 0) ht hu hi hz ⟨s.toArray⟩ (by rw [hsz]; omega) (by rw [hsz]; omega) (by rw [hby, hsz]; omega)
    rw [hsz] at hr
    simp only [List.length_nil, Nat.zero_add, Array.empty_append]
    have e1 : ((⟨s.toArray⟩ : ByteArray).data.map fun b => Value.int .u8 b.toNat) = (strCells ⟨s.toArray⟩).toArray := by
     apply Array.ext'
     simp [strCells]
    rw [e1] at hr
    exact hr
   | some b =>
    have hr := run_append_grow_string (P := P) w t u ty e i (.int .u8 0) ht hu hi hz b 0 0 [] (by simp) (by simp) ⟨s.toArray⟩ (by rw [hsz]; omega) (by rw [hsz]; omega) (by rw [hby]; exact growslice_fits (by rw [hsz]; omega) (by rw [hsz]; omega))
    rw [hsz] at hr
    exact hr
 ·rw [dA] at hlc htk grown ⊢
  have hrow := (hm.own (r, .cells cs.toArray e (0, 0)) (by simp)).1
  have htk' : cs.take l.length = (dB l).flatten := by simpa using htk
  by_cases hroom : l.length + s.length ≤ cap
  ·have hrun := run_append_room_string (P := P) w t u ty e i ht hu hi hs1 r l.length cap cs.toArray hrow ⟨s.toArray⟩ (by rw [hsz]; exact hroom) (by rw [hsz, List.size_toArray]; omega)
   rw [hsz] at hrun
   have hnew : cs.toArray.toList.take l.length ++ strCells ⟨s.toArray⟩ ++ cs.toArray.toList.drop (l.length + s.length) = (dB (l ++ s)).flatten ++ cs.drop (l.length + s.length) := by
    rw [t7, List.flatten_append, ← htk', ← hsc]
   rw [hnew] at hrun
   have h2 : (dB (l ++ s)).flatten.length = l.length + s.length := by rw [aI (size := 1) (fun r hr => (eN hr).1), dA, List.length_append, Nat.mul_one]
   refine ⟨.slice (some ⟨r, 0, none⟩) (l.length + s.length) cap, w.setRow r ((dB (l ++ s)).flatten ++ cs.drop (l.length + s.length)).toArray, H, [(r, .cells ((dB (l ++ s)).flatten ++ cs.drop (l.length + s.length)).toArray e (0, 0))], ?_, ⟨rfl, .inr ⟨r, (dB (l ++ s)).flatten ++ cs.drop (l.length + s.length), cap, ?_, rfl, ?_, ?_, hcap, fun r hr => (eN hr).1, fun r hr => (eN hr).2, ?_⟩⟩, Heap.le_refl H, ?_⟩
   ·simp only [PrimOp.sem, builtin]
    rw [Sem.run_bind]
    show Result.andThen ((Builtin.append_ #[t, u] ty #[.slice (some ⟨r, 0, none⟩) l.length cap, .string ⟨s.toArray⟩]).run P w) _ = _
    rw [hrun]
    rfl
   ·rw [dA, List.length_append]
   ·rw [List.length_append, h2, List.length_drop]; omega
   ·rw [dA, List.length_append]; exact hroom
   ·rw [← aI (size := 1) (fun r hr => (eN hr).1), List.take_left]
   ·exact qT (vs := cs) hm
  ·refine grown cap (dB l).flatten rfl (by omega) [(r, .cells cs.toArray e (0, 0))] hm ?_
   have hrun := run_append_grow_string (P := P) w t u ty e i (.int .u8 0) ht hu hi hz ⟨r, 0, none⟩ l.length cap (dB l).flatten (by rw [aI (size := 1) (fun r hr => (eN hr).1), dA, hs1]) (fun j u hj => ?_) ⟨s.toArray⟩ (by rw [hsz]; omega) (by rw [hsz]; omega) (by rw [hby]; exact growslice_fits (by rw [hsz]; omega) (by rw [hsz]; omega))
   ·rw [hsz] at hrun
    exact hrun
   ·exact (hown (by simp)).cells (g := r) rfl j u hj
end Go.Sx
namespace Go.Proofs.YtamgiojcbdbokaaGreatDoor
open Go Go.Sx
open Go.Sx (Own)
set_option maxRecDepth 100000
set_option maxHeartbeats 1000000
abbrev mI : TypeId := 94
theorem CV {k : Nat} {p v : Value} {T : TypeId} {O1 : Go.Sx.Own} (H : Heap) : Reads H ((k, .cells #[p, v] T (0, 0)) :: O1) (pP k) 1 [p] := .inr ⟨⟨k, 0, none⟩, #[p, v], T, rfl, rfl, List.mem_cons_self, rfl, rfl⟩
theorem CU {k : Nat} {p v : Value} {T : TypeId} {O1 : Go.Sx.Own} (H : Heap) : Reads H ((k, .cells #[p, v] T (0, 0)) :: O1) (bR (pP k) 1) 1 [v] := .inr ⟨⟨k, 1, none⟩, #[p, v], T, rfl, rfl, List.mem_cons_self, rfl, rfl⟩
theorem sC : ∃ j, PP.info? mI = some j ∧ j.size = 2 := by
 have h : (PP.info? mI).map (·.size) = some 2 := by kernel_rfl
 exact Option.map_eq_some_iff.1 h
theorem tZ {w : World} {H : Heap} {k : Nat} {p v : Value} {F : Go.Sx.Own} (hm : Models w H ((k, .cells #[p, v] mI (0, 0)) :: F)) : w.shape? k = some (mI, 2) := by
 have h : w.heap[k]? = some (.cells #[p, v] mI (0, 0)) := (hm.own (k, .cells #[p, v] mI (0, 0)) (by simp)).1
 simp [World.shape?, h]
theorem CQ {w : World} {H : Heap} {k : Nat} {p v : Value} {F : Go.Sx.Own} (hm : Models w H ((k, .cells #[p, v] mI (0, 0)) :: F)) : ((PrimOp.convert 91 159).sem [pP k]).run PP w = .ok (.value (pP k)) w := by
 obtain ⟨j, hj, hs⟩ := sC
 have := Go.Lib.run_to_unsafe (P := PP) (src := 91) (dst := 159) (t := mI) w ⟨k, 0, none⟩ (by kernel_rfl) (by kernel_rfl) hj (by omega) (tZ hm) (by show 0 < 2; omega)
 simp only [PrimOp.sem]
 rw [Sem.run_bind]
 show Result.andThen ((convert 91 159 (.pointer (some ⟨k, 0, none⟩))).run PP w) _ = _
 rw [this]
 rfl
theorem CW {w : World} {H : Heap} {k : Nat} {p v : Value} {F : Go.Sx.Own} (hm : Models w H ((k, .cells #[p, v] mI (0, 0)) :: F)) : ((PrimOp.convert 159 91).sem [pP k]).run PP w = .ok (.value (pP k)) w := by
 obtain ⟨j, hj, hs⟩ := sC
 have := Go.Lib.run_from_unsafe (P := PP) (src := 159) (dst := 91) (u := mI) w ⟨k, 0, none⟩ (by kernel_rfl) (by kernel_rfl) hj (tZ hm) (by kernel_rfl)
 simp only [PrimOp.sem]
 rw [Sem.run_bind]
 show Result.andThen ((convert 159 91 (.pointer (some ⟨k, 0, none⟩))).run PP w) _ = _
 rw [this]
 rfl
theorem CX (k : Nat) (w : World) : ((PrimOp.intr 92).sem [pP k]).run PP w = .ok (.value (pP k)) w :=
 zZ Tryz.func92 (by kernel_rfl) (by kernel_rfl) (by kernel_rfl) (e := Extern.AbiNoEscape.same) (by kernel_rfl) (fun _ => rfl) w
section
open Go.RowKit Go.Shelf
theorem Ar {k : Nat} {v : Value} (H : Heap) : RetO PP bG [pP k] H [(k, .cells #[pP k, v] mI (0, 0))] (.tuple #[]) := by
 refine dN fun w F hm => ?_
 obtain ⟨j, hj, hjs⟩ := sC
 have hbk : w.heap[k]? = some (.cells #[pP k, v] mI (0, 0)) := (hm.own (k, .cells #[pP k, v] mI (0, 0)) (by simp)).1
 have h0 : w.cell? ⟨k, 0, none⟩ = some (.pointer (some ⟨k, 0, none⟩)) := by
  rw [Lib.cell_of_heap hbk]; rfl
 have mixed : Tryz.prog.follows .mixedOrders = true := mixed
 have t91 : Tryz.prog.underlying 91 = some (.pointer mI) := by kernel_rfl
 show Calls Tryz.prog 59 #[.pointer (some ⟨k, 0, none⟩)] w _
 go_enter Tryz.func59, Tryz.ntmps59
 go_wp2
 rw [Lib.run_neq_ptr_same w _ t91 hj]
 go_wp2
 go_end0
 exact ⟨rfl, fun _ _ => rfl, rfl⟩
end
theorem uZ {k : Nat} {p v : Value} (hp : p = .pointer none ∨ p = pP k) (H : Heap) : Triple PP bG [pP k] H [(k, .cells #[p, v] mI (0, 0))] fun r H' O' => r = .tuple #[] ∧ O' = [(k, .cells #[pP k, v] mI (0, 0))] := by
 rcases hp with rfl | rfl
 rotate_left
 ·exact Ar H
 refine eZ (vs := [pP k]) (by kernel_rfl) ⟨rfl, trivial⟩ ?_
 simp only [cY]
 refine au rfl (au rfl ?_)
 refine ao (vs := [.pointer none]) (CV H) rfl ⟨rfl, trivial⟩ ?_
 ·refine aa (.bool true) rfl (ai (fun _ => ?_) (fun hd => by cases hd))
  refine rH (fun w F hm => CQ (by simpa using hm)) rfl (vs := [pP k]) ⟨rfl, trivial⟩ ?_
  refine zL (fun w => CX k w) rfl (vs := [pP k]) ⟨rfl, trivial⟩ ?_
  refine rH (fun w F hm => CW (by simpa using hm)) rfl (vs := [pP k]) ⟨rfl, trivial⟩ ?_
  refine au rfl (au rfl (au rfl ?_))
  refine ⟨_, ⟨⟨k, 0, none⟩, #[.pointer none, v], mI, [], rfl, rfl, List.Perm.refl _, by show 0 + 1 ≤ 2; omega, rfl⟩, ?_⟩
  exact af ⟨rfl, rfl⟩
theorem wc {P : Program} {f : FuncId} {args : List Value} {H : Heap} {O : Go.Sx.Own} {k : Nat} {T : TypeId} {cells : List Value} {R : Value → List Value → Go.Sx.Own → Prop} {shp : Shp} {K : List Value → List (List Value) → Heap → Go.Sx.Own → Prop}
  (h : Triple P f args H ((k, .cells cells.toArray T (0, 0)) :: O) fun v _ O' => ∃ cs O3, O' = (k, .cells cs.toArray T (0, 0)) :: O3 ∧ cs.length = cells.length ∧ Ones cs ∧ R v cs O3)
  (hk : ∀ v cs H' O3, R v cs O3 → Heap.le H H' → ∃ vs, shp.open v = some vs ∧ Ones vs ∧ K vs [cs] H' O3) : cg (fun H1 O1 R => Triple P f args H1 O1 R) false [] [⟨k, T, cells⟩] shp K H O := by
 intro _
 refine ⟨H, O, [], _, Ghost.perm (by simp), h, ?_⟩
 rintro v H' O' ⟨cs, O3, rfl, hl, h1, hr⟩ hle
 obtain ⟨vs, a, b, c⟩ := hk v cs H' O3 hr hle
 exact ⟨vs, [cs], O3, a, b, ⟨hl, h1, trivial⟩, rfl, by simpa using c⟩
theorem FO : ∃ i, PP.info? 5 = some i ∧ i.zero = some (.int .u8 0) ∧ i.size = 1 ∧ i.bytes = 1 := by
 have h : (PP.info? 5).map (fun i => (i.zero, i.size, i.bytes)) = some (some (.int .u8 0), 1, 1) := by kernel_rfl
 obtain ⟨i, hi, e⟩ := Option.map_eq_some_iff.1 h
 simp only [Prod.mk.injEq] at e
 exact ⟨i, hi, e.1, e.2.1, e.2.2⟩
theorem sr {k : Nat} {p v : Value} (hp : p = .pointer none ∨ p = pP k) {l s : List UInt8} (hn : l.length + s.length ≤ 1000000) (H : Heap) {O1 : Go.Sx.Own} (h : OSl 5 1 v (dB l) O1) :
  Triple PP cL [pP k, Str s] H ((k, .cells [p, v].toArray mI (0, 0)) :: O1) fun r _ O' => ∃ cs O3, O' = (k, .cells cs.toArray mI (0, 0)) :: O3 ∧ cs.length = [p, v].length ∧ Ones cs ∧
   (r = .tuple #[iV s.length, .nilIface] ∧ ∃ v', cs = [pP k, v'] ∧ OSl 5 1 v' (dB (l ++ s)) O3) := by
 refine eG (vs := [pP k, Str s]) (by kernel_rfl) ⟨rfl, rfl, trivial⟩ ?_
 simp only [cJ]
 refine cI (O1 := [(k, .cells #[p, v] mI (0, 0))]) (O2 := O1) (List.Perm.refl _) (uZ hp H) ?_
 rintro r H1 _ ⟨rfl, rfl⟩ l1
 refine ⟨[], rfl, trivial, ?_⟩
 refine au rfl (au rfl ?_)
 refine ao (vs := [v]) (CU H1) rfl ⟨h.one, trivial⟩ ?_
 obtain ⟨i, hi, hz, hs, hb⟩ := FO
 have ha := xj (P := PP) (ty := 92) (H := H1) Dt Fb hi hz hs hb h (s := s) (by omega)
 intro _
 refine ⟨H1, O1, [(k, .cells #[pP k, v] mI (0, 0))], _, Ghost.perm (List.perm_append_comm (l₁ := [_]) (l₂ := O1)), ha, ?_⟩
 rintro v' H2 O2 ⟨rfl, h2⟩ l2
 refine ⟨[v'], [], O2, rfl, ⟨h2.one, trivial⟩, trivial, rfl, ?_⟩
 refine au rfl (au rfl (au rfl ?_))
 refine ⟨_, ⟨⟨k, 1, none⟩, #[pP k, v], mI, O2, rfl, rfl, List.perm_append_comm (l₁ := O2) (l₂ := [_]), by show 1 + 1 ≤ 2; omega, rfl⟩, ?_⟩
 refine aa _ (ia s) ?_
 exact af ⟨[pP k, v'], O2, rfl, rfl, ⟨rfl, h2.one, trivial⟩, rfl, v', rfl, h2⟩
section
open Go.RowKit Go.Shelf
set_option maxHeartbeats 2000000 in
theorem y6 {k : Nat} {p v : Value} (hp1 : p.oneCell' = true) {l : List UInt8} (hl0 : l ≠ []) (hlen : l.length ≤ 1000000) (H : Heap) {O1 : Go.Sx.Own} (h : OSl 5 1 v (dB l) O1) :
  Triple PP 41 [pP k] H ((k, .cells [p, v].toArray mI (0, 0)) :: O1) fun r _ O' => ∃ cs O3, O' = (k, .cells cs.toArray mI (0, 0)) :: O3 ∧ cs.length = [p, v].length ∧ Ones cs ∧ (cs = [p, v] ∧ r = Str l ∧ O3 = []) := by
 intro w F hm
 rcases h with ⟨_, h0, _⟩ | ⟨g, cs, cap, rfl, rfl, hcl, hlc, hcap, hrl, ho, htk⟩
 ·cases l with
  | nil => exact absurd rfl hl0
  | cons a l => cases h0
 rw [dA] at hlc htk hm ⊢
 have hbk : w.heap[k]? = some (.cells #[p, .slice (some ⟨g, 0, none⟩) l.length cap] mI (0, 0)) := (hm.own (k, .cells #[p, .slice (some ⟨g, 0, none⟩) l.length cap] mI (0, 0)) (by simp)).1
 have hbg : w.heap[g]? = some (.cells cs.toArray 5 (0, 0)) := (hm.own (g, .cells cs.toArray 5 (0, 0)) (by simp)).1
 have hlp : 0 < l.length := List.length_pos_iff.2 hl0
 have c1 : w.drew.cell? ⟨k, 1, none⟩ = some (.slice (some ⟨g, 0, none⟩) l.length cap) := by
  have : w.drew.heap[k]? = some (.cells #[p, .slice (some ⟨g, 0, none⟩) l.length cap] mI (0, 0)) := hbk
  rw [Lib.cell_of_heap this]; rfl
 have hSD : (Builtin.unsafeSliceData_ #[92] 130 #[.slice (some ⟨g, 0, none⟩) l.length cap]).run PP w.drew = .ok (.pointer (some ⟨g, 0, none⟩)) w.drew :=
  Lib.run_unsafeSliceData_row _ _ _ _ _ _ (by omega)
 have hUS : (Builtin.unsafeString_ #[130, 3] 9 #[.pointer (some ⟨g, 0, none⟩), .int .i64 l.length]).run PP w.drew = .ok (.string ⟨l.toArray⟩) (w.drew.freeze ⟨g, 0, none⟩ l.length) := by
  refine Lib.run_unsafeString_row w.drew 130 3 9 5 (by kernel_rfl) (by kernel_rfl) g cs.toArray.size (by have hg' : w.drew.heap[g]? = some (.cells cs.toArray 5 (0, 0)) := hbg; simp [World.shape?, hg']) l hl0 (by simp; omega) (by omega) ?_
  intro j x hx
  have hj : cs[j]? = some (.int .u8 x.toNat) := by
   have hjl : j < l.length := (List.getElem?_eq_some_iff.1 hx).1
   have e : (cs.take l.length)[j]? = cs[j]? := by rw [List.getElem?_take, if_pos hjl]
   rw [← e, show cs.take l.length = (dB l).flatten by simpa using htk, rb]
   simp [Go.Lib.strCells, hx]
  have hg' : w.drew.heap[g]? = some (.cells cs.toArray 5 (0, 0)) := hbg
  have ea : ({ block := g, off := 0, spot := none } : Addr).add j = ⟨g, j, none⟩ := by
   unfold Addr.add
   split <;> simp_all
  rw [ea, Lib.cell_of_heap hg']
  simpa using hj
 have hmod : Models (w.drew.freeze ⟨g, 0, none⟩ l.length) H ((k, .cells #[p, .slice (some ⟨g, 0, none⟩) l.length cap] mI (0, 0)) :: F) := by
  have hgone : ∀ j, j ≠ g → (w.drew.freeze ⟨g, 0, none⟩ l.length).heap[j]? = w.heap[j]? := fun j hj => by
   unfold World.freeze
   split
   ·rfl
   ·simp only [Array.getElem?_modify]
    rw [if_neg (Ne.symm hj)]
    rfl
  have hHg : H g = none := (hm.own (g, .cells cs.toArray 5 (0, 0)) (by simp)).2
  have hnd := hm.nodup
  simp only [List.cons_append, List.nil_append, List.map_cons, List.nodup_cons, List.mem_cons, not_or] at hnd
  refine ⟨fun b o hb => ?_, fun q hq => ?_, ?_, ?_⟩
  ·rw [hgone b (by rintro rfl; rw [hHg] at hb; cases hb)]; exact hm.pers b o hb
  ·have hq' : q ∈ (k, .cells [p, .slice (some ⟨g, 0, none⟩) l.length cap].toArray mI (0, 0)) :: [(g, .cells cs.toArray 5 (0, 0))] ++ F := by
    rcases List.mem_cons.1 hq with rfl | hq
    ·simp
    ·simp [hq]
   have hqg : q.1 ≠ g := by
    rcases List.mem_cons.1 hq with rfl | hqF
    ·exact hnd.1.1
    ·intro e
     exact hnd.2.1 (List.mem_map.2 ⟨q, hqF, e⟩)
   rw [hgone _ hqg]
   exact hm.own q hq'
  ·simp only [List.map_cons, List.nodup_cons]
   exact ⟨hnd.1.2, hnd.2.2⟩
  ·have : cU (w.drew.freeze ⟨g, 0, none⟩ l.length) = cU w := by
    unfold World.freeze
    split <;> rfl
   rw [this]; exact hm.env
 have mixed : Tryz.prog.follows .mixedOrders = true := mixed
 show Calls Tryz.prog 41 #[.pointer (some ⟨k, 0, none⟩)] w _
 go_enter Tryz.func41, Tryz.ntmps41
 go_wp2
 go_region_o
 all_goals (go_wp2; go_ret; exact ⟨_, H, _, rfl, ⟨[p, .slice (some ⟨g, 0, none⟩) l.length cap], [], rfl, rfl, ⟨hp1, rfl, trivial⟩, rfl, rfl, rfl⟩, Heap.le_refl H, hmod⟩)
end
abbrev IP (n : Nat) (R : Nat → Value → Value → Heap → Go.Sx.Own → Prop) : List Value → Heap → Go.Sx.Own → Prop := fun vs H O => ∃ (i : Nat) (p v : Value), vs = [iV i, p, v] ∧ i ≤ n ∧ R i p v H O
abbrev MP (n : Nat) : List Value → Heap → Go.Sx.Own → Nat := fun vs _ _ => match g vs 0 with | .int _ k => n - k.toNat | _ => 0
theorem wV {P : Program} {lab key : Nat} {p0 v0 : Value} {body : (List Value → Heap → Go.Sx.Own → Prop) → List Value → Tree} {H : Heap} {O : Go.Sx.Own} {Q : Value → Heap → Go.Sx.Own → Prop} (n : Nat) (R : Nat → Value → Value → Heap → Go.Sx.Own → Prop)
  (h0 : R 0 p0 v0 H O) (step : ∀ i p v H' O', i ≤ n → Heap.le H H' → R i p v H' O' → (body (A9 (IP n R) (MP n) (n - i)) [iV i, p, v]).den P Q H' O') :
  (Tree.loop lab key [iV 0, p0, v0] body).den P Q H O := by
 refine gR (IP n R) (MP n) ⟨0, p0, v0, rfl, Nat.zero_le _, h0⟩ ?_
 rintro vs H' O' _ _ hle ⟨i, p, v, rfl, hi, hr⟩
 exact step i p v H' O' hi hle hr
theorem uP {P : Program} {lab n i : Nat} {R : Nat → Value → Value → Heap → Go.Sx.Own → Prop} {p v : Value} {eqs : List (List Value × List Value)} {H : Heap} {O : Go.Sx.Own} {Q : Value → Heap → Go.Sx.Own → Prop} (he : Eqs eqs) (hi : i < n) (hr : R (i + 1) p v H O) :
  (Tree.cont lab (A9 (IP n R) (MP n) (n - i)) [iV ((i + 1 : Nat) : Int), p, v] eqs).den P Q H O := by
 refine eL he ⟨i + 1, p, v, rfl, hi, hr⟩ ?_
 show n - ((i + 1 : Nat) : Int).toNat < n - i
 simp; omega
def mQ (cs : List CdF) (l : List Cp) : List UInt8 × Int := if (aE cs l).2 = 0 then (aR cs l, 0) else ([], (aE cs l).2)
theorem A4 {H : Heap} {p : Value} {cs : List CdF} (h : PoolK H p cs) {v : Value} {l : List Cp} (hl : ol H v l) (hb : l.length ≤ 1000000) : RetO PP qp [p, v] H [] (.tuple #[Str (mQ cs l).1, iV (mQ cs l).2]) := by
 obtain ⟨h, hk⟩ := h
 refine rC (vs := [p, v]) (by kernel_rfl) ⟨h.one, hl.one, trivial⟩ ?_
 simp only [qi]
 obtain ⟨vlen, _⟩ := lL hl
 refine ak (ni h hl hb) rfl (vs := [iV (aE cs l).1, iV (aE cs l).2]) ⟨rfl, rfl, trivial⟩ fun H1 l1 => ?_
 refine aa _ (dl _ _) (ai (fun hd => ?_) (fun hd => ?_))
 ·have he : (aE cs l).2 ≠ 0 := by simpa using hd
  exact af ⟨by rw [mQ, if_neg he]; rfl, rfl⟩
 have he : (aE cs l).2 = 0 := by simpa using hd
 have hR : mQ cs l = (aR cs l, 0) := by rw [mQ, if_pos he]
 have hval := (tL he).1
 have h := h.le l1
 have hl := hl.le l1
 have hll : (l.length : Int) ≤ 60 := by have := (rj hval.1).2; have := hval.2.2.2; omega
 refine aj fun r0 => ?_
 refine aa _ vlen ?_
 refine wV l.length (fun i p v H' O' => (p = .pointer none ∨ p = pP r0) ∧ OSl 5 1 v (dB (aR cs (l.take i))) O' ∧ (aR cs (l.take i)).length ≤ 36 * i ∧ Heap.le H1 H') ⟨.inl rfl, OSl.nil _ _, Nat.le_refl _, Heap.le_refl _⟩ ?_
 rintro i q bv H2 O2 hi - ⟨hp, hO, hlen, l2⟩
 refine aa _ (aF _ _) (ai (fun hlt => ?_) (fun hge => ?_))
 ·have hlt : i < l.length := by have := of_decide_eq_true hlt; omega
  obtain ⟨a, k1, k2, _, _⟩ := wU O2 (hl.le l2) hlt
  have hs := xw (cs := cs) hlt
  have hx := hval.1 _ (List.getElem_mem hlt)
  have hll2 := vO hk hx
  generalize l[i] = x at *
  obtain ⟨hin, w1, w2, _⟩ := hx
  have hnm := (yk (hk _ (mz hin))).2
  obtain ⟨n, hn⟩ : ∃ n : Nat, x.n = (n : Int) := ⟨x.n.toNat, by omega⟩
  have hnn : x.n.toNat = n := by omega
  have hd := yQ (n := n) (by omega)
  have hlv : iF cs x = Go.Lib.decDigits n ++ [32] ++ (eo cs x.card).nm ++ [10] := by rw [iF, hnn]
  refine aa _ k1 (ao k2 rfl ⟨rfl, rfl, trivial⟩ (aj fun r1 => ?_))
  refine ae (ae ?_)
  refine bn (su (h.le l2) x.card) ?_
  rintro _ H3 _ ⟨⟨cells, rfl, c1, c2⟩, rfl⟩ l3
  have hc := c2.nm.1
  refine ⟨cells ++ [iV (iK cs x.card)], oy c1, mg c2.ones ⟨rfl, trivial⟩, aj fun r2 => ?_⟩
  refine ae (ae (ae ?_))
  rw [show g x.row 1 = iV (n : Int) from by rw [← hn]; rfl]
  refine ak (CJ n (by omega) _ _) rfl ⟨rfl, trivial⟩ fun H4 l4 => ?_
  rw [show g (cells ++ [iV (iK cs x.card)]) 0 = Str (eo cs x.card).nm from (xO c1 (by omega)).trans hc]
  have hi60 : i < 60 := by omega
  refine aa _ (rn (b := [32]) (by simp; omega)) ?_
  refine aa _ (rn (by simp; omega)) ?_
  refine aa _ (rn (b := [10]) (by simp; omega)) ?_
  refine wc (k := r0) (T := 94) (cells := [q, bv]) (sr hp (by rw [← hlv]; omega) H4 hO) ?_
  rintro _ _ H5 O5 ⟨rfl, v', rfl, hO5⟩ l5
  refine ⟨[iV _, .nilIface], rfl, ⟨rfl, rfl, trivial⟩, ?_⟩
  refine aa _ (aD (by omega)) (uP (by simp [Eqs, E]) hlt ⟨.inr rfl, ?_, ?_, Heap.le_trans l2 (Heap.le_trans l3 (Heap.le_trans l4 l5))⟩)
  ·rw [hs, hlv]; exact hO5
  ·rw [hs, List.length_append]; omega
 ·have hge : l.length ≤ i := by have := of_decide_eq_false hge; omega
  rw [List.take_of_length_le hge] at hO hlen
  have hne : aR cs l ≠ [] := by
   cases l with
   | nil => exact absurd hval.2.2.1 (by decide)
   | cons x l => rw [aR, List.flatMap_cons, iF]; simp
  refine wc (k := r0) (T := 94) (cells := [q, bv]) (y6 (by rcases hp with rfl | rfl <;> rfl) hne (by omega) H2 hO) ?_
  rintro _ _ H5 _ ⟨rfl, rfl, rfl⟩ l5
  refine ⟨[Str (aR cs l)], rfl, ⟨rfl, trivial⟩, ?_⟩
  exact af ⟨by rw [hR]; rfl, rfl⟩
theorem B8 {H : Heap} {p : Value} {cs : List CdF} (h : PoolK H p cs) {v : Value} {l : List Cp} (hl : ol H v l) (hb : l.length ≤ 1000000) (s : List UInt8) (e : Int) : RetO PP dq [p, v, Str s, iV e] H [] (.bool ((mQ cs l).1 == s && (mQ cs l).2 == e)) := by
 refine jL (vs := [p, v, Str s, iV e]) (by kernel_rfl) ⟨h.1.one, hl.one, rfl, rfl, trivial⟩ ?_
 simp only [fo]
 refine ak (A4 h hl hb) rfl (vs := [Str (mQ cs l).1, iV (mQ cs l).2]) ⟨rfl, rfl, trivial⟩ fun H1 l1 => ?_
 refine aa _ (uk _ _) ?_
 refine ab (ab (aa _ (an _ _) (ab (aa _ (ap _ _) ?_))))
 exact af ⟨rfl, rfl⟩
def tC : List Cp := [⟨0, 18⟩, ⟨1, 4⟩]
theorem kv1 : aE aK tC = (-1, 0) := by decide +kernel
theorem kv2 : aE aK [⟨0, 18⟩, ⟨1, 5⟩] = (1, 7) := by decide +kernel
theorem kv3 : aE aK [⟨0, 18⟩, ⟨3, 1⟩] = (1, 3) := by decide +kernel
theorem kv4 : aE aK [⟨1, 4⟩, ⟨0, 18⟩] = (1, 2) := by decide +kernel
theorem kv5 : aE aK [⟨0, 0⟩] = (0, 2) := by decide +kernel
theorem kv6 : aE aK [⟨0, 19⟩] = (-1, 4) := by decide +kernel
theorem kv7 : aE aK [⟨0, 60⟩, ⟨2, 1⟩] = (-1, 5) := by decide +kernel
theorem kv8 : aE aK [⟨0, 61⟩] = (0, 2) := by decide +kernel
theorem EQ : cR [2, 0, 0] = [0, 0, 2] := by simp [cR, List.mergeSort, List.MergeSort.Internal.splitInTwo, List.merge]
theorem kv9 : ofV [2, 0, 0] = ([⟨0, 2⟩, ⟨2, 1⟩], 0) := by
 rw [ofV, if_neg (by decide), if_neg (by decide), EQ]
 decide +kernel
theorem FM : ofV [-1] = ([], 2) := by decide +kernel
theorem FI : aR aK tC = [49, 56, 32, 87, 101, 108, 108, 10, 52, 32, 74, 111, 108, 116, 10] := by decide +kernel
theorem FH : lP aK 1 tC = 18 := by decide +kernel
theorem FG : lP aK 0 tC = 22 := by decide +kernel
theorem AI (a b : Int) : lv [⟨1, a⟩, ⟨0, b⟩] = [⟨0, b⟩, ⟨1, a⟩] := qK (List.Perm.swap _ _ _) (b := -1) ⟨show (-1 : Int) < 0 by decide, show (0 : Int) < 1 by decide, trivial⟩
abbrev s14 : List UInt8 := [52, 32, 74, 111, 108, 116, 10, 49, 56, 32, 87, 101, 108, 108, 10]
theorem FD : cG aK s14 = (tC, 0, 0) := by
 have h : bW aK (cq s14.length s14) [] 0 = .inl [⟨1, 4⟩, ⟨0, 18⟩] := by decide +kernel
 rw [cG, h]
 simp only []
 rw [AI, if_neg (by decide +kernel)]
 rfl
theorem FC : cG aK [49, 56, 32, 87, 101, 108, 108, 10, 52, 32, 106, 111, 108, 116, 10] = ([], 2, 9) := by decide +kernel
theorem FB : cG aK [49, 56, 32, 87, 101, 108, 108, 10, 50, 32, 87, 101, 108, 108, 10] = ([], 2, 11) := by decide +kernel
theorem FA : cG aK [48, 52, 32, 74, 111, 108, 116, 10] = ([], 1, 6) := by decide +kernel
abbrev s18 : List UInt8 := [53, 32, 74, 111, 108, 116, 10, 49, 56, 32, 87, 101, 108, 108, 10]
theorem Fz : cG aK s18 = ([], 0, 7) := by
 have h : bW aK (cq s18.length s18) [] 0 = .inl [⟨1, 5⟩, ⟨0, 18⟩] := by decide +kernel
 rw [cG, h]
 simp only []
 rw [AI, if_pos (by decide +kernel), show aE aK [⟨0, 18⟩, ⟨1, 5⟩] = (1, 7) from kv2]
theorem Fv : cG aK [] = ([], 0, 4) := by decide +kernel
theorem bA {P : Program} {f : FuncId} {args : List Value} {H : Heap} {O : Go.Sx.Own} {frz : List BV} {r : Value} {shp : Shp} {vs : List Value} {K : List Value → List (List Value) → Heap → Go.Sx.Own → Prop}
  (h : ∀ Hf, Heap.le H Hf → (∀ b ∈ frz, Hf b.r = some b.obj.2) → RetO P f args Hf [] r) (ho : shp.open r = some vs) (h1 : Ones vs) (hk : ∀ H', Heap.le H H' → (∀ b ∈ frz, H' b.r = some b.obj.2) → K vs [] H' O) :
  cg (fun H1 O1 R => Triple P f args H1 O1 R) false frz [] shp K H O := by
 intro hc
 have hf := dP hc
 refine ⟨H.insAll frz, [], O, _, Ghost.refl _ _, h _ (Heap.le_insAll frz H) hf, ?_⟩
 rintro v H' O' ⟨rfl, rfl⟩ hle
 exact ⟨vs, [], [], ho, h1, trivial, rfl, hk _ (Heap.le_trans (Heap.le_insAll frz H) hle) fun b hb => hle.1 _ _ (hf b hb)⟩
theorem ik {H : Heap} {r n : Nat} {T : TypeId} (l : List Cp) (hn : n = l.length) (h : H r = some (.cells (l.map Cp.row).flatten.toArray T (0, 0))) (hb : l.length < 1000) : ol H (.slice (some ⟨r, 0, none⟩) n n) l := by
 refine uq (by simpa using hn) h (fun row hr => ?_) (fun row hr => ?_) (by rw [List.length_map]; omega)
 ·obtain ⟨c, _, rfl⟩ := List.mem_map.1 hr; rfl
 ·obtain ⟨c, _, rfl⟩ := List.mem_map.1 hr; exact ⟨rfl, rfl, trivial⟩
theorem rR {H : Heap} {r n : Nat} {T : TypeId} (l : List Int) (hn : n = l.length) (h : H r = some (.cells (aO l).flatten.toArray T (0, 0))) (hb : l.length < 1000) : Sl H 1 (.slice (some ⟨r, 0, none⟩) n n) (aO l) := by
 have hl : (aO l).length = l.length := by simp [aO]
 refine uq (hn.trans hl.symm) h (fun row hr => ?_) (fun row hr => ?_) (by omega)
 ·obtain ⟨c, _, rfl⟩ := List.mem_map.1 hr; rfl
 ·obtain ⟨c, _, rfl⟩ := List.mem_map.1 hr; exact ⟨rfl, trivial⟩
theorem nc (H : Heap) : ol H (.slice none 0 0) [] := Sl.nil _ _
theorem gV {H : Heap} {p : Value} (h : PoolK H p aK) {v : Value} {l : List Cp} (hl : ol H v l) (hb : l.length ≤ 1000000) {i e : Int} (hv : aE aK l = (i, e)) : RetO PP de [p, v, iV i, iV e] H [] (.bool true) := by
 have := Aq h.1 hl hb i e
 rw [hv] at this
 simpa using this
theorem AU {H : Heap} {v v' : Value} {zs : List Int} {l : List Cp} (hs : Sl H 1 v (aO zs)) (h' : ol H v' l) {e : Int} (hv : ofV zs = (l, e)) : RetO PP dL [v, v', iV e] H [] (.bool true) := by
 have := A2 hs h' e
 rw [hv] at this
 simpa using this
theorem BN {H : Heap} {p : Value} {cs : List CdF} (h : PoolK H p cs) {v : Value} {l : List Cp} (hl : ol H v l) (hb : l.length ≤ 1000000) {s : List UInt8} {e : Int} (hv : mQ cs l = (s, e)) : RetO PP dq [p, v, Str s, iV e] H [] (.bool true) := by
 have := B8 h hl hb s e
 rw [hv] at this
 simpa using this
theorem vR {H : Heap} {p : Value} {cs : List CdF} (h : PoolK H p cs) {v : Value} {l : List Cp} (hl : ol H v l) (hb : l.length ≤ 1000000) {k i e : Int} (hv : gn cs l k = (i, e)) : RetO PP dc [p, v, iV k, iV i, iV e] H [] (.bool true) := by
 have := we h.1 hl hb k i e
 rw [hv] at this
 simpa using this
theorem gU {H : Heap} {p v : Value} {cs : List CdF} (hp : PoolK H p cs) (hG : GlobOk H) {s : List UInt8} (hs : s.length ≤ 1000) {l : List Cp} (h' : ol H v l) {m e : Int} (hv : cG cs s = (l, m, e)) : RetO PP cZ [p, Str s, v, iV m, iV e] H [] (.bool true) := by
 have := Ao hp.1 hG hs h' m e
 rw [hv] at this
 simpa using this
theorem Ce {H : Heap} (hG : GlobOk H) : RetO PP fD [] H [] (.bool true) := by
 refine jM (vs := []) (by kernel_rfl) trivial ?_
 simp only [fq]
 refine bn (Cf H) ?_
 rintro cv H1 _ ⟨hcv, rfl⟩ l1
 refine ⟨[cv], rfl, ⟨hcv.one, trivial⟩, ?_⟩
 have hG := hG.le l1
 refine bn (DW hcv) ?_
 rintro _ H2 _ ⟨⟨p, rfl, h⟩, rfl⟩ l2
 have hG := hG.le l2
 refine ⟨[p, iV 0], rfl, ⟨h.1.one, rfl, trivial⟩, ?_⟩
 have hpp : ah (.bin .eql .ptr) [p, .pointer none] = some (.bool false) := by
  obtain ⟨r, _, _, _, rfl, _⟩ := h.1
  rfl
 refine aa _ hpp ?_
 refine ab ?_
 refine aa _ (dl _ _) ?_
 refine ab ?_
 refine aa _ (aw _ _) (ai (fun hd => by cases hd) (fun _ => ?_))
 refine aj fun r0 => ?_
 refine bA (r := .bool true) (fun Hf lf hf => gV (h.le lf) (ik tC rfl (hf _ List.mem_cons_self) (by decide)) (by decide) kv1) rfl ⟨rfl, trivial⟩ fun H3 l3 f3 => ?_
 have h := h.le l3
 have hG := hG.le l3
 have hg : ol H3 (.slice (some ⟨r0, 0, none⟩) 2 2) tC := ik tC rfl (f3 _ List.mem_cons_self) (by decide)
 refine aa _ (av _) (ai (fun hd => by cases hd) (fun _ => ?_))
 refine aj fun r1 => ?_
 refine bA (r := .bool true) (fun Hf lf hf => gV (h.le lf) (ik [⟨0, 18⟩, ⟨1, 5⟩] rfl (hf _ List.mem_cons_self) (by decide)) (by decide) kv2) rfl ⟨rfl, trivial⟩ fun H4 l4 f4 => ?_
 have h := h.le l4
 have hG := hG.le l4
 have hg := hg.le l4
 refine aa _ (av _) (ai (fun hd => by cases hd) (fun _ => ?_))
 refine aj fun r2 => ?_
 refine bA (r := .bool true) (fun Hf lf hf => gV (h.le lf) (ik [⟨0, 18⟩, ⟨3, 1⟩] rfl (hf _ List.mem_cons_self) (by decide)) (by decide) kv3) rfl ⟨rfl, trivial⟩ fun H5 l5 f5 => ?_
 have h := h.le l5
 have hG := hG.le l5
 have hg := hg.le l5
 refine aa _ (av _) (ai (fun hd => by cases hd) (fun _ => ?_))
 refine aj fun r3 => ?_
 refine bA (r := .bool true) (fun Hf lf hf => gV (h.le lf) (ik [⟨1, 4⟩, ⟨0, 18⟩] rfl (hf _ List.mem_cons_self) (by decide)) (by decide) kv4) rfl ⟨rfl, trivial⟩ fun H6 l6 f6 => ?_
 have h := h.le l6
 have hG := hG.le l6
 have hg := hg.le l6
 refine aa _ (av _) (ai (fun hd => by cases hd) (fun _ => ?_))
 refine aj fun r4 => ?_
 refine bA (r := .bool true) (fun Hf lf hf => gV (h.le lf) (ik [⟨0, 0⟩] rfl (hf _ List.mem_cons_self) (by decide)) (by decide) kv5) rfl ⟨rfl, trivial⟩ fun H7 l7 f7 => ?_
 have h := h.le l7
 have hG := hG.le l7
 have hg := hg.le l7
 refine aa _ (av _) (ai (fun hd => by cases hd) (fun _ => ?_))
 refine aj fun r5 => ?_
 refine bA (r := .bool true) (fun Hf lf hf => gV (h.le lf) (ik [⟨0, 19⟩] rfl (hf _ List.mem_cons_self) (by decide)) (by decide) kv6) rfl ⟨rfl, trivial⟩ fun H8 l8 f8 => ?_
 have h := h.le l8
 have hG := hG.le l8
 have hg := hg.le l8
 refine aa _ (av _) (ai (fun hd => by cases hd) (fun _ => ?_))
 refine aj fun r6 => ?_
 refine bA (r := .bool true) (fun Hf lf hf => gV (h.le lf) (ik [⟨0, 60⟩, ⟨2, 1⟩] rfl (hf _ List.mem_cons_self) (by decide)) (by decide) kv7) rfl ⟨rfl, trivial⟩ fun H9 l9 f9 => ?_
 have h := h.le l9
 have hG := hG.le l9
 have hg := hg.le l9
 refine aa _ (av _) (ai (fun hd => by cases hd) (fun _ => ?_))
 refine aj fun r7 => ?_
 refine bA (r := .bool true) (fun Hf lf hf => gV (h.le lf) (ik [⟨0, 61⟩] rfl (hf _ List.mem_cons_self) (by decide)) (by decide) kv8) rfl ⟨rfl, trivial⟩ fun H10 l10 f10 => ?_
 have h := h.le l10
 have hG := hG.le l10
 have hg := hg.le l10
 refine aa _ (av _) (ai (fun hd => by cases hd) (fun _ => ?_))
 refine aj fun r8 => ?_
 refine aj fun r9 => ?_
 refine bA (r := .bool true) (fun Hf lf hf => AU (rR [2, 0, 0] rfl (hf _ List.mem_cons_self) (by decide)) (ik [⟨0, 2⟩, ⟨2, 1⟩] rfl (hf _ (List.mem_cons_of_mem _ List.mem_cons_self)) (by decide)) kv9) rfl ⟨rfl, trivial⟩ fun H11 l11 f11 => ?_
 have h := h.le l11
 have hG := hG.le l11
 have hg := hg.le l11
 refine aa _ (av _) (ai (fun hd => by cases hd) (fun _ => ?_))
 refine aj fun r10 => ?_
 refine bA (r := .bool true) (fun Hf lf hf => AU (rR [-1] rfl (hf _ List.mem_cons_self) (by decide)) (nc _) FM) rfl ⟨rfl, trivial⟩ fun H12 l12 f12 => ?_
 have h := h.le l12
 have hG := hG.le l12
 have hg := hg.le l12
 refine aa _ (av _) (ai (fun hd => by cases hd) (fun _ => ?_))
 refine bA (r := .bool true) (fun Hf lf hf => BN (h.le lf) (hg.le lf) (by decide) (s := [49, 56, 32, 87, 101, 108, 108, 10, 52, 32, 74, 111, 108, 116, 10]) (by rw [mQ, if_pos (by rw [kv1]), FI])) rfl ⟨rfl, trivial⟩ fun H13 l13 f13 => ?_
 have h := h.le l13
 have hG := hG.le l13
 have hg := hg.le l13
 refine aa _ (av _) (ai (fun hd => by cases hd) (fun _ => ?_))
 refine bA (r := .bool true) (fun Hf lf hf => vR (h.le lf) (hg.le lf) (by decide) (by rw [gn, if_pos (by rw [kv1]), FH])) rfl ⟨rfl, trivial⟩ fun H14 l14 f14 => ?_
 have h := h.le l14
 have hG := hG.le l14
 have hg := hg.le l14
 refine aa _ (av _) (ai (fun hd => by cases hd) (fun _ => ?_))
 refine bA (r := .bool true) (fun Hf lf hf => vR (h.le lf) (hg.le lf) (by decide) (by rw [gn, if_pos (by rw [kv1]), FG])) rfl ⟨rfl, trivial⟩ fun H15 l15 f15 => ?_
 have h := h.le l15
 have hG := hG.le l15
 have hg := hg.le l15
 refine aa _ (av _) (ai (fun hd => by cases hd) (fun _ => ?_))
 refine bA (r := .bool true) (fun Hf lf hf => gU (h.le lf) (hG.le lf) (s := s14) (by decide) (hg.le lf) FD) rfl ⟨rfl, trivial⟩ fun H16 l16 f16 => ?_
 have h := h.le l16
 have hG := hG.le l16
 have hg := hg.le l16
 refine ai (fun _ => ?_) (fun hd => by cases hd)
 refine bA (r := .bool true) (fun Hf lf hf => gU (h.le lf) (hG.le lf) (s := [49, 56, 32, 87, 101, 108, 108, 10, 52, 32, 106, 111, 108, 116, 10]) (by decide) (nc _) FC) rfl ⟨rfl, trivial⟩ fun H17 l17 f17 => ?_
 have h := h.le l17
 have hG := hG.le l17
 have hg := hg.le l17
 refine ai (fun _ => ?_) (fun hd => by cases hd)
 refine bA (r := .bool true) (fun Hf lf hf => gU (h.le lf) (hG.le lf) (s := [49, 56, 32, 87, 101, 108, 108, 10, 50, 32, 87, 101, 108, 108, 10]) (by decide) (nc _) FB) rfl ⟨rfl, trivial⟩ fun H18 l18 f18 => ?_
 have h := h.le l18
 have hG := hG.le l18
 have hg := hg.le l18
 refine ai (fun _ => ?_) (fun hd => by cases hd)
 refine bA (r := .bool true) (fun Hf lf hf => gU (h.le lf) (hG.le lf) (s := [48, 52, 32, 74, 111, 108, 116, 10]) (by decide) (nc _) FA) rfl ⟨rfl, trivial⟩ fun H19 l19 f19 => ?_
 have h := h.le l19
 have hG := hG.le l19
 have hg := hg.le l19
 refine ai (fun _ => ?_) (fun hd => by cases hd)
 refine bA (r := .bool true) (fun Hf lf hf => gU (h.le lf) (hG.le lf) (s := s18) (by decide) (nc _) Fz) rfl ⟨rfl, trivial⟩ fun H20 l20 f20 => ?_
 have h := h.le l20
 have hG := hG.le l20
 have hg := hg.le l20
 refine ai (fun _ => ?_) (fun hd => by cases hd)
 refine bA (r := .bool true) (fun Hf lf hf => gU (h.le lf) (hG.le lf) (s := []) (by decide) (nc _) Fv) rfl ⟨rfl, trivial⟩ fun H21 l21 f21 => ?_
 exact af ⟨rfl, rfl⟩
abbrev Ep (r : Value) (_ : Heap) (O' : Go.Sx.Own) : Prop := r = .bool true ∧ O' = []
theorem mo {H : Heap} (hG : GlobOk H) : (Tree.call false 9 [] [] [] .one fun l _ => .ret (g l 0) []).den PP Ep H [] :=
 ak (Ce hG) rfl ⟨rfl, trivial⟩ fun _ _ => af ⟨rfl, rfl⟩
end Go.Proofs.YtamgiojcbdbokaaGreatDoor
