/- What all laws of this seat need beyond TX: the variable that is laid, arguments. -/
import Derived.Test.YtdhobpmnkfmcfaaGreatDoorM17
import Derived.Test.YtdhobpmnkfmcfaaGreatDoorKN
import Derived.Test.YtdhobpmnkfmcfaaGreatDoorTie
import Derived.Test.YtdhobpmnkfmcfaaGreatDoorCards
import Derived.SevenTiedAt
import Derived.Carry
import Derived.Test.YtdhobpmnkfmcfaaGreatDoorC8
namespace Go.Proofs.YtdhobpmnkfmcfaaGreatDoor
open Go Go.Sx Go.ChangeShapes Go.WideShapes Go.ChangeAt Go.RowKit
set_option maxRecDepth 100000
set_option maxHeartbeats 1000000
theorem gTab : Tryz.prog.globalNamed "math/bits.deBruijn64tab" = some 0 := by kernel_rfl
theorem tTab : (Tryz.prog.globals[0]?).map (·.type) = some 220 := by kernel_rfl
abbrev Iq : List (String × DataW Unit) := [("math/bits.deBruijn64tab", Rows.laid_math_bits_deBruijn64tab)]
theorem NA {W : World} (h : laidMetH Tryz.prog Iq W) : GlobOk tC (BN W) := by
 rw [MakeChecks.laidMetH_plain _ _ _ (by kernel_rfl)] at h
 obtain ⟨ps, ⟨g0, t0, cs0, f0, p0, q0, hg0, ht0, hv0, hd0, _, _⟩, _, _⟩ := h
 obtain rfl := Option.some.inj (gTab.symm.trans hg0)
 obtain rfl := Option.some.inj (tTab.symm.trans ht0)
 exact Gf (by simp [bruijn, Ones, Value.oneCell']) (BI (l := bruijn) (k := .u8) Tryz.underlying220 (by kernel_rfl) (by kernel_rfl) rfl hd0 (World.var?_cell hg0 hv0))
theorem KL (os : Os) (args : Array Value) : laidMetH Tryz.prog Iq ((World.doorLaid Tryz.prog 400 os).forCall (fun _ _ => 0) ⟨#[], args, []⟩).memory :=
 laidMetH_of_parts3 (fuel := 8) (laidMet_of_run' 8 (by kernel_rfl) (by kernel_rfl)) (by kernel_rfl) (by kernel_rfl)
end Go.Proofs.YtdhobpmnkfmcfaaGreatDoor
namespace Go.Proofs.YtdhobpmnkfmcfaaGreatDoor
open Go Go.Sx
set_option maxRecDepth 100000
set_option maxHeartbeats 1000000
def bm (o : Ob) (z : Int) : Ob := { o with dmg := 0, pp := 0, pt := 0, cnt := 0, tap := false, doom := false, sick := z == 2 }
def au (b : Bd) (p : Int) : St := if p = 0 then b.s0 else b.s1
def aW (b : Bd) (p : Int) (s : St) : Bd := if p = 0 then { b with s0 := s } else { b with s1 := s }
def Do (s : St) (z id : Int) : St :=
 if z = 0 then { s with lib := s.lib ++ [id] } else if z = 1 then { s with hand := s.hand ++ [id] } else if z = 2 then { s with field := s.field ++ [id] } else if z = 3 then { s with grave := s.grave ++ [id] } else s
def bW (l : List Int) (id : Int) : List Int := l.filter fun n => n != id
def MQ (s : St) (id : Int) : St := { s with lib := bW s.lib id, hand := bW s.hand id, field := bW s.field id, grave := bW s.grave id }
def iQ (id : Int) (x : It) : Bool := decide (x.trig < 0) && x.id == id
def ee (id : Int) (x : Bl) : Bool := x.blocker == id || x.attacker == id
def kl (b : Bd) (id : Int) : Bd := { b with s0 := MQ b.s0 id, s1 := MQ b.s1 id, stack := b.stack.filter fun x => !iQ id x, att := bW b.att id, blocks := b.blocks.filter fun x => !ee id x }
def du (b : Bd) (k : Nat) (o : Ob) : Bd := { b with objs := b.objs.set k o }
def jM (b : Bd) (p z id : Int) : Bd := aW b p (Do (au b p) z id)
def eo (b : Bd) (k : Nat) (o : Ob) (z : Int) : Bd := jM (du (kl b o.id) k o) o.owner z o.id
def Nx (s : St) : List Int := s.lib ++ (s.hand ++ (s.field ++ s.grave))
def Ny (b : Bd) : List Int := Nx b.s0 ++ (Nx b.s1 ++ (bD b.stack).map (·.id))
theorem gK (b : Bd) : (aI b).map (·.1) = Ny b := by
 simp [aI, cj, Ny, Nx, ej, Function.comp_def]
theorem tX {l : List Int} {id : Int} (h : l.count id = 0) : bW l id = l := by
 rw [bW, List.filter_eq_self]
 intro x hx
 have : id ∉ l := List.count_eq_zero.1 h
 simp only [bne_iff_ne, ne_eq]
 rintro rfl
 exact this hx
theorem cB {b : Bd} {val : Ob → Bool} (h : bu val b = true) : (Ny b).Nodup := by
 simp only [bu, Bool.and_eq_true, decide_eq_true_eq] at h
 rw [← gK]; exact h.1
theorem aJ {b : Bd} (h : al b = true) : bu aP b = true ∧ dO b = true ∧ (b.active = 0 ∨ b.active = 1) ∧ b.stack.all (fun x => jr x false) = true := by
 simp only [al, Bool.and_eq_true, ap, decide_eq_true_eq, Bool.not_eq_true', List.any_eq_false] at h
 refine ⟨h.2.2.2.2.2.2.2.2.2.1, h.2.2.2.2.2.2.2.2.2.2, by have := h.1; omega, ?_⟩
 rw [List.all_eq_true]
 intro x hx
 have := h.2.2.2.2.2.2.2.1 x hx
 simpa using this
theorem fq {b : Bd} (h : bu aP b = true) : Au none b.objs = true ∧ b.objs.all (ok1 (aI b) (aZ b.stack)) = true ∧ (aI b).length = b.objs.length := by
 simp only [bu, Bool.and_eq_true, decide_eq_true_eq, lC] at h
 exact ⟨h.2.1.1, h.2.1.2, h.2.2⟩
theorem IE {α : Type} {p : α → Bool} : ∀ {l : List α} {k : Nat} {x : α} (i : Int), l[k]? = some x → p x = true → (∀ (j : Nat) (y : α), j < k → l[j]? = some y → p y = false) → gw p l i = i + k
 | [], k, x, i, h, _, _ => by simp at h
 | a :: l, 0, x, i, h, hp, _ => by
  simp at h; subst h
  simp [gw, hp]
 | a :: l, k + 1, x, i, h, hp, hb => by
  have h0 := hb 0 a (by omega) rfl
  have := IE (i + 1) (l := l) (k := k) (by simpa using h) hp fun j y hj e => hb (j + 1) y (by omega) (by simpa using e)
  simp only [gw, h0, Bool.false_eq_true, if_false, this]
  omega
theorem IG {b : Bd} (hn : (b.objs.map (·.id)).Nodup) {k : Nat} {o : Ob} (h : b.objs[k]? = some o) : oh b o.id = k := by
 have := IE (p := fun x : Ob => x.id == o.id) (l := b.objs) 0 h (by simp) fun j y hj e => by
  have hlt := (List.getElem?_eq_some_iff.1 h).1
  have h1 : (b.objs.map (·.id))[j]? = some y.id := by rw [List.getElem?_map, e]; rfl
  have h2 : (b.objs.map (·.id))[k]? = some o.id := by rw [List.getElem?_map, h]; rfl
  have hne : y.id ≠ o.id := by
   intro e2
   rw [e2] at h1
   have := (List.getElem?_inj (by simpa using (by omega : j < b.objs.length)) hn).1 (h1.trans h2.symm)
   omega
  simpa using hne
 rw [oh, this]; omega
theorem dN {b : Bd} (h : bu aP b = true) {k : Nat} {o : Ob} (hk : b.objs[k]? = some o) : aP o = true ∧ (o.id, o.owner) ∈ aI b ∧ oh b o.id = k ∧ (o.owner = 0 ∨ o.owner = 1) := by
 obtain ⟨h1, h2, _⟩ := fq h
 have hm := List.mem_of_getElem? hk
 have ho := List.all_eq_true.1 h2 o hm
 simp only [ok1, Bool.and_eq_true, beq_iff_eq] at ho
 obtain ⟨v, hl, hown, _⟩ := ho
 have hn := cB h
 rw [← gK] at hn
 refine ⟨v, ?_, IG (nW h1).2 hk, AC v⟩
 cases e : bX (aI b) o.id with
 | none => rw [e] at hl; cases hl
 | some w =>
  rw [e] at hown
  have : w = o.owner := hown
  rw [this] at e
  exact (lE hn).1 e
theorem EY {b : Bd} (h : bu aP b = true) {id p : Int} (hm : (id, p) ∈ aI b) : ∃ (k : Nat) (o : Ob), b.objs[k]? = some o ∧ o.id = id ∧ o.owner = p := by
 obtain ⟨o, ho, e, _⟩ := yF h id (List.mem_map_of_mem (f := Prod.fst) hm)
 obtain ⟨k, hk⟩ := List.mem_iff_getElem?.1 ho
 refine ⟨k, o, hk, e, ?_⟩
 obtain ⟨_, h2, _⟩ := dN h hk
 have hn := cB h
 rw [← gK] at hn
 rw [e] at h2
 have a := (lE hn).2 h2
 have c := (lE hn).2 hm
 rw [a] at c
 exact Option.some.inj c
theorem tq {l l' : List (Int × Int)} (hn : (l.map (·.1)).Nodup) (hp : l.Perm l') (k : Int) : bX l k = bX l' k := by
 have hn' : (l'.map (·.1)).Nodup := (hp.map _).nodup_iff.1 hn
 cases e : bX l k with
 | none =>
  rw [eL] at e
  symm
  rw [eL]
  intro h
  exact e ((hp.map _).mem_iff.2 h)
 | some v =>
  rw [lE hn] at e
  exact ((lE hn').2 (hp.mem_iff.1 e)).symm
theorem EN : ∀ {l : List Ob} {prev : Option Int} {k : Nat} {o o' : Ob}, l[k]? = some o → o'.id = o.id → Au prev (l.set k o') = Au prev l
 | [], _, _, _, _, h, _ => by simp at h
 | a :: l, prev, 0, o, o', h, e => by
  simp at h; subst h
  simp only [List.set_cons_zero, Au, e]
 | a :: l, prev, k + 1, o, o', h, e => by
  simp only [List.set_cons_succ, Au]
  rw [EN (by simpa using h) e]
theorem yE {b : Bd} {k : Nat} {o o' : Ob} (h : bu aP b = true) (hk : b.objs[k]? = some o) (h1 : o'.id = o.id) (h2 : o'.owner = o.owner) (h3 : o'.card = o.card) (hv : aP o' = true) : bu aP (du b k o') = true := by
 obtain ⟨p1, p2, p3⟩ := fq h
 have hn := cB h
 have e1 : aI (du b k o') = aI b := rfl
 have e2 : (du b k o').stack = b.stack := rfl
 have e3 : (du b k o').objs = b.objs.set k o' := rfl
 simp only [bu, Bool.and_eq_true, decide_eq_true_eq, lC, e1, e2, e3, List.length_set, gK]
 refine ⟨hn, ⟨by rw [EN hk h1]; exact p1, ?_⟩, p3⟩
 rw [List.all_eq_true]
 intro x hx
 rcases List.mem_or_eq_of_mem_set hx with hx | rfl
 ·exact List.all_eq_true.1 p2 x hx
 ·have := List.all_eq_true.1 p2 o (List.mem_of_getElem? hk)
  simp only [ok1, Bool.and_eq_true] at this ⊢
  rw [h1, h2, h3]
  exact ⟨hv, this.2⟩
theorem wu {b c : Bd} (h : bu aP b = true) (hp : (aI b).Perm (aI c)) (ho : c.objs = b.objs) (hc : aZ c.stack = aZ b.stack) : bu aP c = true := by
 obtain ⟨p1, p2, p3⟩ := fq h
 have hn := cB h
 rw [← gK] at hn
 simp only [bu, Bool.and_eq_true, decide_eq_true_eq, lC, ho, hc]
 refine ⟨(hp.map _).nodup_iff.1 hn, ⟨p1, ?_⟩, by rw [← hp.length_eq]; exact p3⟩
 have : (b.objs.all (ok1 (aI c) (aZ b.stack))) = b.objs.all (ok1 (aI b) (aZ b.stack)) := by
  congr 1
  funext o
  simp only [ok1, tq hn hp]
 rw [this]; exact p2
theorem tY {o : Ob} (z : Int) (h : aP o = true) : aP (bm o z) = true := by
 rw [yA] at h ⊢
 simp only [bm]
 obtain ⟨⟨a1, a2, a3, a4, a5, a6⟩, a7⟩ := h
 exact ⟨⟨a1, a2, by omega, by omega, by omega, by omega⟩, a7⟩
def Ly (s : St) (id : Int) : St := { s with lib := s.lib.dropLast, hand := s.hand ++ [id] }
def Aw (b : Bd) (p id : Int) : Bd := aW b p (Ly (au b p) id)
theorem Bh {s : St} {l : List Int} {id : Int} (p : Int) (hl : s.lib = l ++ [id]) : (cj s p).Perm (cj (Ly s id) p) := by
 simp only [cj, Ly, hl, List.dropLast_concat]
 refine List.Perm.map _ ?_
 simp only [List.append_assoc]
 exact List.Perm.append_left l ((List.perm_append_comm_assoc _ _ _))
theorem By {b : Bd} {p : Int} (hp : p = 0 ∨ p = 1) {l : List Int} {id : Int} (hl : (au b p).lib = l ++ [id]) :
  (aI b).Perm (aI (Aw b p id)) ∧ (Aw b p id).objs = b.objs ∧ (Aw b p id).stack = b.stack ∧ (id, p) ∈ aI b := by
 rcases hp with rfl | rfl
 ·have hl' : b.s0.lib = l ++ [id] := hl
  refine ⟨?_, rfl, rfl, ?_⟩
  ·exact (Bh 0 hl').append_right _
  ·simp [aI, cj, hl']
 ·have hl' : b.s1.lib = l ++ [id] := hl
  refine ⟨?_, rfl, rfl, ?_⟩
  ·exact ((Bh 1 hl').append_right _).append_left _
  ·simp [aI, cj, hl']
theorem Eg {b c : Bd} (h : al b = true) (hpl : bu aP c = true) (hf : dO c = dO b) (h0 : be c.s0 = be b.s0) (h1 : be c.s1 = be b.s1)
  (e1 : c.active = b.active) (e2 : c.turn = b.turn) (e3 : c.phase = b.phase) (e4 : c.holder = b.holder) (e5 : c.passes = b.passes) (e6 : c.stack = b.stack) (e7 : c.queue = b.queue) (e8 : c.objs.length = b.objs.length) : al c = true := by
 have hp := (aJ h).1
 have : al c = al b := by
  simp only [al, nZ, hf, h0, h1, e1, e2, e3, e4, e5, e6, e7, e8, hpl, hp]
 rw [this]; exact h
theorem Ig {b : Bd} (h : al b = true) {p : Int} (hp : p = 0 ∨ p = 1) {l : List Int} {id : Int} (hl : (au b p).lib = l ++ [id]) : al (Aw b p id) = true := by
 obtain ⟨m1, m2, m3, _⟩ := By hp hl
 have hpl := wu (aJ h).1 m1 m2 (by rw [m3])
 rcases hp with rfl | rfl <;> exact Eg h hpl rfl rfl rfl rfl rfl rfl rfl rfl rfl rfl rfl
theorem AN {b : Bd} {k : Nat} {o o' : Ob} (h : al b = true) (hk : b.objs[k]? = some o) (h1 : o'.id = o.id) (h2 : o'.owner = o.owner) (h3 : o'.card = o.card) (hv : aP o' = true) : al (du b k o') = true :=
 Eg h (yE (aJ h).1 hk h1 h2 h3 hv) rfl rfl rfl rfl rfl rfl rfl rfl rfl rfl (by simp [du])
theorem yZ {own other att : List Int} {bl : List Bl} (h : iL own other att bl = true) : (∀ x ∈ att, x ∈ own) ∧ ∀ x ∈ bl, x.attacker ∈ own ∧ x.blocker ∈ other := by
 simp only [iL, Bool.and_eq_true, List.all_eq_true, List.contains_iff_mem] at h
 obtain ⟨_, h2, h3⟩ := h
 refine ⟨h2, ?_⟩
 have key : ∀ (bl : List Bl) (ua ub : List Int), tO att other ua ub bl = true → ∀ x ∈ bl, x.attacker ∈ att ∧ x.blocker ∈ other := by
  intro bl
  induction bl with
  | nil => intro _ _ _ x hx; simp at hx
  | cons a r ih =>
   intro ua ub h x hx
   simp only [tO, Bool.and_eq_true, List.contains_iff_mem] at h
   rcases List.mem_cons.1 hx with rfl | hx
   ·exact ⟨h.1.1.2, h.1.2.2⟩
   ·exact ih _ _ h.2 x hx
 intro x hx
 obtain ⟨a, c⟩ := key bl [] [] h3 x hx
 exact ⟨h2 _ a, c⟩
theorem Gi {b : Bd} (h : dO b = true) : (∀ x ∈ b.att, x ∈ b.s0.field ∨ x ∈ b.s1.field) ∧ ∀ x ∈ b.blocks, (x.attacker ∈ b.s0.field ∨ x.attacker ∈ b.s1.field) ∧ (x.blocker ∈ b.s0.field ∨ x.blocker ∈ b.s1.field) := by
 unfold dO at h
 split at h
 ·obtain ⟨a, c⟩ := yZ h
  exact ⟨fun x hx => .inl (a x hx), fun x hx => ⟨.inl (c x hx).1, .inr (c x hx).2⟩⟩
 ·obtain ⟨a, c⟩ := yZ h
  exact ⟨fun x hx => .inr (a x hx), fun x hx => ⟨.inr (c x hx).1, .inl (c x hx).2⟩⟩
theorem xx {P : Program} {f : FuncId} {args : List Value} {H : Heap} {O : Own} {S : Value → Heap → Prop} {d : Bool} {shp : Shp} {K : List Value → List (List Value) → Heap → Own → Prop}
  (h : Triple P f args H O fun v H' O' => S v H' ∧ O' = O) (hk : ∀ v H', S v H' → Heap.le H H' → ∃ vs, shp.open v = some vs ∧ Ones vs ∧ K vs [] H' O) :
  dG (fun H1 O1 R => Triple P f args H1 O1 R) d [] [] shp K H O := by
 intro _
 refine ⟨H, O, [], fun v H' O' => S v H' ∧ O' = O, ?_, h, ?_⟩
 ·cases d
  ·show Ghost H O H (O ++ [])
   rw [List.append_nil]; exact Ghost.refl _ _
  ·exact ⟨rfl, .inr ⟨rfl, rfl, rfl, fun v H' O' h => h.2⟩⟩
 ·rintro v H' O' ⟨hs, rfl⟩ hle
  obtain ⟨vs, h1, h2, h3⟩ := hk v H' hs hle
  exact ⟨vs, [], O', h1, h2, trivial, rfl, by rw [List.append_nil]; exact h3⟩
abbrev i64 (n : Int) : Prop := -9223372036854775808 ≤ n ∧ n ≤ 9223372036854775807
theorem bj (o : Ob) : Ones o.row := ⟨rfl, rfl, rfl, rfl, rfl, rfl, rfl, rfl, rfl, rfl, rfl, rfl, trivial⟩
theorem Cj (o : Ob) (id : Int) (H : Heap) (O : Own) : RetO PP hY [.agg o.row.toArray, iV id] H O (iV (IntKind.i64.wrap (o.id - id))) := by
 refine s9 (vs := o.row ++ [iV id]) (by kernel_rfl) (ar (bj o) ⟨rfl, trivial⟩) ?_
 simp only [oH]
 exact ae fun r0 => aa (ab _ rfl (ah ⟨rfl, rfl⟩))
theorem Az {a id : Int} (h : i64 id) (ha : 1 ≤ a) (hb : a ≤ 500) : (IntKind.i64.wrap (a - id) == 0) = (a == id) := by
 rw [Bool.eq_iff_iff]
 simp only [beq_iff_eq, IntKind.wrap, IntKind.bits, IntKind.signed]
 simp
 omega
theorem yz {a id : Int} (ha : 1 ≤ a) (hb : a ≤ 500) (h1 : 1 ≤ id) (h2 : id ≤ 500) : IntKind.i64.wrap (a - id) = a - id := fi (by omega) (by omega)
theorem EM : ∀ {l : List Ob} {prev : Option Int}, Au prev l = true → ∀ {j k : Nat} {x y : Ob}, j < k → l[j]? = some x → l[k]? = some y → x.id < y.id
 | [], _, _, j, k, x, y, _, h, _ => by simp at h
 | a :: l, prev, h, j, k, x, y, hjk, hx, hy => by
  simp only [Au, Bool.and_eq_true] at h
  cases k with
  | zero => omega
  | succ k =>
   cases j with
   | zero =>
    simp at hx; subst hx
    have hm : y ∈ l := List.mem_of_getElem? (by simpa using hy)
    exact (nW h.2).1 y hm _ rfl
   | succ j => exact EM h.2 (j := j) (k := k) (by omega) (by simpa using hx) (by simpa using hy)
theorem Lj {i n : Nat} (h : i + n < 2 ^ 63) : aj (.bin .add .int) [iV (i : Int), iV (n : Int)] = some (iV ((i + n : Nat) : Int)) := Ed h
theorem ON {n : Nat} (h : n < 2 ^ 63) : aj (.conv .u64) [iV (n : Int)] = some (.int .u64 (n : Int)) := by
 simp only [aj, IntKind.wrap, IntKind.bits, IntKind.signed]
 simp
 omega
theorem OO {n : Nat} (h : n < 2 ^ 63) : aj (.conv .i64) [.int .u64 (n : Int)] = some (iV (n : Int)) := by
 simp only [aj]
 rw [fi (by omega) (by omega)]
theorem Me {n : Nat} (h : n < 2 ^ 63) : aj (.bin .shr .int) [.int .u64 (n : Int), .int .u64 1] = some (.int .u64 ((n / 2 : Nat) : Int)) := by
 simp only [aj, eh, lK]
 simp [IntKind.bits]
 rw [Int.fdiv_eq_ediv_of_nonneg]
 all_goals omega
theorem yx {H : Heap} {O : Own} {v : Value} {l : List Ob} (h : RSl H O 12 v (l.map Ob.row)) {id : Int} (hid : i64 id) (hv : ∀ o ∈ l, 1 ≤ o.id ∧ o.id ≤ 500) (ho : Au none l = true) (hlen : l.length ≤ 1000000) :
  Triple PP bq [v, iV id, .func (.func hY) #[] #[]] H O fun r _ O' => (∃ (i : Nat) (f : Bool), r = .tuple #[iV i, .bool f] ∧ (f = true → ∃ o, l[i]? = some o ∧ o.id = id) ∧ (f = false → ∀ o ∈ l, o.id ≠ id)) ∧ O' = O := by
 refine cU (vs := [v, iV id, .func (.func hY) #[] #[]]) (by kernel_rfl) ⟨h.one, rfl, rfl, trivial⟩ ?_
 simp only [bo]
 have hl := h.len
 have hB := h.lenB
 rw [List.length_map] at hl hB
 refine ab _ hl ?_
 refine gI (fun vs H' O' => ∃ i j : Nat, vs = [iV i, iV j] ∧ i ≤ j ∧ j ≤ l.length ∧ O' = O ∧ Heap.le H H' ∧ (1 ≤ id → id ≤ 500 → (∀ (k : Nat) (o : Ob), k < i → l[k]? = some o → o.id < id) ∧ ∀ (k : Nat) (o : Ob), j ≤ k → l[k]? = some o → id ≤ o.id))
  (fun vs _ _ => match g vs 0, g vs 1 with | .int _ a, .int _ b => (b - a).toNat | _, _ => 0) ⟨0, l.length, rfl, Nat.zero_le _, Nat.le_refl _, rfl, Heap.le_refl _, fun _ _ => ⟨fun k o hk => absurd hk (Nat.not_lt_zero k), fun k o hk e => by
   have := (List.getElem?_eq_some_iff.1 e).1; omega⟩⟩ ?_
 rintro vs H' O' - - - ⟨i, j, rfl, hij, hj, rfl, hle, hinv⟩
 refine ab _ (aN _ _) (ak (fun hb => ?_) (fun hb => ?_))
 ·have hlt : i < j := by simpa using hb
  have hm : (i + j) / 2 < l.length := by omega
  obtain ⟨a, h1, h2, _, h3, h4⟩ := (h.le hle).idx .i64 ((i + j) / 2) (Ob.row l[(i + j) / 2]) (by simp [hm])
  refine ab _ (Lj (by omega)) (ab _ (ON (by omega)) (ab _ (Me (by omega)) (ab _ (OO (by omega)) (ab _ h1 (ax h2 h3 h4 ?_)))))
  refine fA rfl (gm iP (by decide)) (Cj l[(i + j) / 2] id H' O') rfl ⟨rfl, trivial⟩ fun H2 l2 => ab _ (aN _ _) (ak (fun hc => ?_) (fun hc => ?_))
  ·refine ab _ (aD (by omega)) (cY (by simp [Eqs]) ⟨(i + j) / 2 + 1, j, rfl, by omega, hj, rfl, Heap.le_trans hle l2, fun a1 a2 => ⟨fun k o hk e => ?_, (hinv a1 a2).2⟩⟩ ?_)
   ·have hc := of_decide_eq_true hc
    have hm1 := hv _ (List.getElem_mem hm)
    rw [yz hm1.1 hm1.2 a1 a2] at hc
    rcases Nat.lt_or_ge k ((i + j) / 2) with hk2 | hk2
    ·have := EM ho hk2 e (List.getElem?_eq_getElem hm); omega
    ·have : k = (i + j) / 2 := by omega
     subst this
     rw [List.getElem?_eq_getElem hm] at e
     obtain rfl := Option.some.inj e
     omega
   ·show (((j : Int) - (((i + j) / 2 + 1 : Nat) : Int)).toNat) < ((j : Int) - (i : Int)).toNat
    omega
  ·refine cY (by simp [Eqs]) ⟨i, (i + j) / 2, rfl, by omega, by omega, rfl, Heap.le_trans hle l2, fun a1 a2 => ⟨(hinv a1 a2).1, fun k o hk e => ?_⟩⟩ ?_
   ·have hc := of_decide_eq_false hc
    have hm1 := hv _ (List.getElem_mem hm)
    rw [yz hm1.1 hm1.2 a1 a2] at hc
    rcases Nat.lt_or_ge ((i + j) / 2) k with hk2 | hk2
    ·have := EM ho hk2 (List.getElem?_eq_getElem hm) e; omega
    ·have : k = (i + j) / 2 := by omega
     subst this
     rw [List.getElem?_eq_getElem hm] at e
     obtain rfl := Option.some.inj e
     omega
   ·show (((((i + j) / 2 : Nat) : Int) - (i : Int)).toNat) < ((j : Int) - (i : Int)).toNat
    omega
 ·have hie : i = j := by
   have : ¬ ((i : Int) < (j : Int)) := of_decide_eq_false hb
   omega
  subst hie
  refine ab _ (aN _ _) (ak (fun hb => ?_) (fun hb => ?_))
  ·have hlt : i < l.length := by simpa using hb
   obtain ⟨a, h1, h2, _, h3, h4⟩ := (h.le hle).idx .i64 i (Ob.row l[i]) (by simp [hlt])
   have hm1 := hv _ (List.getElem_mem hlt)
   refine ab _ h1 (ax h2 h3 h4 (fA rfl (gm iP (by decide)) (Cj l[i] id H' O') rfl ⟨rfl, trivial⟩ fun H2 l2 => ab _ (aA _ _) (ah ⟨⟨i, (IntKind.i64.wrap (l[i].id - id) == 0), rfl, fun hc => ?_, fun hc => ?_⟩, rfl⟩)))
   ·rw [Az hid hm1.1 hm1.2] at hc
    exact ⟨l[i], List.getElem?_eq_getElem hlt, by simpa using hc⟩
   ·rw [Az hid hm1.1 hm1.2] at hc
    have hne : l[i].id ≠ id := by simpa using hc
    intro o hmem e
    have hob := hv o hmem
    obtain ⟨i1, i2⟩ := hinv (by omega) (by omega)
    obtain ⟨k, hk⟩ := List.mem_iff_getElem?.1 hmem
    rcases Nat.lt_trichotomy k i with hki | hki | hki
    ·have := i1 k o hki hk; omega
    ·subst hki
     rw [List.getElem?_eq_getElem hlt] at hk
     obtain rfl := Option.some.inj hk
     exact hne e
    ·have := EM ho hki (List.getElem?_eq_getElem hlt) hk
     have := i2 i l[i] (Nat.le_refl _) (List.getElem?_eq_getElem hlt)
     omega
  ·have hge : l.length ≤ i := by simpa using hb
   refine ah ⟨⟨i, false, rfl, fun hc => (by cases hc), fun _ o hmem e => ?_⟩, rfl⟩
   have hob := hv o hmem
   obtain ⟨i1, _⟩ := hinv (by omega) (by omega)
   obtain ⟨k, hk⟩ := List.mem_iff_getElem?.1 hmem
   have := i1 k o (by have := (List.getElem?_eq_some_iff.1 hk).1; omega) hk
   omega
theorem nw {b : Bd} (h : al b = true) : (∀ o ∈ b.objs, 1 ≤ o.id ∧ o.id ≤ 500) ∧ Au none b.objs = true := by
 obtain ⟨p1, p2, _⟩ := fq (aJ h).1
 refine ⟨fun o ho => ?_, p1⟩
 have := List.all_eq_true.1 p2 o ho
 simp only [ok1, Bool.and_eq_true] at this
 exact rh this.1
theorem rf {b : Bd} (h : al b = true) : b.objs.length ≤ 1000000 := by
 simp only [al, nZ, Bool.and_eq_true, Bool.not_eq_true', Bool.or_eq_false_iff, decide_eq_false_iff_not] at h
 have := h.2.2.2.2.1.1.1.2
 omega
theorem IF {b : Bd} {id : Int} (h : ∀ o ∈ b.objs, o.id ≠ id) : oh b id = -1 := by
 rcases rL (fun o : Ob => o.id == id) b.objs 0 (by omega) with ⟨e, _⟩ | ⟨k, o, e1, e2, _⟩
 ·exact e
 ·exact absurd (by simpa using e2) (h o (List.mem_of_getElem? e1))
theorem BJ {b : Bd} {id : Int} (h : ¬ oh b id < 0) : ∃ (k : Nat) (o : Ob), b.objs[k]? = some o ∧ o.id = id ∧ oh b id = k := by
 rcases rL (fun o : Ob => o.id == id) b.objs 0 (by omega) with ⟨e, _⟩ | ⟨k, o, e1, e2, e3⟩
 ·exact absurd (show oh b id < 0 by rw [oh, e]; omega) h
 ·exact ⟨k, o, e1, by simpa using e2, by rw [oh, e3]; omega⟩
def aU (b : Bd) (id : Int) : Int := if al b = true then (if oh b id < 0 then 9 else 0) else 2
def uk (b : Bd) (id : Int) : Int := if al b = true then (if oh b id < 0 then 0 else oh b id) else 0
theorem tI {H : Heap} {O : Own} {v : dr} {b : Bd} (h : BdR H O v b) {id : Int} (hid : i64 id) : RetO PP sJ [.agg (am v b).toArray, iV id] H O (.tuple #[iV (uk b id), iV (aU b id)]) := by
 refine wd (vs := am v b ++ [iV id]) (by kernel_rfl) (ar (an h) ⟨rfl, trivial⟩) ?_
 simp only [sk]
 refine ae fun r0 => aa (ai (cz h) rfl ⟨rfl, trivial⟩ fun H1 l1 => ab _ (aB _) (ak (fun hb => ah ⟨?_, rfl⟩) (fun hb => aa ?_)))
 ·have hf : al b = false := rG hb
  simp [uk, aU, hf]
 have ht : al b = true := sO hb
 obtain ⟨hv, ho⟩ := nw ht
 refine xx (yx (h.le l1).objs hid hv ho (rf ht)) ?_
 rintro _ H2 ⟨i, f, rfl, f1, f2⟩ l2
 refine ⟨[iV i, .bool f], rfl, ⟨rfl, rfl, trivial⟩, ab _ (aB _) (ak (fun hb => ah ⟨?_, rfl⟩) (fun hb => ah ⟨?_, rfl⟩))⟩
 ·have hf : f = false := rG hb
  have := IF (f2 hf)
  simp [uk, aU, ht, this]
 ·have hf : f = true := sO hb
  obtain ⟨o, e1, rfl⟩ := f1 hf
  have := IG (nW ho).2 e1
  have hn : ¬ ((i : Int) < 0) := by omega
  simp only [uk, aU, ht, this, hn, if_true, if_false]
  rfl
def zO : Ob := ⟨0, 0, 0, 0, 0, 0, 0, 0, 0, false, false, false⟩
def zIt : It := ⟨0, 0, 0, 0, []⟩
theorem lI {b : Bd} {id : Int} (h : (aU b id != 0) = false) : al b = true ∧ ∃ (k : Nat) (o : Ob), b.objs[k]? = some o ∧ o.id = id ∧ oh b id = k ∧ uk b id = k := by
 unfold aU at h
 by_cases hv : al b = true
 ·rw [if_pos hv] at h
  by_cases hi : oh b id < 0
  ·rw [if_pos hi] at h; simp at h
  ·obtain ⟨k, o, e1, e2, e3⟩ := BJ hi
   exact ⟨hv, k, o, e1, e2, e3, by rw [uk, if_pos hv, if_neg hi, e3]⟩
 ·rw [if_neg hv] at h; simp at h
def eR (b : Bd) (id : Int) : Ob := if aU b id != 0 then zO else b.objs.getD (oh b id).toNat zO
theorem mD {b : Bd} {id : Int} (h : (aU b id != 0) = false) {k : Nat} {o : Ob} (e : b.objs[k]? = some o) (hi : oh b id = k) : eR b id = o := by
 simp [eR, h, hi, e]
theorem LQ {H : Heap} {O : Own} {v : dr} {b : Bd} (h : BdR H O v b) {id : Int} (hid : i64 id) : RetO PP uS [.agg (am v b).toArray, iV id] H O (.tuple #[.agg (eR b id).row.toArray, iV (aU b id)]) := by
 refine yp (vs := am v b ++ [iV id]) (by kernel_rfl) (ar (an h) ⟨rfl, trivial⟩) ?_
 simp only [uJ]
 refine ae fun r0 => ae fun r1 => aa (ai (tI h hid) rfl ⟨rfl, rfl, trivial⟩ fun H1 l1 => ab _ (aV _ _) (ak (fun hb => ?_) (fun hb => ?_)))
 ·refine aa (aa ?_)
  refine ah ⟨?_, rfl⟩
  have e : eR b id = zO := by rw [eR, if_pos hb]
  rw [e]; rfl
 ·obtain ⟨_, k, o, e1, e2, e3, e4⟩ := lI hb
  obtain ⟨a, h1, h2, _, h3, h4⟩ := ((h.le l1).objs).idx .i64 k (Ob.row o) (by rw [List.getElem?_map, e1]; rfl)
  rw [e4]
  refine aa ?_
  refine ab _ h1 (ax h2 h3 h4 ?_)
  refine aa (aa ?_)
  refine ah ⟨?_, rfl⟩
  have hz : aU b id = 0 := by simpa using hb
  rw [mD hb e1 e3, hz]; rfl
theorem OwnB.store_ob {t : Tys} {w : dr} {b : Bd} {O X O' : Own} (h : OwnB t w b O) (hO : O'.Perm (O ++ X)) {k : Nat} {o : Ob} (hk : b.objs[k]? = some o) (o' : Ob) :
  ∃ a, aj (.idx 12) [w.o, iV k] = some (.pointer (some a)) ∧ ∃ O1, sy O' (.pointer (some a)) o'.row O1 ∧ ∃ O2, O1.Perm (O2 ++ X) ∧ OwnB t w (du b k o') O2 := by
 obtain ⟨Oo, A0, B0, C0, D0, A1, B1, C1, D1, Os, Oq, Oa, Obk, hp, h⟩ := h
 have hp' : O'.Perm (Oo ++ ((A0 ++ (B0 ++ (C0 ++ (D0 ++ (A1 ++ (B1 ++ (C1 ++ (D1 ++ (Os ++ (Oq ++ (Oa ++ Obk))))))))))) ++ X)) := by
  refine hO.trans ((hp.append_right X).trans (List.Perm.of_eq ?_))
  simp only [List.append_assoc]
 obtain ⟨a, k1, k2⟩ := h.objs.store hp' (k := .i64) (i := k) (row := o.row) (by rw [List.getElem?_map, hk]; rfl)
 obtain ⟨O1', s1, s2⟩ := k2 0 o'.row (by simp [Ob.row]) (bj o')
 rw [N3] at s1
 refine ⟨a, k1, _, s1, O1' ++ (A0 ++ (B0 ++ (C0 ++ (D0 ++ (A1 ++ (B1 ++ (C1 ++ (D1 ++ (Os ++ (Oq ++ (Oa ++ Obk))))))))))), List.Perm.of_eq (by simp only [List.append_assoc]), O1', A0, B0, C0, D0, A1, B1, C1, D1, Os, Oq, Oa, Obk, List.Perm.refl _, ?_⟩
 have e : (b.objs.map Ob.row).set k (dc o.row 0 o'.row) = (du b k o').objs.map Ob.row := by
  have : dc o.row 0 o'.row = o'.row := by simp [dc, Ob.row]
  rw [this, du, List.map_set]
 rw [e] at s2
 exact ⟨s2, h.l0, h.h0, h.f0, h.g0, h.l1, h.h1, h.f1, h.g1, h.stack, h.queue, h.att, h.blocks⟩
theorem OwnB.perm {t : Tys} {w : dr} {b : Bd} {O O' : Own} (h : OwnB t w b O) (hp : O'.Perm O) : OwnB t w b O' :=
 let ⟨Oo, A0, B0, C0, D0, A1, B1, C1, D1, Os, Oq, Oa, Obk, hq, h⟩ := h
 ⟨Oo, A0, B0, C0, D0, A1, B1, C1, D1, Os, Oq, Oa, Obk, hp.trans hq, h⟩
theorem OwnB.zero (t : Tys) : OwnB t sP zBd [] :=
 ⟨[], [], [], [], [], [], [], [], [], [], [], [], [], List.Perm.refl _, OSl.nil _ _, OSl.nil _ _, OSl.nil _ _, OSl.nil _ _, OSl.nil _ _, OSl.nil _ _, OSl.nil _ _, OSl.nil _ _, OSl.nil _ _,
  ⟨[], [], [], List.Perm.refl _, OSl.nil _ _, rfl, rfl, fun i r x T h => by simp at h⟩, ⟨[], [], [], List.Perm.refl _, OSl.nil _ _, rfl, rfl, fun i r x T h => by simp at h⟩, OSl.nil _ _, OSl.nil _ _⟩
def ye (b : Bd) (o : Ob) : Bd × Int :=
 if aP o then (if aU b o.id != 0 then (zBd, aU b o.id) else if ((eR b o.id).card != o.card || (eR b o.id).owner != o.owner) = true then (zBd, 8) else (du b (oh b o.id).toNat o, 0)) else (zBd, 2)
theorem Qe {H : Heap} {v : dr} {b : Bd} (h : BdS H v b) (hB : bdB b) {o : Ob} (hid : i64 o.id) : Triple PP yd [.agg (am v b).toArray, .agg o.row.toArray] H [] fun r _ O' => ∃ w, r = .tuple #[.agg (am w (ye b o).1).toArray, iV (ye b o).2] ∧ OwnB tys w (ye b o).1 O' := by
 refine zz (vs := am v b ++ o.row) (by kernel_rfl) (ar (an (h.r [])) (bj o)) ?_
 simp only [xX]
 refine ae fun r0 => ae fun r1 => ae fun r2 => ?_
 refine aa ?_
 refine ai (qa o H []) rfl ⟨rfl, trivial⟩ fun H1 l1 => ab _ (aB _) (ak (fun hb => ?_) (fun hb => ?_))
 ·refine aa (aa ?_)
  refine ah ⟨sP, ?_, ?_⟩
  ·have e : ye b o = (zBd, 2) := by simp [ye, rG hb]
   rw [e]; rfl
  ·have e : ye b o = (zBd, 2) := by simp [ye, rG hb]
   rw [e]; exact OwnB.zero tys
 have hv := sO hb
 replace h := h.le l1
 refine aa (aa ?_)
 refine ai (tI (h.r []) hid) rfl ⟨rfl, rfl, trivial⟩ fun H2 l2 => ab _ (aV _ _) (ak (fun hb => ?_) (fun hb => ?_))
 ·refine aa (aa ?_)
  have e : ye b o = (zBd, aU b o.id) := by simp only [ye, hv, if_true]; rw [if_pos hb]
  refine ah ⟨sP, ?_, ?_⟩
  ·rw [e]; rfl
  ·rw [e]; exact OwnB.zero tys
 replace h := h.le l2
 obtain ⟨_, k, x, e1, e2, e3, e4⟩ := lI hb
 obtain ⟨a, h1, h2, _, h3, h4⟩ := (h.r []).objs.idx .i64 k (Ob.row x) (by rw [List.getElem?_map, e1]; rfl)
 have hfo := mD hb e1 e3
 rw [e4]
 refine aa ?_
 refine ab _ h1 (ax h2 h3 h4 (ae fun r3 => ?_))
 refine aa (aa (aa (ab _ (aV _ _) (aa (af (aa (af (af (af (ab _ (aV _ _) (af (ab _ (aM _ _) ?_))))))))))))
 refine ak (fun hc => ?_) (fun hc => ?_)
 ·refine aa (aa ?_)
  have e : ye b o = (zBd, 8) := by simp only [ye, hv, if_true]; rw [if_neg (by rw [hb]; simp), hfo, if_pos hc]
  refine ah ⟨sP, ?_, ?_⟩
  ·rw [e]; rfl
  ·rw [e]; exact OwnB.zero tys
 have e : ye b o = (du b k o, 0) := by simp only [ye, hv, if_true]; rw [if_neg (by rw [hb]; simp), hfo, if_neg (by rw [show (x.card != o.card || x.owner != o.owner) = false from hc]; simp), e3]; rfl
 rw [e]
 refine aa ?_
 refine ao (CH h hB) ?_
 rintro _ H3 O3 ⟨w, rfl, ho⟩ l3
 refine ⟨am w b, rfl, aT H3 ho, ?_⟩
 refine aa (aa (aa ?_))
 obtain ⟨a', q1, O1, q2, O2, q3, q4⟩ := OwnB.store_ob ho (X := []) (O' := O3 ++ []) (by simp) e1 o
 refine ab _ q1 (aH rfl ⟨_, q2, ?_⟩)
 refine aa (aa (aa ?_))
 exact ah ⟨w, rfl, OwnB.perm q4 (by simpa using q3)⟩
def nh (id : Int) : List (Int × Int × List Int) → Option (Int × Int × Int)
 | [] => none
 | x :: r => if 0 ≤ mr x.2.2 id 0 then some (x.1, x.2.1, mr x.2.2 id 0) else nh id r
def km (b : Bd) : List (Int × Int × List Int) := [(0, 0, b.s0.lib), (0, 1, b.s0.hand), (0, 2, b.s0.field), (0, 3, b.s0.grave), (1, 0, b.s1.lib), (1, 1, b.s1.hand), (1, 2, b.s1.field), (1, 3, b.s1.grave)]
def qG (q : It → Bool) (b : Bd) (id : Int) : Option (Int × Int × Int) :=
 match nh id (km b) with
 | some s => some s
 | none => if 0 ≤ gw q b.stack 0 then some ((b.stack.getD (gw q b.stack 0).toNat zIt).player, 4, gw q b.stack 0) else none
abbrev Hn (s : Int × Int × Int) : List Value := [iV s.1, iV s.2.1, iV s.2.2]
def JP (s : Option (Int × Int × Int)) : Int × Int × Int := s.getD (0, 0, 0)
theorem BL : ∀ {l : List Int} {id i : Int}, 0 ≤ i → ¬ (0 ≤ mr l id i) → id ∉ l
 | [], _, _, _, _ => by simp
 | a :: l, id, i, h, hn => by
  simp only [mr] at hn
  by_cases he : id = a
  ·subst he; simp at hn; omega
  ·have hb : (id == a) = false := by simpa using he
   rw [if_neg (by rw [hb]; simp)] at hn
   simp only [List.mem_cons, not_or]
   exact ⟨he, BL (by omega) hn⟩
theorem yD {id : Int} : ∀ {l : List (Int × Int × List Int)}, nh id l = none → ∀ x ∈ l, id ∉ x.2.2
 | [], _, _, h => by simp at h
 | a :: l, h, x, hx => by
  simp only [nh] at h
  split at h
  ·cases h
  ·rename_i hn
   rcases List.mem_cons.1 hx with rfl | hx
   ·exact BL (by omega) hn
   ·exact yD h x hx
theorem yC {b : Bd} (h : al b = true) {k : Nat} {o : Ob} (hk : b.objs[k]? = some o) : ∃ s, qG (iQ o.id) b o.id = some s := by
 obtain ⟨_, hm, _, _⟩ := dN (aJ h).1 hk
 unfold qG
 cases e : nh o.id (km b) with
 | some s => exact ⟨s, rfl⟩
 | none =>
  have hn := yD e
  simp only [km, List.mem_cons, List.not_mem_nil, or_false, forall_eq_or_imp, forall_eq] at hn
  obtain ⟨n1, n2, n3, n4, n5, n6, n7, n8⟩ := hn
  simp only [aI, cj, List.map_append, List.mem_append, List.mem_map, Prod.mk.injEq] at hm
  have : ∃ x ∈ bD b.stack, x.id = o.id := by
   rcases hm with (⟨a, ha, rfl, _⟩ | ⟨a, ha, rfl, _⟩ | ⟨a, ha, rfl, _⟩ | ⟨a, ha, rfl, _⟩) | (⟨a, ha, rfl, _⟩ | ⟨a, ha, rfl, _⟩ | ⟨a, ha, rfl, _⟩ | ⟨a, ha, rfl, _⟩) | hm
   ·exact absurd ha n1
   ·exact absurd ha n2
   ·exact absurd ha n3
   ·exact absurd ha n4
   ·exact absurd ha n5
   ·exact absurd ha n6
   ·exact absurd ha n7
   ·exact absurd ha n8
   ·simp only [ej, List.mem_map, Prod.mk.injEq] at hm
    obtain ⟨x, hx, e, _⟩ := hm
    exact ⟨x, hx, e⟩
  obtain ⟨x, hx, e⟩ := this
  simp only [bD, List.mem_filter] at hx
  have h0 : 0 ≤ gw (iQ o.id) b.stack 0 := by
   have := xd (iQ o.id) b.stack 0 (by omega)
   have hany : b.stack.any (iQ o.id) = true := List.any_eq_true.2 ⟨x, hx.1, by simp only [iQ, hx.2, e, beq_self_eq_true, Bool.and_self]⟩
   rw [hany] at this
   exact of_decide_eq_true this
  exact ⟨_, by rw [if_pos h0]⟩
theorem Jj {H : Heap} {O : Own} {row : List Value} {x : It} (h : ItR H O row x) {r : Nat} {T : TypeId} {id : Int} (hb : (r, Obj.cells [iV id].toArray T (0, 0)) ∈ O) :
  RetO PP oW ([.agg row.toArray] ++ (#[.pointer (some ⟨r, 0, none⟩)] : Array Value).toList) H O (.bool (iQ id x)) := by
 obtain ⟨s, rfl, hs⟩ := h
 refine tc (vs := [iV x.player, iV x.id, iV x.card, iV x.trig, s, .pointer (some ⟨r, 0, none⟩)]) (by kernel_rfl) ⟨rfl, rfl, rfl, rfl, hs.one, rfl, trivial⟩ ?_
 simp only [oI]
 refine ae fun r0 => aa (ab _ (aN _ _) ?_)
 refine aa (af ?_)
 refine ⟨[iV id], rfl, ⟨rfl, trivial⟩, fun _ => .inr ⟨⟨r, 0, none⟩, [iV id].toArray, T, rfl, rfl, hb, rfl, rfl⟩, ?_⟩
 refine af (af (ab _ (aA _ _) (af (ab _ (bA _ _) ?_))))
 exact ah ⟨rfl, rfl⟩
def pP (b : Bd) (id : Int) : Int × Int × Int := if aU b id != 0 then (0, 0, 0) else JP (qG (iQ id) b id)
theorem Ai {H : Heap} {v : dr} {b : Bd} (h : BdS H v b) {id : Int} (hid : i64 id) (O : Own) : RetO PP sL [.agg (am v b).toArray, iV id] H O (.tuple #[.agg (Hn (pP b id)).toArray, iV (aU b id)]) := by
 refine wh (vs := am v b ++ [iV id]) (by kernel_rfl) (ar (an (h.r [])) ⟨rfl, trivial⟩) ?_
 simp only [so]
 refine ae fun r0 => ae fun r1 => ae fun r2 => ?_
 refine aa (aa ?_)
 refine ai (tI (h.r O) hid) rfl ⟨rfl, rfl, trivial⟩ fun H1 l1 => ab _ (aV _ _) (ak (fun hb => ?_) (fun hb => ?_))
 ·refine aa (aa ?_)
  refine ah ⟨?_, rfl⟩
  have e : pP b id = (0, 0, 0) := by rw [pP, if_pos hb]
  rw [e]; rfl
 replace h := h.le l1
 have ew : pP b id = JP (qG (iQ id) b id) := by rw [pP, if_neg (by rw [hb]; simp)]
 have ez : aU b id = 0 := by simpa using hb
 obtain ⟨hval, k0, o0, e1, e2, _, _⟩ := lI hb
 rw [ew, ez]
 clear hb
 refine ai (kY r0 1 _ _) rfl ⟨rfl, rfl, rfl, rfl, trivial⟩ fun L0 m0 => ?_
 replace h := h.le m0
 repeat (first | refine aa ?_ | refine af ?_)
 refine ai (eB (h.s0.lib.rsl O) id) rfl ⟨rfl, trivial⟩ fun K0 j0 => ab _ (eK _ _) (ak (fun hb => ?_) (fun n0 => ?_))
 ·refine aa (aa ?_)
  refine ah ⟨?_, rfl⟩
  have e := of_decide_eq_true hb
  have e : 0 ≤ mr b.s0.lib id 0 := e
  rw [qG, km]
  simp only [nh, e, if_true, if_false]
  rfl
 have n0 : ¬ (0 ≤ mr b.s0.lib id 0) := of_decide_eq_false n0
 replace h := h.le j0
 refine aa (aa ?_)
 refine ai (eB (h.s0.hand.rsl O) id) rfl ⟨rfl, trivial⟩ fun K1 j1 => ab _ (eK _ _) (ak (fun hb => ?_) (fun n1 => ?_))
 ·refine aa (aa ?_)
  refine ah ⟨?_, rfl⟩
  have e := of_decide_eq_true hb
  have e : 0 ≤ mr b.s0.hand id 0 := e
  rw [qG, km]
  simp only [nh, n0, e, if_true, if_false]
  rfl
 have n1 : ¬ (0 ≤ mr b.s0.hand id 0) := of_decide_eq_false n1
 replace h := h.le j1
 refine aa (aa ?_)
 refine ai (eB (h.s0.field.rsl O) id) rfl ⟨rfl, trivial⟩ fun K2 j2 => ab _ (eK _ _) (ak (fun hb => ?_) (fun n2 => ?_))
 ·refine aa (aa ?_)
  refine ah ⟨?_, rfl⟩
  have e := of_decide_eq_true hb
  have e : 0 ≤ mr b.s0.field id 0 := e
  rw [qG, km]
  simp only [nh, n0, n1, e, if_true, if_false]
  rfl
 have n2 : ¬ (0 ≤ mr b.s0.field id 0) := of_decide_eq_false n2
 replace h := h.le j2
 refine aa (aa ?_)
 refine ai (eB (h.s0.grave.rsl O) id) rfl ⟨rfl, trivial⟩ fun K3 j3 => ab _ (eK _ _) (ak (fun hb => ?_) (fun n3 => ?_))
 ·refine aa (aa ?_)
  refine ah ⟨?_, rfl⟩
  have e := of_decide_eq_true hb
  have e : 0 ≤ mr b.s0.grave id 0 := e
  rw [qG, km]
  simp only [nh, n0, n1, n2, e, if_true, if_false]
  rfl
 have n3 : ¬ (0 ≤ mr b.s0.grave id 0) := of_decide_eq_false n3
 replace h := h.le j3
 refine ai (kY r0 15 _ _) rfl ⟨rfl, rfl, rfl, rfl, trivial⟩ fun L1 m1 => ?_
 replace h := h.le m1
 repeat (first | refine aa ?_ | refine af ?_)
 refine ai (eB (h.s1.lib.rsl O) id) rfl ⟨rfl, trivial⟩ fun K4 j4 => ab _ (eK _ _) (ak (fun hb => ?_) (fun n4 => ?_))
 ·refine aa (aa ?_)
  refine ah ⟨?_, rfl⟩
  have e := of_decide_eq_true hb
  have e : 0 ≤ mr b.s1.lib id 0 := e
  rw [qG, km]
  simp only [nh, n0, n1, n2, n3, e, if_true, if_false]
  rfl
 have n4 : ¬ (0 ≤ mr b.s1.lib id 0) := of_decide_eq_false n4
 replace h := h.le j4
 refine aa (aa ?_)
 refine ai (eB (h.s1.hand.rsl O) id) rfl ⟨rfl, trivial⟩ fun K5 j5 => ab _ (eK _ _) (ak (fun hb => ?_) (fun n5 => ?_))
 ·refine aa (aa ?_)
  refine ah ⟨?_, rfl⟩
  have e := of_decide_eq_true hb
  have e : 0 ≤ mr b.s1.hand id 0 := e
  rw [qG, km]
  simp only [nh, n0, n1, n2, n3, n4, e, if_true, if_false]
  rfl
 have n5 : ¬ (0 ≤ mr b.s1.hand id 0) := of_decide_eq_false n5
 replace h := h.le j5
 refine aa (aa ?_)
 refine ai (eB (h.s1.field.rsl O) id) rfl ⟨rfl, trivial⟩ fun K6 j6 => ab _ (eK _ _) (ak (fun hb => ?_) (fun n6 => ?_))
 ·refine aa (aa ?_)
  refine ah ⟨?_, rfl⟩
  have e := of_decide_eq_true hb
  have e : 0 ≤ mr b.s1.field id 0 := e
  rw [qG, km]
  simp only [nh, n0, n1, n2, n3, n4, n5, e, if_true, if_false]
  rfl
 have n6 : ¬ (0 ≤ mr b.s1.field id 0) := of_decide_eq_false n6
 replace h := h.le j6
 refine aa (aa ?_)
 refine ai (eB (h.s1.grave.rsl O) id) rfl ⟨rfl, trivial⟩ fun K7 j7 => ab _ (eK _ _) (ak (fun hb => ?_) (fun n7 => ?_))
 ·refine aa (aa ?_)
  refine ah ⟨?_, rfl⟩
  have e := of_decide_eq_true hb
  have e : 0 ≤ mr b.s1.grave id 0 := e
  rw [qG, km]
  simp only [nh, n0, n1, n2, n3, n4, n5, n6, e, if_true, if_false]
  rfl
 have n7 : ¬ (0 ≤ mr b.s1.grave id 0) := of_decide_eq_false n7
 replace h := h.le j7
 refine aa ?_
 have hL : nh id (km b) = none := by
  rw [km]
  simp only [nh, n0, n1, n2, n3, n4, n5, n6, n7, if_false]
 have hG : qG (iQ id) b id = if 0 ≤ gw (iQ id) b.stack 0 then some ((b.stack.getD (gw (iQ id) b.stack 0).toNat zIt).player, 4, gw (iQ id) b.stack 0) else none := by
  rw [qG, hL]
 obtain ⟨s, hs⟩ := yC hval e1
 rw [e2] at hs
 have h0 : 0 ≤ gw (iQ id) b.stack 0 := by
  rw [hG] at hs
  split at hs
  ·assumption
  ·cases hs
 rw [if_pos h0] at hG
 rw [hG]
 rcases rL (iQ id) b.stack 0 (by omega) with ⟨e, _⟩ | ⟨k, x, e3, e4, e5⟩
 ·omega
 have e5 : gw (iQ id) b.stack 0 = (k : Int) := by omega
 refine KO (own := [⟨r1, 3, [iV id]⟩]) (mQ (p := iQ id) (h.stack.r _) rfl (gm iP (by decide)) fun H' _ row x hx => Jj hx (r := r1) (T := 3) (by simp [BV.obj])) rfl ⟨rfl, trivial⟩ ⟨rfl, ⟨rfl, trivial⟩, trivial⟩ fun H9 l9 => ?_
 replace h := h.le l9
 refine aa ?_
 obtain ⟨rows, hr, hrl, hit⟩ := (h.stack.r O)
 have hklt : k < b.stack.length := (List.getElem?_eq_some_iff.1 e3).1
 have hrk : rows[k]? = some rows[k] := List.getElem?_eq_getElem (by omega)
 obtain ⟨sv, hrow, _⟩ := hit k rows[k] x hrk e3
 obtain ⟨a, h1, _, h3, _⟩ := hr.idx .i64 k rows[k] hrk
 have hr0 := h3 0 1 (by omega)
 rw [hrow, N3] at hr0
 rw [e5]
 refine ab _ h1 (aH rfl (ax hr0 rfl ⟨rfl, trivial⟩ ?_))
 refine aa (aa ?_)
 refine ah ⟨?_, rfl⟩
 simp only [JP, Option.getD_some, Int.toNat_natCast, List.getD_eq_getElem?_getD, e3]
 rfl
def onR (id : Int) (x : It) : Bool := (x.trig == -1) && x.id == id
theorem io {α : Type} (p : α → Bool) : ∀ (l : List α) (i : Int), 0 ≤ i → (gw p l i = -1 ∧ ∀ x ∈ l, p x = false) ∨ ∃ (k : Nat) (x : α), l[k]? = some x ∧ p x = true ∧ (∀ y ∈ l.take k, p y = false) ∧ gw p l i = i + k
 | [], i, _ => .inl ⟨rfl, by simp⟩
 | a :: l, i, h => by
  simp only [gw]
  by_cases hp : p a = true
  ·right; exact ⟨0, a, rfl, hp, by simp, by rw [if_pos hp]; simp⟩
  ·rw [if_neg hp]
   have hp : p a = false := by simpa using hp
   rcases io p l (i + 1) (by omega) with ⟨h1, h2⟩ | ⟨k, x, h1, h2, h3, h4⟩
   ·left
    refine ⟨h1, fun x hx => ?_⟩
    rcases List.mem_cons.1 hx with rfl | hx
    ·exact hp
    ·exact h2 x hx
   ·right
    refine ⟨k + 1, x, by simpa using h1, h2, fun y hy => ?_, by rw [h4]; omega⟩
    rw [List.take_succ_cons] at hy
    rcases List.mem_cons.1 hy with rfl | hy
    ·exact hp
    ·exact h3 y hy
theorem ip {α : Type} {p : α → Bool} {l : List α} (h : ∀ x ∈ l, p x = false) : (l.filter fun x => !p x) = l := by
 rw [List.filter_eq_self]
 intro x hx
 rw [h x hx]; rfl
theorem OwnB.pick_l0 {t : Tys} {w : dr} {b : Bd} {O : Own} (h : OwnB t w b O) : ∃ A R, O.Perm (A ++ R) ∧ OSl t.int 1 w.l0 (aF b.s0.lib) A ∧ ∀ v' l' A', OSl t.int 1 v' (aF l') A' → OwnB t { w with l0 := v' } { b with s0 := { b.s0 with lib := l' } } (A' ++ R) := by
 obtain ⟨Oo, A0, B0, C0, D0, A1, B1, C1, D1, Os, Oq, Oa, Obk, hp, h⟩ := h
 refine ⟨A0, Oo ++ (B0 ++ (C0 ++ (D0 ++ (A1 ++ (B1 ++ (C1 ++ (D1 ++ (Os ++ (Oq ++ (Oa ++ (Obk))))))))))), hp.trans (aO fun a _ _ => by simp only [List.count_append] <;> omega), h.l0, fun v' l' A' h' => ⟨Oo, A', B0, C0, D0, A1, B1, C1, D1, Os, Oq, Oa, Obk, aO fun a _ _ => by simp only [List.count_append] <;> omega, ⟨h.objs, h', h.h0, h.f0, h.g0, h.l1, h.h1, h.f1, h.g1, h.stack, h.queue, h.att, h.blocks⟩⟩⟩
theorem OwnB.pick_h0 {t : Tys} {w : dr} {b : Bd} {O : Own} (h : OwnB t w b O) : ∃ A R, O.Perm (A ++ R) ∧ OSl t.int 1 w.h0 (aF b.s0.hand) A ∧ ∀ v' l' A', OSl t.int 1 v' (aF l') A' → OwnB t { w with h0 := v' } { b with s0 := { b.s0 with hand := l' } } (A' ++ R) := by
 obtain ⟨Oo, A0, B0, C0, D0, A1, B1, C1, D1, Os, Oq, Oa, Obk, hp, h⟩ := h
 refine ⟨B0, Oo ++ (A0 ++ (C0 ++ (D0 ++ (A1 ++ (B1 ++ (C1 ++ (D1 ++ (Os ++ (Oq ++ (Oa ++ (Obk))))))))))), hp.trans (aO fun a _ _ => by simp only [List.count_append] <;> omega), h.h0, fun v' l' A' h' => ⟨Oo, A0, A', C0, D0, A1, B1, C1, D1, Os, Oq, Oa, Obk, aO fun a _ _ => by simp only [List.count_append] <;> omega, ⟨h.objs, h.l0, h', h.f0, h.g0, h.l1, h.h1, h.f1, h.g1, h.stack, h.queue, h.att, h.blocks⟩⟩⟩
theorem OwnB.pick_f0 {t : Tys} {w : dr} {b : Bd} {O : Own} (h : OwnB t w b O) : ∃ A R, O.Perm (A ++ R) ∧ OSl t.int 1 w.f0 (aF b.s0.field) A ∧ ∀ v' l' A', OSl t.int 1 v' (aF l') A' → OwnB t { w with f0 := v' } { b with s0 := { b.s0 with field := l' } } (A' ++ R) := by
 obtain ⟨Oo, A0, B0, C0, D0, A1, B1, C1, D1, Os, Oq, Oa, Obk, hp, h⟩ := h
 refine ⟨C0, Oo ++ (A0 ++ (B0 ++ (D0 ++ (A1 ++ (B1 ++ (C1 ++ (D1 ++ (Os ++ (Oq ++ (Oa ++ (Obk))))))))))), hp.trans (aO fun a _ _ => by simp only [List.count_append] <;> omega), h.f0, fun v' l' A' h' => ⟨Oo, A0, B0, A', D0, A1, B1, C1, D1, Os, Oq, Oa, Obk, aO fun a _ _ => by simp only [List.count_append] <;> omega, ⟨h.objs, h.l0, h.h0, h', h.g0, h.l1, h.h1, h.f1, h.g1, h.stack, h.queue, h.att, h.blocks⟩⟩⟩
theorem OwnB.pick_g0 {t : Tys} {w : dr} {b : Bd} {O : Own} (h : OwnB t w b O) : ∃ A R, O.Perm (A ++ R) ∧ OSl t.int 1 w.g0 (aF b.s0.grave) A ∧ ∀ v' l' A', OSl t.int 1 v' (aF l') A' → OwnB t { w with g0 := v' } { b with s0 := { b.s0 with grave := l' } } (A' ++ R) := by
 obtain ⟨Oo, A0, B0, C0, D0, A1, B1, C1, D1, Os, Oq, Oa, Obk, hp, h⟩ := h
 refine ⟨D0, Oo ++ (A0 ++ (B0 ++ (C0 ++ (A1 ++ (B1 ++ (C1 ++ (D1 ++ (Os ++ (Oq ++ (Oa ++ (Obk))))))))))), hp.trans (aO fun a _ _ => by simp only [List.count_append] <;> omega), h.g0, fun v' l' A' h' => ⟨Oo, A0, B0, C0, A', A1, B1, C1, D1, Os, Oq, Oa, Obk, aO fun a _ _ => by simp only [List.count_append] <;> omega, ⟨h.objs, h.l0, h.h0, h.f0, h', h.l1, h.h1, h.f1, h.g1, h.stack, h.queue, h.att, h.blocks⟩⟩⟩
theorem OwnB.pick_l1 {t : Tys} {w : dr} {b : Bd} {O : Own} (h : OwnB t w b O) : ∃ A R, O.Perm (A ++ R) ∧ OSl t.int 1 w.l1 (aF b.s1.lib) A ∧ ∀ v' l' A', OSl t.int 1 v' (aF l') A' → OwnB t { w with l1 := v' } { b with s1 := { b.s1 with lib := l' } } (A' ++ R) := by
 obtain ⟨Oo, A0, B0, C0, D0, A1, B1, C1, D1, Os, Oq, Oa, Obk, hp, h⟩ := h
 refine ⟨A1, Oo ++ (A0 ++ (B0 ++ (C0 ++ (D0 ++ (B1 ++ (C1 ++ (D1 ++ (Os ++ (Oq ++ (Oa ++ (Obk))))))))))), hp.trans (aO fun a _ _ => by simp only [List.count_append] <;> omega), h.l1, fun v' l' A' h' => ⟨Oo, A0, B0, C0, D0, A', B1, C1, D1, Os, Oq, Oa, Obk, aO fun a _ _ => by simp only [List.count_append] <;> omega, ⟨h.objs, h.l0, h.h0, h.f0, h.g0, h', h.h1, h.f1, h.g1, h.stack, h.queue, h.att, h.blocks⟩⟩⟩
theorem OwnB.pick_h1 {t : Tys} {w : dr} {b : Bd} {O : Own} (h : OwnB t w b O) : ∃ A R, O.Perm (A ++ R) ∧ OSl t.int 1 w.h1 (aF b.s1.hand) A ∧ ∀ v' l' A', OSl t.int 1 v' (aF l') A' → OwnB t { w with h1 := v' } { b with s1 := { b.s1 with hand := l' } } (A' ++ R) := by
 obtain ⟨Oo, A0, B0, C0, D0, A1, B1, C1, D1, Os, Oq, Oa, Obk, hp, h⟩ := h
 refine ⟨B1, Oo ++ (A0 ++ (B0 ++ (C0 ++ (D0 ++ (A1 ++ (C1 ++ (D1 ++ (Os ++ (Oq ++ (Oa ++ (Obk))))))))))), hp.trans (aO fun a _ _ => by simp only [List.count_append] <;> omega), h.h1, fun v' l' A' h' => ⟨Oo, A0, B0, C0, D0, A1, A', C1, D1, Os, Oq, Oa, Obk, aO fun a _ _ => by simp only [List.count_append] <;> omega, ⟨h.objs, h.l0, h.h0, h.f0, h.g0, h.l1, h', h.f1, h.g1, h.stack, h.queue, h.att, h.blocks⟩⟩⟩
theorem OwnB.pick_f1 {t : Tys} {w : dr} {b : Bd} {O : Own} (h : OwnB t w b O) : ∃ A R, O.Perm (A ++ R) ∧ OSl t.int 1 w.f1 (aF b.s1.field) A ∧ ∀ v' l' A', OSl t.int 1 v' (aF l') A' → OwnB t { w with f1 := v' } { b with s1 := { b.s1 with field := l' } } (A' ++ R) := by
 obtain ⟨Oo, A0, B0, C0, D0, A1, B1, C1, D1, Os, Oq, Oa, Obk, hp, h⟩ := h
 refine ⟨C1, Oo ++ (A0 ++ (B0 ++ (C0 ++ (D0 ++ (A1 ++ (B1 ++ (D1 ++ (Os ++ (Oq ++ (Oa ++ (Obk))))))))))), hp.trans (aO fun a _ _ => by simp only [List.count_append] <;> omega), h.f1, fun v' l' A' h' => ⟨Oo, A0, B0, C0, D0, A1, B1, A', D1, Os, Oq, Oa, Obk, aO fun a _ _ => by simp only [List.count_append] <;> omega, ⟨h.objs, h.l0, h.h0, h.f0, h.g0, h.l1, h.h1, h', h.g1, h.stack, h.queue, h.att, h.blocks⟩⟩⟩
theorem OwnB.pick_g1 {t : Tys} {w : dr} {b : Bd} {O : Own} (h : OwnB t w b O) : ∃ A R, O.Perm (A ++ R) ∧ OSl t.int 1 w.g1 (aF b.s1.grave) A ∧ ∀ v' l' A', OSl t.int 1 v' (aF l') A' → OwnB t { w with g1 := v' } { b with s1 := { b.s1 with grave := l' } } (A' ++ R) := by
 obtain ⟨Oo, A0, B0, C0, D0, A1, B1, C1, D1, Os, Oq, Oa, Obk, hp, h⟩ := h
 refine ⟨D1, Oo ++ (A0 ++ (B0 ++ (C0 ++ (D0 ++ (A1 ++ (B1 ++ (C1 ++ (Os ++ (Oq ++ (Oa ++ (Obk))))))))))), hp.trans (aO fun a _ _ => by simp only [List.count_append] <;> omega), h.g1, fun v' l' A' h' => ⟨Oo, A0, B0, C0, D0, A1, B1, C1, A', Os, Oq, Oa, Obk, aO fun a _ _ => by simp only [List.count_append] <;> omega, ⟨h.objs, h.l0, h.h0, h.f0, h.g0, h.l1, h.h1, h.f1, h', h.stack, h.queue, h.att, h.blocks⟩⟩⟩
theorem OwnB.pick_att {t : Tys} {w : dr} {b : Bd} {O : Own} (h : OwnB t w b O) : ∃ A R, O.Perm (A ++ R) ∧ OSl t.int 1 w.a (aF b.att) A ∧ ∀ v' l' A', OSl t.int 1 v' (aF l') A' → OwnB t { w with a := v' } { b with att := l' } (A' ++ R) := by
 obtain ⟨Oo, A0, B0, C0, D0, A1, B1, C1, D1, Os, Oq, Oa, Obk, hp, h⟩ := h
 refine ⟨Oa, Oo ++ (A0 ++ (B0 ++ (C0 ++ (D0 ++ (A1 ++ (B1 ++ (C1 ++ (D1 ++ (Os ++ (Oq ++ (Obk))))))))))), hp.trans (aO fun a _ _ => by simp only [List.count_append] <;> omega), h.att, fun v' l' A' h' => ⟨Oo, A0, B0, C0, D0, A1, B1, C1, D1, Os, Oq, A', Obk, aO fun a _ _ => by simp only [List.count_append] <;> omega, ⟨h.objs, h.l0, h.h0, h.f0, h.g0, h.l1, h.h1, h.f1, h.g1, h.stack, h.queue, h', h.blocks⟩⟩⟩
theorem OwnB.pick_objs {t : Tys} {w : dr} {b : Bd} {O : Own} (h : OwnB t w b O) : ∃ A R, O.Perm (A ++ R) ∧ OSl t.ob 12 w.o (b.objs.map Ob.row) A ∧ ∀ v' l' A', OSl t.ob 12 v' (List.map Ob.row l') A' → OwnB t { w with o := v' } { b with objs := l' } (A' ++ R) := by
 obtain ⟨Oo, A0, B0, C0, D0, A1, B1, C1, D1, Os, Oq, Oa, Obk, hp, h⟩ := h
 refine ⟨Oo, A0 ++ (B0 ++ (C0 ++ (D0 ++ (A1 ++ (B1 ++ (C1 ++ (D1 ++ (Os ++ (Oq ++ (Oa ++ (Obk))))))))))), hp.trans (aO fun a _ _ => by simp only [List.count_append] <;> omega), h.objs, fun v' l' A' h' => ⟨A', A0, B0, C0, D0, A1, B1, C1, D1, Os, Oq, Oa, Obk, aO fun a _ _ => by simp only [List.count_append] <;> omega, ⟨h', h.l0, h.h0, h.f0, h.g0, h.l1, h.h1, h.f1, h.g1, h.stack, h.queue, h.att, h.blocks⟩⟩⟩
theorem OwnB.pick_blocks {t : Tys} {w : dr} {b : Bd} {O : Own} (h : OwnB t w b O) : ∃ A R, O.Perm (A ++ R) ∧ OSl t.bl 2 w.b (b.blocks.map Bl.row) A ∧ ∀ v' l' A', OSl t.bl 2 v' (List.map Bl.row l') A' → OwnB t { w with b := v' } { b with blocks := l' } (A' ++ R) := by
 obtain ⟨Oo, A0, B0, C0, D0, A1, B1, C1, D1, Os, Oq, Oa, Obk, hp, h⟩ := h
 refine ⟨Obk, Oo ++ (A0 ++ (B0 ++ (C0 ++ (D0 ++ (A1 ++ (B1 ++ (C1 ++ (D1 ++ (Os ++ (Oq ++ (Oa))))))))))), hp.trans (aO fun a _ _ => by simp only [List.count_append] <;> omega), h.blocks, fun v' l' A' h' => ⟨Oo, A0, B0, C0, D0, A1, B1, C1, D1, Os, Oq, Oa, A', aO fun a _ _ => by simp only [List.count_append] <;> omega, ⟨h.objs, h.l0, h.h0, h.f0, h.g0, h.l1, h.h1, h.f1, h.g1, h.stack, h.queue, h.att, h'⟩⟩⟩
theorem OwnB.pick_stack {t : Tys} {w : dr} {b : Bd} {O : Own} (h : OwnB t w b O) : ∃ A R, O.Perm (A ++ R) ∧ OIts t.tg t.it w.s b.stack A ∧ ∀ v' l' A', OIts t.tg t.it v' l' A' → OwnB t { w with s := v' } { b with stack := l' } (A' ++ R) := by
 obtain ⟨Oo, A0, B0, C0, D0, A1, B1, C1, D1, Os, Oq, Oa, Obk, hp, h⟩ := h
 refine ⟨Os, Oo ++ (A0 ++ (B0 ++ (C0 ++ (D0 ++ (A1 ++ (B1 ++ (C1 ++ (D1 ++ (Oq ++ (Oa ++ (Obk))))))))))), hp.trans (aO fun a _ _ => by simp only [List.count_append] <;> omega), h.stack, fun v' l' A' h' => ⟨Oo, A0, B0, C0, D0, A1, B1, C1, D1, A', Oq, Oa, Obk, aO fun a _ _ => by simp only [List.count_append] <;> omega, ⟨h.objs, h.l0, h.h0, h.f0, h.g0, h.l1, h.h1, h.f1, h.g1, h', h.queue, h.att, h.blocks⟩⟩⟩
theorem Df {t e : TypeId} (h : (match PP.underlying t with | some (.slice x) => x == e | _ => false) = true) : PP.underlying t = some (.slice e) := by
 split at h
 ·rename_i x hx; rw [hx, beq_iff_eq.1 h]
 ·cases h
theorem MV {b : Bool} (h : (!b) = true) : b = false := by simpa using h
theorem MW {b : Bool} (h : (!b) = false) : b = true := by simpa using h
theorem vp {H : Heap} {O : Own} {v fv : Value} {rows : List (List Value)} {pr : List Value → Bool} (h : RSl H O 1 v rows) {f : FuncId} {caps : Array Value} (hf : fv = .func (.func f) #[] caps) (hok : pJ PP f)
  (hp : ∀ H', Heap.le H H' → ∀ row ∈ rows, RetO PP f ([g row 0] ++ caps.toList) H' O (.bool (pr row))) : RetO PP fQ [v, fv] H O (iV (gw pr rows 0)) := by
 subst hf
 refine jk (vs := [v, .func (.func f) #[] caps]) (by kernel_rfl) ⟨h.one, rfl, trivial⟩ ?_
 simp only [fP]
 have hB := h.lenB
 refine ab _ h.len ?_
 refine bh rows.length (fun i H' O' => O' = O ∧ Heap.le H H' ∧ gw pr rows 0 = gw pr (rows.drop i) i) ⟨rfl, Heap.le_refl H, by simp⟩ ?_
 rintro i H' O' hi - ⟨rfl, hle, hor⟩
 refine ab _ (aN _ _) (ak (fun hb => ?_) (fun hb => ?_))
 ·have hlt : i < rows.length := by simpa using hb
  obtain ⟨a, h1, h2, _, h3, h4⟩ := (h.le hle).idx .i64 i rows[i] (List.getElem?_eq_getElem hlt)
  refine ab _ h1 (ax h2 h3 h4 ?_)
  refine fA rfl hok (hp H' hle rows[i] (List.getElem_mem hlt)) rfl ⟨rfl, trivial⟩ fun H2 hle2 => ak (fun hb => ?_) (fun hb => ?_)
  ·refine ah ⟨?_, rfl⟩
   have hb : pr rows[i] = true := hb
   rw [hor, List.drop_eq_getElem_cons hlt, gw, if_pos hb]; rfl
  ·have hb : pr rows[i] = false := hb
   refine ab _ (aD (by omega)) (aS (by simp [Eqs]) hlt ⟨rfl, Heap.le_trans hle hle2, ?_⟩)
   rw [hor, List.drop_eq_getElem_cons hlt, gw, if_neg (by rw [hb]; simp)]; rfl
 ·have hge : rows.length ≤ i := by simpa using hb
  refine ah ⟨?_, rfl⟩
  rw [hor, List.drop_of_length_le hge]; rfl
theorem JD : ∀ w, (zeroValue aG).run PP w = .ok (iV 0) w := by
 intro w
 have : (PP.info? aG).bind (·.zero) = some (iV 0) := by kernel_rfl
 simp only [Option.bind_eq_some_iff] at this
 obtain ⟨i, hi, hz⟩ := this
 simp [zeroValue, typeInfo, hi, hz]
theorem tK {H : Heap} {B A : Own} {v fv : Value} {rows : List (List Value)} {pr : List Value → Bool} (h : OSl aG 1 v rows A) {f : FuncId} {caps : Array Value} (hf : fv = .func (.func f) #[] caps) (hok : pJ PP f)
  (hp : ∀ H', Heap.le H H' → ∀ row ∈ rows, RetO PP f ([g row 0] ++ caps.toList) H' B (.bool (pr row))) :
  Triple PP dC [v, fv] H (B ++ A) fun v' _ O' => ∃ A', O' = B ++ A' ∧ OSl aG 1 v' (rows.filter fun r => !pr r) A' := by
 subst hf
 have hR := h.rsl (O := B ++ A) (fun p hp => List.mem_append_right _ hp) H
 have hB := h.lenB
 refine iJ (vs := [v, .func (.func f) #[] caps]) (by kernel_rfl) ⟨h.one, rfl, trivial⟩ ?_
 simp only [fC]
 refine ai (vp hR rfl hok fun H' hl row hr => (hp H' hl row hr).frame A) rfl ⟨rfl, trivial⟩ fun H1 l1 => ab _ (aA _ _) (ak (fun hb => ?_) (fun hb => ?_))
 ·have e : gw pr rows 0 = -1 := by simpa using hb
  rcases io pr rows 0 (by omega) with ⟨_, hn⟩ | ⟨k, x, _, _, _, e2⟩
  ·exact ah ⟨A, rfl, by rw [ip hn]; exact h⟩
  ·omega
 rcases io pr rows 0 (by omega) with ⟨e, _⟩ | ⟨k, x, e1, e2, e3, e4⟩
 ·rw [e] at hb; simp at hb
 have e4 : gw pr rows 0 = (k : Int) := by omega
 have hklt : k < rows.length := (List.getElem?_eq_some_iff.1 e1).1
 rw [e4]
 refine ab _ (aD (by omega)) ?_
 refine gI (fun vs H' O' => ∃ (i j : Nat) (rows' : List (List Value)) (A' : Own), vs = [iV i, iV j] ∧ i < j ∧ j ≤ rows.length ∧ O'.Perm (B ++ A') ∧ Heap.le H1 H' ∧ OSl aG 1 v rows' A' ∧ rows'.length = rows.length ∧ rows'.take i = ((rows.take j).filter fun r => !pr r) ∧ rows'.drop j = rows.drop j)
  (fun vs _ _ => match g vs 1 with | .int _ n => rows.length - n.toNat | _ => 0) ⟨k, k + 1, rows, A, rfl, by omega, by omega, List.Perm.refl _, Heap.le_refl _, h, rfl, ?_, rfl⟩ ?_
 ·rw [List.take_add_one, e1, List.filter_append, ip e3]
  simp [e2]
 rintro vs H' O' - - - ⟨i, j, rows', A', rfl, hij, hj, hp', hle, hA, hl', ht, hd⟩
 have hlen := hA.len
 rw [hl'] at hlen
 have hp2 : O'.Perm (A' ++ B) := hp'.trans List.perm_append_comm
 refine ab _ hlen (ab _ (aN _ _) (ak (fun hb => ?_) (fun hb => ?_)))
 ·have hlt : j < rows.length := by simpa using hb
  have hrj : rows'[j]? = some rows[j] := by
   have := congrArg (fun l => l[0]?) hd
   simp only [List.getElem?_drop, Nat.add_zero] at this
   rw [this, List.getElem?_eq_getElem hlt]
  have ro := hA.rows_ok hrj
  obtain ⟨a, k1, _, k2, _⟩ := hA.idx (fun p h => hp'.mem_iff.2 (List.mem_append_right _ h)) H' (k := .i64) hrj
  have htj : (rows.take (j + 1)).filter (fun r => !pr r) = ((rows.take j).filter fun r => !pr r) ++ (if pr rows[j] then [] else [rows[j]]) := by
   rw [List.take_add_one, List.getElem?_eq_getElem hlt, List.filter_append]
   cases hpr : pr rows[j] <;> simp [hpr]
  refine ab _ k1 (ax k2 ro.1 ro.2 ?_)
  refine fA rfl hok (((hp H' (Heap.le_trans l1 hle) _ (List.getElem_mem hlt)).frame A').perm hp'.symm) rfl ⟨rfl, trivial⟩ fun H2 l2 => ab _ (aB _) (ak (fun hc => ?_) (fun hc => ?_))
  ·have hc : pr rows[j] = false := MV hc
   have hri : rows'[i]? = some rows'[i] := List.getElem?_eq_getElem (by omega)
   have ri := hA.rows_ok hri
   obtain ⟨a2, j1, j2⟩ := hA.store hp2 (k := .i64) hri
   have hy : [g rows[j] 0] = rows[j] := Ez ro.1
   obtain ⟨A2, hst, hA2⟩ := j2 0 [g rows[j] 0] (by rw [hy, ro.1]; simp) (by rw [hy]; exact ro.2)
   rw [N3] at hst
   rw [hy, sW (by rw [ri.1, ro.1])] at hA2
   refine ab _ j1 ?_
   refine aH rfl ?_
   refine ⟨_, hst, ?_⟩
   refine ab _ (aD (by omega)) (ab _ (aD (by omega)) (cY (by simp [Eqs]) ⟨i + 1, j + 1, rows'.set i rows[j], A2, rfl, by omega, by omega, List.perm_append_comm, Heap.le_trans hle l2, hA2, by simp [hl'], ?_, ?_⟩ ?_))
   ·rw [htj, hc, ← ht, List.take_add_one, List.getElem?_set_self (by omega), List.take_set, List.set_eq_of_length_le (by rw [List.length_take]; omega)]
    simp
   ·rw [List.drop_set_of_lt (by omega)]
    have := congrArg (fun l => l.drop 1) hd
    simpa [List.drop_drop] using this
   ·show rows.length - ((j + 1 : Nat) : Int).toNat < rows.length - ((j : Nat) : Int).toNat
    omega
  ·have hc : pr rows[j] = true := MW hc
   refine ab _ (aD (by omega)) (cY (by simp [Eqs]) ⟨i, j + 1, rows', A', rfl, by omega, by omega, hp', Heap.le_trans hle l2, hA, hl', ?_, ?_⟩ ?_)
   ·rw [htj, hc, ht]; simp
   ·have := congrArg (fun l => l.drop 1) hd
    simpa [List.drop_drop] using this
   ·show rows.length - ((j + 1 : Nat) : Int).toNat < rows.length - ((j : Nat) : Int).toNat
    omega
 ·have hje : j = rows.length := by
   have : ¬ ((j : Int) < (rows.length : Int)) := of_decide_eq_false hb
   omega
  rw [hje, List.take_length] at ht
  obtain ⟨u, c1, c2⟩ := tH (P := PP) (t := 26) (ty := 0) (e := aG) (Df (by kernel_rfl)) JD rfl (by simp [Value.cells, Value.oneCell']) hA hp2 (i := i) (by omega)
  refine ab _ c1 (c2 H' _ fun rows2 A2 f1 f2 hA2 => ?_)
  obtain ⟨u2, d1, hu⟩ := hA2.upto (i := i) (by omega)
  refine ab _ d1 (rB List.perm_append_comm ⟨A2, rfl, ?_⟩)
  rw [f1, ht] at hu
  exact hu
theorem nt {H : Heap} {O : Own} {v fv : Value} {rows : List (List Value)} {pr : List Value → Bool} (h : RSl H O 2 v rows) {f : FuncId} {caps : Array Value} (hf : fv = .func (.func f) #[] caps) (hok : pJ PP f)
  (hp : ∀ H', Heap.le H H' → ∀ row ∈ rows, RetO PP f ([.agg #[g row 0, g row 1]] ++ caps.toList) H' O (.bool (pr row))) : RetO PP cM [v, fv] H O (iV (gw pr rows 0)) := by
 subst hf
 refine ff (vs := [v, .func (.func f) #[] caps]) (by kernel_rfl) ⟨h.one, rfl, trivial⟩ ?_
 simp only [cK]
 have hB := h.lenB
 refine ab _ h.len ?_
 refine bh rows.length (fun i H' O' => O' = O ∧ Heap.le H H' ∧ gw pr rows 0 = gw pr (rows.drop i) i) ⟨rfl, Heap.le_refl H, by simp⟩ ?_
 rintro i H' O' hi - ⟨rfl, hle, hor⟩
 refine ab _ (aN _ _) (ak (fun hb => ?_) (fun hb => ?_))
 ·have hlt : i < rows.length := by simpa using hb
  obtain ⟨a, h1, h2, _, h3, h4⟩ := (h.le hle).idx .i64 i rows[i] (List.getElem?_eq_getElem hlt)
  refine ab _ h1 (ax h2 h3 h4 ?_)
  refine fA rfl hok (hp H' hle rows[i] (List.getElem_mem hlt)) rfl ⟨rfl, trivial⟩ fun H2 hle2 => ak (fun hb => ?_) (fun hb => ?_)
  ·refine ah ⟨?_, rfl⟩
   have hb : pr rows[i] = true := hb
   rw [hor, List.drop_eq_getElem_cons hlt, gw, if_pos hb]; rfl
  ·have hb : pr rows[i] = false := hb
   refine ab _ (aD (by omega)) (aS (by simp [Eqs]) hlt ⟨rfl, Heap.le_trans hle hle2, ?_⟩)
   rw [hor, List.drop_eq_getElem_cons hlt, gw, if_neg (by rw [hb]; simp)]; rfl
 ·have hge : rows.length ≤ i := by simpa using hb
  refine ah ⟨?_, rfl⟩
  rw [hor, List.drop_of_length_le hge]; rfl
theorem yf : ∀ w, (zeroValue ba).run PP w = .ok (.agg #[iV 0, iV 0]) w := by
 intro w
 have : (PP.info? ba).bind (·.zero) = some (.agg #[iV 0, iV 0]) := by kernel_rfl
 simp only [Option.bind_eq_some_iff] at this
 obtain ⟨i, hi, hz⟩ := this
 simp [zeroValue, typeInfo, hi, hz]
theorem mG {H : Heap} {B A : Own} {v fv : Value} {rows : List (List Value)} {pr : List Value → Bool} (h : OSl ba 2 v rows A) {f : FuncId} {caps : Array Value} (hf : fv = .func (.func f) #[] caps) (hok : pJ PP f)
  (hp : ∀ H', Heap.le H H' → ∀ row ∈ rows, RetO PP f ([.agg #[g row 0, g row 1]] ++ caps.toList) H' B (.bool (pr row))) :
  Triple PP bp [v, fv] H (B ++ A) fun v' _ O' => ∃ A', O' = B ++ A' ∧ OSl ba 2 v' (rows.filter fun r => !pr r) A' := by
 subst hf
 have hR := h.rsl (O := B ++ A) (fun p hp => List.mem_append_right _ hp) H
 have hB := h.lenB
 refine eN (vs := [v, .func (.func f) #[] caps]) (by kernel_rfl) ⟨h.one, rfl, trivial⟩ ?_
 simp only [cD]
 refine ai (nt hR rfl hok fun H' hl row hr => (hp H' hl row hr).frame A) rfl ⟨rfl, trivial⟩ fun H1 l1 => ab _ (aA _ _) (ak (fun hb => ?_) (fun hb => ?_))
 ·have e : gw pr rows 0 = -1 := by simpa using hb
  rcases io pr rows 0 (by omega) with ⟨_, hn⟩ | ⟨k, x, _, _, _, e2⟩
  ·exact ah ⟨A, rfl, by rw [ip hn]; exact h⟩
  ·omega
 rcases io pr rows 0 (by omega) with ⟨e, _⟩ | ⟨k, x, e1, e2, e3, e4⟩
 ·rw [e] at hb; simp at hb
 have e4 : gw pr rows 0 = (k : Int) := by omega
 have hklt : k < rows.length := (List.getElem?_eq_some_iff.1 e1).1
 rw [e4]
 refine ab _ (aD (by omega)) ?_
 refine gI (fun vs H' O' => ∃ (i j : Nat) (rows' : List (List Value)) (A' : Own), vs = [iV i, iV j] ∧ i < j ∧ j ≤ rows.length ∧ O'.Perm (B ++ A') ∧ Heap.le H1 H' ∧ OSl ba 2 v rows' A' ∧ rows'.length = rows.length ∧ rows'.take i = ((rows.take j).filter fun r => !pr r) ∧ rows'.drop j = rows.drop j)
  (fun vs _ _ => match g vs 1 with | .int _ n => rows.length - n.toNat | _ => 0) ⟨k, k + 1, rows, A, rfl, by omega, by omega, List.Perm.refl _, Heap.le_refl _, h, rfl, ?_, rfl⟩ ?_
 ·rw [List.take_add_one, e1, List.filter_append, ip e3]
  simp [e2]
 rintro vs H' O' - - - ⟨i, j, rows', A', rfl, hij, hj, hp', hle, hA, hl', ht, hd⟩
 have hlen := hA.len
 rw [hl'] at hlen
 have hp2 : O'.Perm (A' ++ B) := hp'.trans List.perm_append_comm
 refine ab _ hlen (ab _ (aN _ _) (ak (fun hb => ?_) (fun hb => ?_)))
 ·have hlt : j < rows.length := by simpa using hb
  have hrj : rows'[j]? = some rows[j] := by
   have := congrArg (fun l => l[0]?) hd
   simp only [List.getElem?_drop, Nat.add_zero] at this
   rw [this, List.getElem?_eq_getElem hlt]
  have ro := hA.rows_ok hrj
  obtain ⟨a, k1, _, k2, _⟩ := hA.idx (fun p h => hp'.mem_iff.2 (List.mem_append_right _ h)) H' (k := .i64) hrj
  have htj : (rows.take (j + 1)).filter (fun r => !pr r) = ((rows.take j).filter fun r => !pr r) ++ (if pr rows[j] then [] else [rows[j]]) := by
   rw [List.take_add_one, List.getElem?_eq_getElem hlt, List.filter_append]
   cases hpr : pr rows[j] <;> simp [hpr]
  refine ab _ k1 (ax k2 ro.1 ro.2 ?_)
  refine ae fun _ => aa (aa ?_)
  refine fA rfl hok (((hp H' (Heap.le_trans l1 hle) _ (List.getElem_mem hlt)).frame A').perm hp'.symm) rfl ⟨rfl, trivial⟩ fun H2 l2 => ab _ (aB _) (ak (fun hc => ?_) (fun hc => ?_))
  ·have hc : pr rows[j] = false := MV hc
   have hri : rows'[i]? = some rows'[i] := List.getElem?_eq_getElem (by omega)
   have ri := hA.rows_ok hri
   obtain ⟨a2, j1, j2⟩ := hA.store hp2 (k := .i64) hri
   have hy : [g rows[j] 0, g rows[j] 1] = rows[j] := Ez ro.1
   obtain ⟨A2, hst, hA2⟩ := j2 0 [g rows[j] 0, g rows[j] 1] (by rw [hy, ro.1]; simp) (by rw [hy]; exact ro.2)
   rw [N3] at hst
   rw [hy, sW (by rw [ri.1, ro.1])] at hA2
   refine aa ?_
   refine ab _ j1 ?_
   refine aH rfl ?_
   refine ⟨_, hst, ?_⟩
   refine ab _ (aD (by omega)) (ab _ (aD (by omega)) (cY (by simp [Eqs]) ⟨i + 1, j + 1, rows'.set i rows[j], A2, rfl, by omega, by omega, List.perm_append_comm, Heap.le_trans hle l2, hA2, by simp [hl'], ?_, ?_⟩ ?_))
   ·rw [htj, hc, ← ht, List.take_add_one, List.getElem?_set_self (by omega), List.take_set, List.set_eq_of_length_le (by rw [List.length_take]; omega)]
    simp
   ·rw [List.drop_set_of_lt (by omega)]
    have := congrArg (fun l => l.drop 1) hd
    simpa [List.drop_drop] using this
   ·show rows.length - ((j + 1 : Nat) : Int).toNat < rows.length - ((j : Nat) : Int).toNat
    omega
  ·have hc : pr rows[j] = true := MW hc
   refine ab _ (aD (by omega)) (cY (by simp [Eqs]) ⟨i, j + 1, rows', A', rfl, by omega, by omega, hp', Heap.le_trans hle l2, hA, hl', ?_, ?_⟩ ?_)
   ·rw [htj, hc, ht]; simp
   ·have := congrArg (fun l => l.drop 1) hd
    simpa [List.drop_drop] using this
   ·show rows.length - ((j + 1 : Nat) : Int).toNat < rows.length - ((j : Nat) : Int).toNat
    omega
 ·have hje : j = rows.length := by
   have : ¬ ((j : Int) < (rows.length : Int)) := of_decide_eq_false hb
   omega
  rw [hje, List.take_length] at ht
  obtain ⟨u, c1, c2⟩ := tH (P := PP) (t := 31) (ty := 0) (e := ba) (Df (by kernel_rfl)) yf rfl (by simp [Value.cells, Value.oneCell']) hA hp2 (i := i) (by omega)
  refine ab _ c1 (c2 H' _ fun rows2 A2 f1 f2 hA2 => ?_)
  obtain ⟨u2, d1, hu⟩ := hA2.upto (i := i) (by omega)
  refine ab _ d1 (rB List.perm_append_comm ⟨A2, rfl, ?_⟩)
  rw [f1, ht] at hu
  exact hu
theorem ot {H : Heap} {O : Own} {v fv : Value} {rows : List (List Value)} {pr : List Value → Bool} (h : RSl H O 5 v rows) {f : FuncId} {caps : Array Value} (hf : fv = .func (.func f) #[] caps) (hok : pJ PP f)
  (hp : ∀ H', Heap.le H H' → ∀ row ∈ rows, RetO PP f ([.agg #[g row 0, g row 1, g row 2, g row 3, g row 4]] ++ caps.toList) H' O (.bool (pr row))) : RetO PP bF [v, fv] H O (iV (gw pr rows 0)) := by
 subst hf
 refine cI (vs := [v, .func (.func f) #[] caps]) (by kernel_rfl) ⟨h.one, rfl, trivial⟩ ?_
 simp only [bE]
 have hB := h.lenB
 refine ab _ h.len ?_
 refine bh rows.length (fun i H' O' => O' = O ∧ Heap.le H H' ∧ gw pr rows 0 = gw pr (rows.drop i) i) ⟨rfl, Heap.le_refl H, by simp⟩ ?_
 rintro i H' O' hi - ⟨rfl, hle, hor⟩
 refine ab _ (aN _ _) (ak (fun hb => ?_) (fun hb => ?_))
 ·have hlt : i < rows.length := by simpa using hb
  obtain ⟨a, h1, h2, _, h3, h4⟩ := (h.le hle).idx .i64 i rows[i] (List.getElem?_eq_getElem hlt)
  refine ab _ h1 (ax h2 h3 h4 ?_)
  refine fA rfl hok (hp H' hle rows[i] (List.getElem_mem hlt)) rfl ⟨rfl, trivial⟩ fun H2 hle2 => ak (fun hb => ?_) (fun hb => ?_)
  ·refine ah ⟨?_, rfl⟩
   have hb : pr rows[i] = true := hb
   rw [hor, List.drop_eq_getElem_cons hlt, gw, if_pos hb]; rfl
  ·have hb : pr rows[i] = false := hb
   refine ab _ (aD (by omega)) (aS (by simp [Eqs]) hlt ⟨rfl, Heap.le_trans hle hle2, ?_⟩)
   rw [hor, List.drop_eq_getElem_cons hlt, gw, if_neg (by rw [hb]; simp)]; rfl
 ·have hge : rows.length ≤ i := by simpa using hb
  refine ah ⟨?_, rfl⟩
  rw [hor, List.drop_of_length_le hge]; rfl
theorem zh : ∀ w, (zeroValue bc).run PP w = .ok (.agg #[iV 0, iV 0, iV 0, iV 0, ma]) w := by
 intro w
 have : (PP.info? bc).bind (·.zero) = some (.agg #[iV 0, iV 0, iV 0, iV 0, ma]) := by kernel_rfl
 simp only [Option.bind_eq_some_iff] at this
 obtain ⟨i, hi, hz⟩ := this
 simp [zeroValue, typeInfo, hi, hz]
theorem nu {H : Heap} {B A : Own} {v fv : Value} {rows : List (List Value)} {pr : List Value → Bool} (h : OSl bc 5 v rows A) {f : FuncId} {caps : Array Value} (hf : fv = .func (.func f) #[] caps) (hok : pJ PP f)
  (hp : ∀ H', Heap.le H H' → ∀ row ∈ rows, RetO PP f ([.agg #[g row 0, g row 1, g row 2, g row 3, g row 4]] ++ caps.toList) H' B (.bool (pr row))) :
  Triple PP bw [v, fv] H (B ++ A) fun v' _ O' => ∃ A', O' = B ++ A' ∧ OSl bc 5 v' (rows.filter fun r => !pr r) A' := by
 subst hf
 have hR := h.rsl (O := B ++ A) (fun p hp => List.mem_append_right _ hp) H
 have hB := h.lenB
 refine fk (vs := [v, .func (.func f) #[] caps]) (by kernel_rfl) ⟨h.one, rfl, trivial⟩ ?_
 simp only [cR]
 refine ai (ot hR rfl hok fun H' hl row hr => (hp H' hl row hr).frame A) rfl ⟨rfl, trivial⟩ fun H1 l1 => ab _ (aA _ _) (ak (fun hb => ?_) (fun hb => ?_))
 ·have e : gw pr rows 0 = -1 := by simpa using hb
  rcases io pr rows 0 (by omega) with ⟨_, hn⟩ | ⟨k, x, _, _, _, e2⟩
  ·exact ah ⟨A, rfl, by rw [ip hn]; exact h⟩
  ·omega
 rcases io pr rows 0 (by omega) with ⟨e, _⟩ | ⟨k, x, e1, e2, e3, e4⟩
 ·rw [e] at hb; simp at hb
 have e4 : gw pr rows 0 = (k : Int) := by omega
 have hklt : k < rows.length := (List.getElem?_eq_some_iff.1 e1).1
 rw [e4]
 refine ab _ (aD (by omega)) ?_
 refine gI (fun vs H' O' => ∃ (i j : Nat) (rows' : List (List Value)) (A' : Own), vs = [iV i, iV j] ∧ i < j ∧ j ≤ rows.length ∧ O'.Perm (B ++ A') ∧ Heap.le H1 H' ∧ OSl bc 5 v rows' A' ∧ rows'.length = rows.length ∧ rows'.take i = ((rows.take j).filter fun r => !pr r) ∧ rows'.drop j = rows.drop j)
  (fun vs _ _ => match g vs 1 with | .int _ n => rows.length - n.toNat | _ => 0) ⟨k, k + 1, rows, A, rfl, by omega, by omega, List.Perm.refl _, Heap.le_refl _, h, rfl, ?_, rfl⟩ ?_
 ·rw [List.take_add_one, e1, List.filter_append, ip e3]
  simp [e2]
 rintro vs H' O' - - - ⟨i, j, rows', A', rfl, hij, hj, hp', hle, hA, hl', ht, hd⟩
 have hlen := hA.len
 rw [hl'] at hlen
 have hp2 : O'.Perm (A' ++ B) := hp'.trans List.perm_append_comm
 refine ab _ hlen (ab _ (aN _ _) (ak (fun hb => ?_) (fun hb => ?_)))
 ·have hlt : j < rows.length := by simpa using hb
  have hrj : rows'[j]? = some rows[j] := by
   have := congrArg (fun l => l[0]?) hd
   simp only [List.getElem?_drop, Nat.add_zero] at this
   rw [this, List.getElem?_eq_getElem hlt]
  have ro := hA.rows_ok hrj
  obtain ⟨a, k1, _, k2, _⟩ := hA.idx (fun p h => hp'.mem_iff.2 (List.mem_append_right _ h)) H' (k := .i64) hrj
  have htj : (rows.take (j + 1)).filter (fun r => !pr r) = ((rows.take j).filter fun r => !pr r) ++ (if pr rows[j] then [] else [rows[j]]) := by
   rw [List.take_add_one, List.getElem?_eq_getElem hlt, List.filter_append]
   cases hpr : pr rows[j] <;> simp [hpr]
  refine ab _ k1 (ax k2 ro.1 ro.2 ?_)
  refine ae fun _ => aa (aa ?_)
  refine fA rfl hok (((hp H' (Heap.le_trans l1 hle) _ (List.getElem_mem hlt)).frame A').perm hp'.symm) rfl ⟨rfl, trivial⟩ fun H2 l2 => ab _ (aB _) (ak (fun hc => ?_) (fun hc => ?_))
  ·have hc : pr rows[j] = false := MV hc
   have hri : rows'[i]? = some rows'[i] := List.getElem?_eq_getElem (by omega)
   have ri := hA.rows_ok hri
   obtain ⟨a2, j1, j2⟩ := hA.store hp2 (k := .i64) hri
   have hy : [g rows[j] 0, g rows[j] 1, g rows[j] 2, g rows[j] 3, g rows[j] 4] = rows[j] := Ez ro.1
   obtain ⟨A2, hst, hA2⟩ := j2 0 [g rows[j] 0, g rows[j] 1, g rows[j] 2, g rows[j] 3, g rows[j] 4] (by rw [hy, ro.1]; simp) (by rw [hy]; exact ro.2)
   rw [N3] at hst
   rw [hy, sW (by rw [ri.1, ro.1])] at hA2
   refine aa ?_
   refine ab _ j1 ?_
   refine aH rfl ?_
   refine ⟨_, hst, ?_⟩
   refine ab _ (aD (by omega)) (ab _ (aD (by omega)) (cY (by simp [Eqs]) ⟨i + 1, j + 1, rows'.set i rows[j], A2, rfl, by omega, by omega, List.perm_append_comm, Heap.le_trans hle l2, hA2, by simp [hl'], ?_, ?_⟩ ?_))
   ·rw [htj, hc, ← ht, List.take_add_one, List.getElem?_set_self (by omega), List.take_set, List.set_eq_of_length_le (by rw [List.length_take]; omega)]
    simp
   ·rw [List.drop_set_of_lt (by omega)]
    have := congrArg (fun l => l.drop 1) hd
    simpa [List.drop_drop] using this
   ·show rows.length - ((j + 1 : Nat) : Int).toNat < rows.length - ((j : Nat) : Int).toNat
    omega
  ·have hc : pr rows[j] = true := MW hc
   refine ab _ (aD (by omega)) (cY (by simp [Eqs]) ⟨i, j + 1, rows', A', rfl, by omega, by omega, hp', Heap.le_trans hle l2, hA, hl', ?_, ?_⟩ ?_)
   ·rw [htj, hc, ht]; simp
   ·have := congrArg (fun l => l.drop 1) hd
    simpa [List.drop_drop] using this
   ·show rows.length - ((j + 1 : Nat) : Int).toNat < rows.length - ((j : Nat) : Int).toNat
    omega
 ·have hje : j = rows.length := by
   have : ¬ ((j : Int) < (rows.length : Int)) := of_decide_eq_false hb
   omega
  rw [hje, List.take_length] at ht
  obtain ⟨u, c1, c2⟩ := tH (P := PP) (t := 30) (ty := 0) (e := bc) (Df (by kernel_rfl)) zh rfl (by simp [Value.cells, Value.oneCell']) hA hp2 (i := i) (by omega)
  refine ab _ c1 (c2 H' _ fun rows2 A2 f1 f2 hA2 => ?_)
  obtain ⟨u2, d1, hu⟩ := hA2.upto (i := i) (by omega)
  refine ab _ d1 (rB List.perm_append_comm ⟨A2, rfl, ?_⟩)
  rw [f1, ht] at hu
  exact hu
def pr1 (id : Int) (row : List Value) : Bool := asI (g row 0) == some id
def pr2 (id : Int) (row : List Value) : Bool := (match asI (g row 3) with | some t => decide (t < 0) | none => false) && asI (g row 1) == some id
def pr3 (id : Int) (row : List Value) : Bool := asI (g row 0) == some id || asI (g row 1) == some id
theorem NL {H : Heap} {O : Own} {r : Nat} {T : TypeId} {id : Int} (hb : (r, Obj.cells [iV id].toArray T (0, 0)) ∈ O) (n : Int) :
  RetO PP jC ([iV n] ++ (#[.pointer (some ⟨r, 0, none⟩)] : Array Value).toList) H O (.bool (n == id)) := by
 refine wa (vs := [iV n, .pointer (some ⟨r, 0, none⟩)]) (by kernel_rfl) ⟨rfl, rfl, trivial⟩ ?_
 simp only [sg]
 refine ax (vs := [iV id]) (.inr ⟨⟨r, 0, none⟩, [iV id].toArray, T, rfl, rfl, hb, rfl, rfl⟩) rfl ⟨rfl, trivial⟩ ?_
 refine ab _ (aA _ _) ?_
 exact ah ⟨rfl, rfl⟩
theorem NK {H : Heap} {O : Own} {r : Nat} {T : TypeId} {id : Int} (hb : (r, Obj.cells [iV id].toArray T (0, 0)) ∈ O) (x : It) {s : Value} (hs : s.oneCell' = true) :
  RetO PP mO ([.agg #[iV x.player, iV x.id, iV x.card, iV x.trig, s]] ++ (#[.pointer (some ⟨r, 0, none⟩)] : Array Value).toList) H O (.bool (iQ id x)) := by
 refine vZ (vs := [iV x.player, iV x.id, iV x.card, iV x.trig, s, .pointer (some ⟨r, 0, none⟩)]) (by kernel_rfl) ⟨rfl, rfl, rfl, rfl, hs, rfl, trivial⟩ ?_
 simp only [sf]
 refine ae fun r0 => aa (ab _ (aN _ _) ?_)
 refine aa (af ?_)
 refine ⟨[iV id], rfl, ⟨rfl, trivial⟩, fun _ => .inr ⟨⟨r, 0, none⟩, [iV id].toArray, T, rfl, rfl, hb, rfl, rfl⟩, ?_⟩
 refine af (af (ab _ (aA _ _) (af (ab _ (bA _ _) ?_))))
 exact ah ⟨rfl, rfl⟩
theorem NJ {H : Heap} {O : Own} {r : Nat} {T : TypeId} {id : Int} (hb : (r, Obj.cells [iV id].toArray T (0, 0)) ∈ O) (x : Bl) :
  RetO PP jB ([.agg #[iV x.blocker, iV x.attacker]] ++ (#[.pointer (some ⟨r, 0, none⟩)] : Array Value).toList) H O (.bool (ee id x)) := by
 refine vY (vs := [iV x.blocker, iV x.attacker, .pointer (some ⟨r, 0, none⟩)]) (by kernel_rfl) ⟨rfl, rfl, rfl, trivial⟩ ?_
 simp only [se]
 refine ae fun r0 => ?_
 refine aa ?_
 refine ax (vs := [iV id]) (.inr ⟨⟨r, 0, none⟩, [iV id].toArray, T, rfl, rfl, hb, rfl, rfl⟩) rfl ⟨rfl, trivial⟩ ?_
 refine ab _ (aA _ _) (aa (af ?_))
 refine ⟨[iV id], rfl, ⟨rfl, trivial⟩, fun _ => .inr ⟨⟨r, 0, none⟩, [iV id].toArray, T, rfl, rfl, hb, rfl, rfl⟩, ?_⟩
 refine af (af (ab _ (aA _ _) (af (ab _ (aM _ _) ?_))))
 exact ah ⟨rfl, rfl⟩
theorem DO (l : List Int) (id : Int) : ((aF l).filter fun r => !pr1 id r) = aF (bW l id) := by
 simp only [aF, bW, List.filter_map]
 congr 1
theorem Gh (l : List Bl) (id : Int) : ((l.map Bl.row).filter fun r => !pr3 id r) = (l.filter fun x => !ee id x).map Bl.row := by
 rw [List.filter_map]
 congr 1
theorem yU {te : TypeId} {id : Int} : ∀ (l : List It) (rows : List (List Value)) (Ts : List Own), rows.length = l.length → Ts.length = l.length →
  (∀ (i : Nat) (r : List Value) (x : It) (T : Own), rows[i]? = some r → l[i]? = some x → Ts[i]? = some T → ∃ s, r = [iV x.player, iV x.id, iV x.card, iV x.trig, s] ∧ OSlE te 2 s (x.tgs.map Tg.row) T) →
  ∃ Ts' Y, (List.flatten Ts).Perm (List.flatten Ts' ++ Y) ∧ (rows.filter fun r => !pr2 id r).length = (l.filter fun x => !iQ id x).length ∧ Ts'.length = (l.filter fun x => !iQ id x).length ∧
   ∀ (i : Nat) (r : List Value) (x : It) (T : Own), (rows.filter fun r => !pr2 id r)[i]? = some r → (l.filter fun x => !iQ id x)[i]? = some x → Ts'[i]? = some T → ∃ s, r = [iV x.player, iV x.id, iV x.card, iV x.trig, s] ∧ OSlE te 2 s (x.tgs.map Tg.row) T
 | [], [], [], _, _, _ => ⟨[], [], List.Perm.refl _, rfl, rfl, fun i r x T h => by simp at h⟩
 | x :: l, r :: rows, T :: Ts, h1, h2, hs => by
  obtain ⟨s, e, hT⟩ := hs 0 r x T rfl rfl rfl
  obtain ⟨Ts', Y, p1, p2, p3, p4⟩ := yU (id := id) l rows Ts (by simpa using h1) (by simpa using h2) fun i r x T a b c => hs (i + 1) r x T (by simpa using a) (by simpa using b) (by simpa using c)
  have hpr : pr2 id r = iQ id x := by
   rw [e]
   show (decide (x.trig < 0) && (some x.id == some id)) = iQ id x
   simp [iQ]
  cases hc : iQ id x with
  | true =>
   refine ⟨Ts', T ++ Y, ?_, ?_, ?_, ?_⟩
   ·rw [List.flatten_cons]
    exact (p1.append_left T).trans (aO fun a _ _ => by simp only [List.count_append] <;> omega)
   ·simp [List.filter_cons, hpr, hc, p2]
   ·simp [List.filter_cons, hc, p3]
   ·simpa [List.filter_cons, hpr, hc] using p4
  | false =>
   refine ⟨T :: Ts', Y, ?_, ?_, ?_, ?_⟩
   ·rw [List.flatten_cons, List.flatten_cons, List.append_assoc]
    exact p1.append_left T
   ·simp [List.filter_cons, hpr, hc, p2]
   ·simp [List.filter_cons, hc, p3]
   ·intro i r' x' T' a b c
    simp only [List.filter_cons, hpr, hc, Bool.not_false, if_true] at a b
    cases i with
    | zero => simp at a b c; subst a; subst b; subst c; exact ⟨s, e, hT⟩
    | succ i => exact p4 i r' x' T' (by simpa using a) (by simpa using b) (by simpa using c)
 | [], _ :: _, _, h, _, _ => by simp at h
 | _ :: _, [], _, h, _, _ => by simp at h
 | [], [], _ :: _, _, h, _ => by simp at h
 | _ :: _, _ :: _, [], _, h, _ => by simp at h
theorem tj {P : Program} {v : Value} {H : Heap} {O O' Y : Own} {Q : Value → Heap → Own → Prop} (hp : O.Perm (O' ++ Y)) (h : Q v H O') : (Tree.ret v []).den P Q H O :=
 fun _ => ⟨H, O', (Ghost.perm (by simpa using hp)).trans (Ghost.sub (List.sublist_append_left _ _)), h⟩
abbrev N6 (r1 : Nat) (id : Int) : Own := ([⟨r1, 3, [iV id]⟩] : List BV).map BV.obj
theorem Fb (r1 : Nat) (id : Int) : ((r1, Obj.cells [iV id].toArray 3 (0, 0)) : Nat × Obj) ∈ N6 r1 id := by simp [BV.obj]
theorem I3 {H : Heap} {r1 : Nat} {id : Int} {x : Value} {srows : List (List Value)} {l : List It} {As : Own} {Ts : List Own} (hs1 : OSl bc 5 x srows As) (hs2 : srows.length = l.length) (hs3 : Ts.length = l.length)
  (hs4 : ∀ (i : Nat) (r : List Value) (x : It) (T : Own), srows[i]? = some r → l[i]? = some x → Ts[i]? = some T → ∃ s, r = [iV x.player, iV x.id, iV x.card, iV x.trig, s] ∧ OSlE az 2 s (x.tgs.map Tg.row) T) :
  Triple PP bw [x, .func (.func mO) #[] #[.pointer (some ⟨r1, 0, none⟩)]] H (N6 r1 id ++ As)
   fun v' _ O' => ∃ O3, O' = N6 r1 id ++ O3 ∧ OSl bc 5 v' (srows.filter fun r => !pr2 id r) O3 := by
 refine nu (pr := pr2 id) hs1 rfl (gm iP (by decide)) fun H2 _ row hr => ?_
 obtain ⟨i, hi⟩ := List.mem_iff_getElem?.1 hr
 have hlt := (List.getElem?_eq_some_iff.1 hi).1
 have hl : l[i]? = some l[i] := List.getElem?_eq_getElem (by omega)
 obtain ⟨s, e, hT⟩ := hs4 i row l[i] Ts[i] hi hl (List.getElem?_eq_getElem (by omega))
 have h2 := NK (H := H2) (Fb r1 id) l[i] hT.one
 have e2 : pr2 id row = iQ id l[i] := by
  rw [e]
  show (decide (l[i].trig < 0) && (some l[i].id == some id)) = iQ id l[i]
  simp [iQ]
 rw [e2, e]
 exact h2
theorem Gm {H : Heap} {r1 : Nat} {id : Int} {x : Value} {l : List Bl} {As : Own} (hs1 : OSl ba 2 x (l.map Bl.row) As) :
  Triple PP bp [x, .func (.func jB) #[] #[.pointer (some ⟨r1, 0, none⟩)]] H (N6 r1 id ++ As)
   fun v' _ O' => ∃ O3, O' = N6 r1 id ++ O3 ∧ OSl ba 2 v' ((l.filter fun x => !ee id x).map Bl.row) O3 := by
 have h2 := mG (H := H) (B := N6 r1 id) (pr := pr3 id) (f := jB) (caps := #[.pointer (some ⟨r1, 0, none⟩)]) hs1 rfl (gm iP (by decide)) fun H2 _ row hr => by
  obtain ⟨y, _, rfl⟩ := List.mem_map.1 hr
  have h3 := NJ (H := H2) (Fb r1 id) y
  have e : pr3 id (Bl.row y) = ee id y := by
   show (some y.blocker == some id || some y.attacker == some id) = ee id y
   simp [ee]
  rw [e]; exact h3
 rw [Gh] at h2
 exact h2
theorem Qb {H : Heap} {v : dr} {b : Bd} (h : BdS H v b) (hB : bdB b) (id : Int) : Triple PP yc [.agg (am v b).toArray, iV id] H [] fun r _ O' => ∃ w, r = .agg (am w (kl b id)).toArray ∧ OwnB tys w (kl b id) O' := by
 refine zy (vs := am v b ++ [iV id]) (by kernel_rfl) (ar (an (h.r [])) ⟨rfl, trivial⟩) ?_
 simp only [xW]
 refine ae fun r0 => ae fun r1 => ae fun r2 => ?_
 refine aa ?_
 refine ao (CH h hB) ?_
 rintro _ H1 O1 ⟨w, rfl, ho⟩ l1
 refine ⟨am w b, rfl, aT H1 ho, ?_⟩
 rw [List.append_nil]
 have hbox : ((r1, Obj.cells [iV id].toArray 3 (0, 0)) : Nat × Obj) ∈ ([⟨r1, 3, [iV id]⟩] : List BV).map BV.obj := by simp [BV.obj]
 have hdel : ∀ {H' : Heap} {x : Value} {l : List Int} {A : Own}, OSl aG 1 x (aF l) A → Triple PP dC [x, .func (.func jC) #[] #[.pointer (some ⟨r1, 0, none⟩)]] H' (([⟨r1, 3, [iV id]⟩] : List BV).map BV.obj ++ A)
   fun v' _ O' => ∃ O3, O' = ([⟨r1, 3, [iV id]⟩] : List BV).map BV.obj ++ O3 ∧ OSl aG 1 v' (aF (bW l id)) O3 := by
  intro H' x l A hA
  have := tK (H := H') (B := ([⟨r1, 3, [iV id]⟩] : List BV).map BV.obj) (pr := pr1 id) hA rfl (gm iP (by decide)) (f := jC) (caps := #[.pointer (some ⟨r1, 0, none⟩)]) fun H2 _ row hr => by
   simp only [aF, List.mem_map] at hr
   obtain ⟨n, _, rfl⟩ := hr
   have := NL (H := H2) hbox n
   have e : pr1 id [iV n] = (n == id) := by show (some n == some id) = (n == id); simp
   rw [e]; exact this
  rw [DO] at this
  exact this
 refine aa ?_
 refine ai (kY r0 1 _ _) rfl ⟨rfl, rfl, rfl, rfl, trivial⟩ fun L0 m0 => ?_
 repeat (first | refine aa ?_ | refine af ?_)
 obtain ⟨A0, R0, p0, q0, back0⟩ := OwnB.pick_l0 ho
 refine fB (own := [⟨r1, 3, [iV id]⟩]) p0 (hdel q0) ⟨rfl, ⟨rfl, trivial⟩, trivial⟩ fun v0 K0 X0 x0 j0 => ⟨[v0], rfl, ⟨x0.one, trivial⟩, ?_⟩
 have ho0 := back0 _ _ _ x0
 clear back0
 refine aa (aa ?_)
 obtain ⟨A1, R1, p1, q1, back1⟩ := OwnB.pick_h0 ho0
 refine fB (own := [⟨r1, 3, [iV id]⟩]) p1 (hdel q1) ⟨rfl, ⟨rfl, trivial⟩, trivial⟩ fun v1 K1 X1 x1 j1 => ⟨[v1], rfl, ⟨x1.one, trivial⟩, ?_⟩
 have ho1 := back1 _ _ _ x1
 clear back1
 refine aa (aa ?_)
 obtain ⟨A2, R2, p2, q2, back2⟩ := OwnB.pick_f0 ho1
 refine fB (own := [⟨r1, 3, [iV id]⟩]) p2 (hdel q2) ⟨rfl, ⟨rfl, trivial⟩, trivial⟩ fun v2 K2 X2 x2 j2 => ⟨[v2], rfl, ⟨x2.one, trivial⟩, ?_⟩
 have ho2 := back2 _ _ _ x2
 clear back2
 refine aa (aa ?_)
 obtain ⟨A3, R3, p3, q3, back3⟩ := OwnB.pick_g0 ho2
 refine fB (own := [⟨r1, 3, [iV id]⟩]) p3 (hdel q3) ⟨rfl, ⟨rfl, trivial⟩, trivial⟩ fun v3 K3 X3 x3 j3 => ⟨[v3], rfl, ⟨x3.one, trivial⟩, ?_⟩
 have ho3 := back3 _ _ _ x3
 clear back3
 refine aa ?_
 refine ai (kY r0 15 _ _) rfl ⟨rfl, rfl, rfl, rfl, trivial⟩ fun L4 m4 => ?_
 repeat (first | refine aa ?_ | refine af ?_)
 obtain ⟨A4, R4, p4, q4, back4⟩ := OwnB.pick_l1 ho3
 refine fB (own := [⟨r1, 3, [iV id]⟩]) p4 (hdel q4) ⟨rfl, ⟨rfl, trivial⟩, trivial⟩ fun v4 K4 X4 x4 j4 => ⟨[v4], rfl, ⟨x4.one, trivial⟩, ?_⟩
 have ho4 := back4 _ _ _ x4
 clear back4
 refine aa (aa ?_)
 obtain ⟨A5, R5, p5, q5, back5⟩ := OwnB.pick_h1 ho4
 refine fB (own := [⟨r1, 3, [iV id]⟩]) p5 (hdel q5) ⟨rfl, ⟨rfl, trivial⟩, trivial⟩ fun v5 K5 X5 x5 j5 => ⟨[v5], rfl, ⟨x5.one, trivial⟩, ?_⟩
 have ho5 := back5 _ _ _ x5
 clear back5
 refine aa (aa ?_)
 obtain ⟨A6, R6, p6, q6, back6⟩ := OwnB.pick_f1 ho5
 refine fB (own := [⟨r1, 3, [iV id]⟩]) p6 (hdel q6) ⟨rfl, ⟨rfl, trivial⟩, trivial⟩ fun v6 K6 X6 x6 j6 => ⟨[v6], rfl, ⟨x6.one, trivial⟩, ?_⟩
 have ho6 := back6 _ _ _ x6
 clear back6
 refine aa (aa ?_)
 obtain ⟨A7, R7, p7, q7, back7⟩ := OwnB.pick_g1 ho6
 refine fB (own := [⟨r1, 3, [iV id]⟩]) p7 (hdel q7) ⟨rfl, ⟨rfl, trivial⟩, trivial⟩ fun v7 K7 X7 x7 j7 => ⟨[v7], rfl, ⟨x7.one, trivial⟩, ?_⟩
 have ho7 := back7 _ _ _ x7
 clear back7
 refine aa (aa ?_)
 obtain ⟨A8, R8, p8, q8, back8⟩ := OwnB.pick_stack ho7
 obtain ⟨srows, As, Ts, hps, hs1, hs2, hs3, hs4⟩ : OIts tys.tg tys.it _ b.stack A8 := q8
 obtain ⟨Ts', Y, t1, t2, t3, t4⟩ := yU (id := id) _ srows Ts hs2 hs3 hs4
 have hdel2 := I3 (H := K7) (r1 := r1) (id := id) hs1 hs2 hs3 hs4
 refine fB (own := [⟨r1, 3, [iV id]⟩]) (O1 := As) (O2 := List.flatten Ts' ++ (Y ++ R8)) (p8.trans ((hps.append_right R8).trans ((List.Perm.append_right R8 (t1.append_left As)).trans (aO fun a _ _ => by simp only [List.count_append] <;> omega)))) hdel2 ⟨rfl, ⟨rfl, trivial⟩, trivial⟩ fun v8 K8 X8 x8 j8 => ⟨[v8], rfl, ⟨x8.one, trivial⟩, ?_⟩
 have ho8 := back8 v8 (b.stack.filter fun x => !iQ id x) (X8 ++ List.flatten Ts') ⟨_, X8, Ts', List.Perm.refl _, x8, t2, t3, t4⟩
 have hsep : (X8 ++ (List.flatten Ts' ++ (Y ++ R8))).Perm (((X8 ++ List.flatten Ts') ++ R8) ++ Y) := aO fun a _ _ => by simp only [List.count_append]; omega
 refine aa (aa ?_)
 obtain ⟨A9, R9, p9, q9, back9⟩ := OwnB.pick_att ho8
 refine fB (own := [⟨r1, 3, [iV id]⟩]) (O1 := A9) (O2 := R9 ++ Y) (hsep.trans ((p9.append_right Y).trans (List.Perm.of_eq (List.append_assoc _ _ _)))) (hdel q9) ⟨rfl, ⟨rfl, trivial⟩, trivial⟩ fun v9 K9 X9 x9 j9 => ⟨[v9], rfl, ⟨x9.one, trivial⟩, ?_⟩
 have ho9 := back9 _ _ _ x9
 refine aa (aa ?_)
 obtain ⟨A10, R10, p10, q10, back10⟩ := OwnB.pick_blocks ho9
 have hdel3 := Gm (H := K9) (r1 := r1) (id := id) (l := b.blocks) q10
 refine fB (own := [⟨r1, 3, [iV id]⟩]) (O1 := A10) (O2 := R10 ++ Y) ((List.Perm.of_eq (List.append_assoc _ _ _).symm).trans ((p10.append_right Y).trans (List.Perm.of_eq (List.append_assoc _ _ _)))) hdel3 ⟨rfl, ⟨rfl, trivial⟩, trivial⟩ fun v10 K10 X10 x10 j10 => ⟨[v10], rfl, ⟨x10.one, trivial⟩, ?_⟩
 have ho10 := back10 _ _ _ x10
 refine aa (aa (aa (aa ?_)))
 exact tj (Y := Y) (List.Perm.of_eq (List.append_assoc _ _ _).symm) ⟨_, rfl, ho10⟩
def JW (o : Ob) : Ob := { o with dmg := 0, pp := 0, pt := 0 }
theorem OY (o : Ob) (H : Heap) (O : Own) : RetO PP sD [.agg o.row.toArray] H O (.agg (JW o).row.toArray) := by
 refine vT (vs := o.row) (by kernel_rfl) (bj o) ?_
 simp only [sa]
 refine ae fun r0 => ae fun r1 => ?_
 repeat (first | refine aa ?_ | refine af ?_)
 exact ah ⟨rfl, rfl⟩
theorem D2 (o : Ob) (z : Int) (H : Heap) (O : Own) : RetO PP qz [.agg o.row.toArray, iV z] H O (.agg (bm o z).row.toArray) := by
 refine u6 (vs := o.row ++ [iV z]) (by kernel_rfl) (ar (bj o) ⟨rfl, trivial⟩) ?_
 simp only [qg]
 refine ae fun r0 => ae fun r1 => ?_
 refine aa ?_
 refine ai (OY o H O) rfl (vs := (JW o).row) (bj _) fun H1 l1 => ae fun r2 => ?_
 refine aa ?_
 refine ab _ (aA _ _) ?_
 repeat (first | refine aa ?_ | refine af ?_)
 exact ah ⟨rfl, rfl⟩
theorem Lr {b : Bd} (h : bdB b) (id : Int) : bdB (kl b id) := by
 obtain ⟨b1, ⟨b2, b3, b4, b5⟩, ⟨b6, b7, b8, b9⟩, ⟨b10, b10'⟩, b11, b12, b13⟩ := h
 have hw : ∀ {l : List Int}, l.length ≤ 1000000 → (bW l id).length ≤ 1000000 := fun h => Nat.le_trans (List.length_filter_le _ _) h
 exact ⟨b1, ⟨hw b2, hw b3, hw b4, hw b5⟩, ⟨hw b6, hw b7, hw b8, hw b9⟩, ⟨Nat.le_trans (List.length_filter_le _ _) b10, fun x hx => b10' x (List.mem_filter.1 hx).1⟩, b11, hw b12, Nat.le_trans (List.length_filter_le _ _) b13⟩
def dJ (b : Bd) (id z : Int) : Bd × Int :=
 if (aU b id == 2 || !ap z 0 3) = true then (zBd, 2) else if (aU b id != 0) = true then (zBd, aU b id) else (eo b (oh b id).toNat (bm (eR b id) z) z, 0)
theorem CB {H : Heap} {v : dr} {b : Bd} (h : BdS H v b) (hB : bdB b) {id : Int} (hid : i64 id) (z : Int) : Triple PP uR [.agg (am v b).toArray, iV id, iV z] H [] fun r _ O' => ∃ w, r = .tuple #[.agg (am w (dJ b id z).1).toArray, iV (dJ b id z).2] ∧ OwnB tys w (dJ b id z).1 O' := by
 refine yn (vs := am v b ++ [iV id, iV z]) (by kernel_rfl) (ar (an (h.r [])) ⟨rfl, rfl, trivial⟩) ?_
 simp only [uI]
 refine ae fun r0 => ae fun r1 => ?_
 refine aa ?_
 refine ai (tI (h.r []) hid) rfl ⟨rfl, rfl, trivial⟩ fun H1 l1 => ab _ (aA _ _) (ak (fun hb => ?_) (fun hb2 => ?_))
 ·have e : dJ b id z = (zBd, 2) := by rw [dJ, if_pos (by rw [show (aU b id == 2) = true from hb]; rfl)]
  refine aa (aa ?_)
  exact ah ⟨sP, by rw [e]; rfl, by rw [e]; exact OwnB.zero tys⟩
 replace h := h.le l1
 refine ai (cw z 0 3 H1 []) rfl ⟨rfl, trivial⟩ fun H2 l2 => ab _ (aB _) (ak (fun hb => ?_) (fun hb => ?_))
 ·have e : dJ b id z = (zBd, 2) := by rw [dJ, if_pos (by rw [show ap z 0 3 = false from rG hb]; simp)]
  refine aa (aa ?_)
  exact ah ⟨sP, by rw [e]; rfl, by rw [e]; exact OwnB.zero tys⟩
 have hz : ap z 0 3 = true := sO hb
 have hcond : ¬ ((aU b id == 2 || !ap z 0 3) = true) := by rw [show (aU b id == 2) = false from hb2, hz]; simp
 replace h := h.le l2
 refine ab _ (aV _ _) (ak (fun hb => ?_) (fun hb => ?_))
 ·have e : dJ b id z = (zBd, aU b id) := by rw [dJ, if_neg hcond, if_pos hb]
  refine aa (aa ?_)
  exact ah ⟨sP, by rw [e]; rfl, by rw [e]; exact OwnB.zero tys⟩
 obtain ⟨hval, k, o, e1, e2, e3, e4⟩ := lI hb
 have hfo := mD hb e1 e3
 have hown := (dN (aJ hval).1 e1).2.2.2
 have e : dJ b id z = (eo b k (bm o z) z, 0) := by rw [dJ, if_neg hcond, if_neg (by rw [hb]; simp), hfo, e3]; rfl
 rw [e, e4]
 have hlens := Lr hB id
 refine aa ?_
 refine ao (Qb h hB id) ?_
 rintro _ H3 O3 ⟨w, rfl, ho⟩ l3
 refine ⟨am w (kl b id), rfl, aT H3 ho, ?_⟩
 rw [List.append_nil]
 have e1' : (kl b id).objs[k]? = some o := e1
 refine aa (aa ?_)
 obtain ⟨a, h1, h2, _, h3, h4⟩ := (ho.r (fun p hp => hp) H3).objs.idx .i64 k (Ob.row o) (by rw [List.getElem?_map, e1']; rfl)
 refine ab _ h1 (ax h2 h3 h4 ?_)
 refine ai (D2 o z H3 O3) rfl (vs := (bm o z).row) (bj _) fun H4 l4 => ae fun r2 => ?_
 obtain ⟨a', q1, O1, q2, O2, q3, q4⟩ := OwnB.store_ob ho (X := []) (O' := O3) (by simp) e1' (bm o z)
 rw [List.append_nil] at q3
 refine aa (aa (aa ?_))
 refine ab _ q1 ?_
 refine aH rfl ?_
 refine ⟨_, q2, ?_⟩
 have ho2 := OwnB.perm q4 q3
 have hm : eo b k (bm o z) z = jM (du (kl b id) k (bm o z)) o.owner z id := by
  show jM (du (kl b o.id) k (bm o z)) o.owner z o.id = _
  rw [e2]
 rw [hm]
 clear hm hcond e hfo
 have hz4 : z = 0 ∨ z = 1 ∨ z = 2 ∨ z = 3 := by
  simp only [ap, decide_eq_true_eq] at hz; omega
 have el : g (bm o z).row 2 = iV o.owner := rfl
 refine aa ?_
 rw [el]
 obtain ⟨m1, ⟨m2, m3, m4, m5⟩, ⟨m6, m7, m8, m9⟩, _⟩ := hlens
 rcases hown with hown | hown
 ·rw [hown]
  refine ⟨.i64, 0, rfl, fun _ => ?_, fun e => absurd rfl e⟩
  refine ai (kY r0 1 _ _) rfl ⟨rfl, rfl, rfl, rfl, trivial⟩ fun H5 l5 => ?_
  refine af (af (af (af ?_)))
  rcases hz4 with rfl | rfl | rfl | rfl
  ·refine ⟨.i64, 0, rfl, fun _ => ?_, fun e => absurd rfl e⟩
   refine aa ?_
   refine ae fun r3 => ?_
   obtain ⟨A, R, hp, hA, back⟩ := OwnB.pick_l0 ho2
   refine ay (rows := aF (kl b id).s0.lib) (news := [[iV id]]) (O1 := A) (O2 := R) (e := aG) (size := 1) (bytes := 8) (by kernel_rfl) hp hA (fun Hf _ hf => Sl.block1 (hf _ List.mem_cons_self) rfl ⟨rfl, trivial⟩) (by simp [aF]; omega) (by simp [aF]; omega) ?_
   intro v' A' H6 l6 hA'
   have hA2 : OSl aG 1 v' (aF ((kl b id).s0.lib ++ [id])) A' := by rw [aF, List.map_append]; exact hA'
   have hfin := back _ _ _ hA2
   refine aa (aa (aa (aa ?_)))
   exact ah ⟨_, rfl, hfin⟩
  ·refine ⟨.i64, 1, rfl, fun e => absurd e (by omega), fun _ => ?_⟩
   refine ⟨.i64, 1, rfl, fun _ => ?_, fun e => absurd rfl e⟩
   refine aa ?_
   refine ae fun r3 => ?_
   obtain ⟨A, R, hp, hA, back⟩ := OwnB.pick_h0 ho2
   refine ay (rows := aF (kl b id).s0.hand) (news := [[iV id]]) (O1 := A) (O2 := R) (e := aG) (size := 1) (bytes := 8) (by kernel_rfl) hp hA (fun Hf _ hf => Sl.block1 (hf _ List.mem_cons_self) rfl ⟨rfl, trivial⟩) (by simp [aF]; omega) (by simp [aF]; omega) ?_
   intro v' A' H6 l6 hA'
   have hA2 : OSl aG 1 v' (aF ((kl b id).s0.hand ++ [id])) A' := by rw [aF, List.map_append]; exact hA'
   have hfin := back _ _ _ hA2
   refine aa (aa (aa (aa ?_)))
   exact ah ⟨_, rfl, hfin⟩
  ·refine ⟨.i64, 2, rfl, fun e => absurd e (by omega), fun _ => ?_⟩
   refine ⟨.i64, 2, rfl, fun e => absurd e (by omega), fun _ => ?_⟩
   refine ⟨.i64, 2, rfl, fun _ => ?_, fun e => absurd rfl e⟩
   refine aa ?_
   refine ae fun r3 => ?_
   obtain ⟨A, R, hp, hA, back⟩ := OwnB.pick_f0 ho2
   refine ay (rows := aF (kl b id).s0.field) (news := [[iV id]]) (O1 := A) (O2 := R) (e := aG) (size := 1) (bytes := 8) (by kernel_rfl) hp hA (fun Hf _ hf => Sl.block1 (hf _ List.mem_cons_self) rfl ⟨rfl, trivial⟩) (by simp [aF]; omega) (by simp [aF]; omega) ?_
   intro v' A' H6 l6 hA'
   have hA2 : OSl aG 1 v' (aF ((kl b id).s0.field ++ [id])) A' := by rw [aF, List.map_append]; exact hA'
   have hfin := back _ _ _ hA2
   refine aa (aa (aa (aa ?_)))
   exact ah ⟨_, rfl, hfin⟩
  ·refine ⟨.i64, 3, rfl, fun e => absurd e (by omega), fun _ => ?_⟩
   refine ⟨.i64, 3, rfl, fun e => absurd e (by omega), fun _ => ?_⟩
   refine ⟨.i64, 3, rfl, fun e => absurd e (by omega), fun _ => ?_⟩
   refine ⟨.i64, 3, rfl, fun _ => ?_, fun e => absurd rfl e⟩
   refine aa ?_
   refine ae fun r3 => ?_
   obtain ⟨A, R, hp, hA, back⟩ := OwnB.pick_g0 ho2
   refine ay (rows := aF (kl b id).s0.grave) (news := [[iV id]]) (O1 := A) (O2 := R) (e := aG) (size := 1) (bytes := 8) (by kernel_rfl) hp hA (fun Hf _ hf => Sl.block1 (hf _ List.mem_cons_self) rfl ⟨rfl, trivial⟩) (by simp [aF]; omega) (by simp [aF]; omega) ?_
   intro v' A' H6 l6 hA'
   have hA2 : OSl aG 1 v' (aF ((kl b id).s0.grave ++ [id])) A' := by rw [aF, List.map_append]; exact hA'
   have hfin := back _ _ _ hA2
   refine aa (aa (aa (aa ?_)))
   exact ah ⟨_, rfl, hfin⟩

 ·rw [hown]
  refine ⟨.i64, 1, rfl, fun e => absurd e (by omega), fun _ => ⟨.i64, 1, rfl, fun _ => ?_, fun e => absurd rfl e⟩⟩
  refine ai (kY r0 15 _ _) rfl ⟨rfl, rfl, rfl, rfl, trivial⟩ fun H5 l5 => ?_
  refine af (af (af (af ?_)))
  rcases hz4 with rfl | rfl | rfl | rfl
  ·refine ⟨.i64, 0, rfl, fun _ => ?_, fun e => absurd rfl e⟩
   refine aa ?_
   refine ae fun r3 => ?_
   obtain ⟨A, R, hp, hA, back⟩ := OwnB.pick_l1 ho2
   refine ay (rows := aF (kl b id).s1.lib) (news := [[iV id]]) (O1 := A) (O2 := R) (e := aG) (size := 1) (bytes := 8) (by kernel_rfl) hp hA (fun Hf _ hf => Sl.block1 (hf _ List.mem_cons_self) rfl ⟨rfl, trivial⟩) (by simp [aF]; omega) (by simp [aF]; omega) ?_
   intro v' A' H6 l6 hA'
   have hA2 : OSl aG 1 v' (aF ((kl b id).s1.lib ++ [id])) A' := by rw [aF, List.map_append]; exact hA'
   have hfin := back _ _ _ hA2
   refine aa (aa (aa (aa ?_)))
   exact ah ⟨_, rfl, hfin⟩
  ·refine ⟨.i64, 1, rfl, fun e => absurd e (by omega), fun _ => ?_⟩
   refine ⟨.i64, 1, rfl, fun _ => ?_, fun e => absurd rfl e⟩
   refine aa ?_
   refine ae fun r3 => ?_
   obtain ⟨A, R, hp, hA, back⟩ := OwnB.pick_h1 ho2
   refine ay (rows := aF (kl b id).s1.hand) (news := [[iV id]]) (O1 := A) (O2 := R) (e := aG) (size := 1) (bytes := 8) (by kernel_rfl) hp hA (fun Hf _ hf => Sl.block1 (hf _ List.mem_cons_self) rfl ⟨rfl, trivial⟩) (by simp [aF]; omega) (by simp [aF]; omega) ?_
   intro v' A' H6 l6 hA'
   have hA2 : OSl aG 1 v' (aF ((kl b id).s1.hand ++ [id])) A' := by rw [aF, List.map_append]; exact hA'
   have hfin := back _ _ _ hA2
   refine aa (aa (aa (aa ?_)))
   exact ah ⟨_, rfl, hfin⟩
  ·refine ⟨.i64, 2, rfl, fun e => absurd e (by omega), fun _ => ?_⟩
   refine ⟨.i64, 2, rfl, fun e => absurd e (by omega), fun _ => ?_⟩
   refine ⟨.i64, 2, rfl, fun _ => ?_, fun e => absurd rfl e⟩
   refine aa ?_
   refine ae fun r3 => ?_
   obtain ⟨A, R, hp, hA, back⟩ := OwnB.pick_f1 ho2
   refine ay (rows := aF (kl b id).s1.field) (news := [[iV id]]) (O1 := A) (O2 := R) (e := aG) (size := 1) (bytes := 8) (by kernel_rfl) hp hA (fun Hf _ hf => Sl.block1 (hf _ List.mem_cons_self) rfl ⟨rfl, trivial⟩) (by simp [aF]; omega) (by simp [aF]; omega) ?_
   intro v' A' H6 l6 hA'
   have hA2 : OSl aG 1 v' (aF ((kl b id).s1.field ++ [id])) A' := by rw [aF, List.map_append]; exact hA'
   have hfin := back _ _ _ hA2
   refine aa (aa (aa (aa ?_)))
   exact ah ⟨_, rfl, hfin⟩
  ·refine ⟨.i64, 3, rfl, fun e => absurd e (by omega), fun _ => ?_⟩
   refine ⟨.i64, 3, rfl, fun e => absurd e (by omega), fun _ => ?_⟩
   refine ⟨.i64, 3, rfl, fun e => absurd e (by omega), fun _ => ?_⟩
   refine ⟨.i64, 3, rfl, fun _ => ?_, fun e => absurd rfl e⟩
   refine aa ?_
   refine ae fun r3 => ?_
   obtain ⟨A, R, hp, hA, back⟩ := OwnB.pick_g1 ho2
   refine ay (rows := aF (kl b id).s1.grave) (news := [[iV id]]) (O1 := A) (O2 := R) (e := aG) (size := 1) (bytes := 8) (by kernel_rfl) hp hA (fun Hf _ hf => Sl.block1 (hf _ List.mem_cons_self) rfl ⟨rfl, trivial⟩) (by simp [aF]; omega) (by simp [aF]; omega) ?_
   intro v' A' H6 l6 hA'
   have hA2 : OSl aG 1 v' (aF ((kl b id).s1.grave ++ [id])) A' := by rw [aF, List.map_append]; exact hA'
   have hfin := back _ _ _ hA2
   refine aa (aa (aa (aa ?_)))
   exact ah ⟨_, rfl, hfin⟩
end Go.Proofs.YtdhobpmnkfmcfaaGreatDoor
