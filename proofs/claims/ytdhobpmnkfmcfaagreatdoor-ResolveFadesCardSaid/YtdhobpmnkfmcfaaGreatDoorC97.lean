/- ResolveFades is true. -/
import Derived.Test.YtdhobpmnkfmcfaaGreatDoorC94
import Derived.Test.YtdhobpmnkfmcfaaGreatDoorBTF
namespace Go.Proofs.YtdhobpmnkfmcfaaGreatDoor
open Go Go.Sx
set_option maxRecDepth 100000
set_option maxHeartbeats 1000000
def csF (n d : Int) : List CdX := [⟨2, [], []⟩, ⟨3, [⟨1, 1, n, 0, 0⟩, ⟨2, 0, d, 0, 0⟩], []⟩]
def bdN : Bd := Kr 20 [1, 1, 1, 1] [0]
def bdA : Bd := { bdN with s0 := { bdN.s0 with lib := [1, 2, 3] }, stack := [⟨0, 4, 1, -1, [⟨5, 0⟩]⟩] }
def bdZ (z : Int) : Bd := (dJ bdA 5 z).1
def IZ (x : Bd) (e dm d : Int) : Bool := (e == 0) && ((x.objs.length == 5) && (((x.objs.getD 4 zO).dmg == dm) && (((x.s0.hand.length : Int) == d) && ((x.s0.grave == [4]) && (x.stack.length == 0)))))
def Gk (n d z dm : Int) : Bool := IZ (Fo (csF n d) (bdZ z) 9) (Da (csF n d) (bdZ z)) dm d
theorem IW : ((List.range 20).all fun n => uw ⟨1, 1, (n : Int) + 1, 0, 0⟩) = true := by kernel_rfl
theorem Gj : ((List.range 3).all fun d => uw ⟨2, 0, (d : Int) + 1, 0, 0⟩) = true := by kernel_rfl
theorem IV : ((List.range 20).all fun n => (List.range 3).all fun d => Gk ((n : Int) + 1) ((d : Int) + 1) 2 ((n : Int) + 1)) = true := by kernel_rfl
theorem IU : ((List.range 20).all fun n => (List.range 3).all fun d => (Gk ((n : Int) + 1) ((d : Int) + 1) 0 0 && (Gk ((n : Int) + 1) ((d : Int) + 1) 1 0 && Gk ((n : Int) + 1) ((d : Int) + 1) 3 0))) = true := by kernel_rfl
theorem KI {n d z : Int} (hn : 1 ≤ n ∧ n ≤ 20) (hd : 1 ≤ d ∧ d ≤ 3) (hz : z = 0 ∨ z = 1 ∨ z = 3) : uw ⟨1, 1, n, 0, 0⟩ = true ∧ uw ⟨2, 0, d, 0, 0⟩ = true ∧ Gk n d 2 n = true ∧ Gk n d z 0 = true := by
 obtain ⟨k, rfl⟩ : ∃ k : Nat, n = (k : Int) + 1 := ⟨(n - 1).toNat, by omega⟩
 obtain ⟨j, rfl⟩ : ∃ j : Nat, d = (j : Int) + 1 := ⟨(d - 1).toNat, by omega⟩
 have hk : k ∈ List.range 20 := List.mem_range.2 (by omega)
 have hj : j ∈ List.range 3 := List.mem_range.2 (by omega)
 refine ⟨List.all_eq_true.1 IW k hk, List.all_eq_true.1 Gj j hj, List.all_eq_true.1 (List.all_eq_true.1 IV k hk) j hj, ?_⟩
 have h := List.all_eq_true.1 (List.all_eq_true.1 IU k hk) j hj
 rw [Bool.and_eq_true, Bool.and_eq_true] at h
 rcases hz with rfl | rfl | rfl
 ·exact h.1
 ·exact h.2.1
 ·exact h.2.2
theorem y2 {x : Bd} {e dm d : Int} (h : IZ x e dm d = true) : e = 0 ∧ x.objs.length = 5 ∧ x.objs[4]? = some (x.objs.getD 4 zO) ∧ (x.objs.getD 4 zO).dmg = dm ∧ (x.s0.hand.length : Int) = d ∧ x.s0.grave = [4] ∧ x.stack.length = 0 := by
 simp only [IZ, Bool.and_eq_true, beq_iff_eq] at h
 obtain ⟨a1, a2, a3, a4, a5, a6⟩ := h
 refine ⟨a1, a2, ?_, a3, a4, a5, a6⟩
 rw [List.getD_eq_getElem?_getD, List.getElem?_eq_getElem (by omega)]; rfl
theorem OF (a b : Int) : aj (.bin .lss .int) [.int .u8 a, .int .u8 b] = some (.bool (decide (a < b))) := by simp [aj, eh, dK]
theorem LN {H : Heap} {cv : Value} {cs : List CdX} (hgl : GlobOk tC H) (hk : CardsX H cv cs) (hli : fu (cs.map CdX.base) = true) {v : dr} {b : Bd} (h : BdS H v b) {n : Nat} (hz : szB n b) (hn : n ≤ 19000) (most : Int) :
  Triple PP jy [cv, .agg (am v b).toArray, iV most] H [] (QY (Fo cs b most) (Lm cs b) (Da cs b)) := by
 refine Triple.ghost (Qd hgl hk hli h hz hn most) ?_
 rintro v H' O' _ hc ⟨w, s, rfl, ho, hs⟩
 obtain ⟨H'', g, k, l⟩ := ho.freeze (X := []) (by simpa using hc)
 exact ⟨H'', [], by simpa using g, ⟨w, s, rfl, k, hs.le l⟩, rfl⟩
def I5 : List Value := [.string ⟨#[]⟩, iV 2, iV 0, iV 0, iV 0, iV 0, iV 0, iV 0, iV 0, iV 30, iV 0, .slice none 0 0, .slice none 0 0, iV 0]
def I4 (x : Value) : List Value := [.string ⟨#[]⟩, iV 3, iV 0, iV 0, iV 0, iV 0, iV 0, iV 0, iV 0, iV 0, iV 0, x, .slice none 0 0, iV 0]
theorem OQ {H : Heap} {r r0 : Nat} {T T0 : TypeId} {n d : Int} (h : H r = some (.cells (I5 ++ I4 (.slice (some ⟨r0, 0, none⟩) 2 2)).toArray T (0, 0))) (h0 : H r0 = some (.cells [iV 1, iV 1, iV n, iV 0, iV 0, iV 2, iV 0, iV d, iV 0, iV 0].toArray T0 (0, 0))) :
  CardsX H (.slice (some ⟨r, 0, none⟩) 2 2) (csF n d) := by
 have he : Sl H 5 (.slice (some ⟨r0, 0, none⟩) 2 2) (iR [⟨1, 1, n, 0, 0⟩, ⟨2, 0, d, 0, 0⟩]) :=
  Sl.of_block (all := [[iV 1, iV 1, iV n, iV 0, iV 0], [iV 2, iV 0, iV d, iV 0, iV 0]]) (m := 2) (n := 2) h0 rfl (by simp) (by simp [Ones, Value.oneCell']) (by simp) rfl (by omega)
 have hs : Sl H 14 (.slice (some ⟨r, 0, none⟩) 2 2) [I5, I4 (.slice (some ⟨r0, 0, none⟩) 2 2)] :=
  Sl.of_block (all := [I5, I4 (.slice (some ⟨r0, 0, none⟩) 2 2)]) (m := 2) (n := 2) h (by simp) (by simp [I5, I4]) (fun row hr => by
   have hr : row = I5 ∨ row = I4 (.slice (some ⟨r0, 0, none⟩) 2 2) := by simpa using hr
   rcases hr with rfl | rfl
   ·exact ⟨rfl, rfl, rfl, rfl, rfl, rfl, rfl, rfl, rfl, rfl, rfl, rfl, rfl, rfl, trivial⟩
   ·exact ⟨rfl, rfl, rfl, rfl, rfl, rfl, rfl, rfl, rfl, rfl, rfl, rfl, rfl, rfl, trivial⟩) (by simp) rfl (by omega)
 refine ⟨_, hs, rfl, fun i r c a b => ?_⟩
 match i with
 | 0 =>
  simp only [List.getElem?_cons_zero, Option.some.injEq, csF] at a b
  subst a; subst b
  exact ⟨rfl, Sl.nil _ _, [], Sl.nil _ _, rfl, fun i r l a => by simp at a⟩
 | 1 =>
  simp only [List.getElem?_cons_succ, List.getElem?_cons_zero, Option.some.injEq, csF] at a b
  subst a; subst b
  exact ⟨rfl, he, [], Sl.nil _ _, rfl, fun i r l a => by simp at a⟩
 | i + 2 => simp at a
theorem QV {H : Heap} {w : dr} (hb : BdS H w bdN) {r5 r6 r7 : Nat} {T5 T6 T7 : TypeId} (h5 : H r5 = some (.cells [iV 1, iV 2, iV 3].toArray T5 (0, 0))) (h7 : H r7 = some (.cells [iV 0, iV 4, iV 1, iV (-1), .slice (some ⟨r6, 0, none⟩) 1 1].toArray T7 (0, 0))) (h6 : H r6 = some (.cells [iV 5, iV 0].toArray T6 (0, 0))) :
  BdS H { w with l0 := .slice (some ⟨r5, 0, none⟩) 3 3, s := .slice (some ⟨r7, 0, none⟩) 1 1 } bdA := by
 have ht : Sl H 2 (.slice (some ⟨r6, 0, none⟩) 1 1) (cO [⟨5, 0⟩]) := Sl.block1 h6 rfl ⟨rfl, rfl, trivial⟩
 refine ⟨hb.objs, ⟨?_, hb.s0.hand, hb.s0.field, hb.s0.grave⟩, hb.s1, ?_, hb.queue, hb.att, hb.blocks⟩
 ·exact Sl.block (cs := [iV 1, iV 2, iV 3]) h5 ⟨rfl, rfl, rfl, trivial⟩ rfl (by omega)
 ·refine ⟨_, Sl.block1 h7 rfl ⟨rfl, rfl, rfl, rfl, rfl, trivial⟩, rfl, fun i r x a b => ?_⟩
  match i with
  | 0 =>
   simp only [List.getElem?_cons_zero, Option.some.injEq, bdA] at a b
   subst a; subst b
   exact ⟨_, rfl, ht⟩
  | i + 1 => simp at a
theorem BX {H : Heap} (hgl : GlobOk tC H) {n : Int} (hn : 0 ≤ n ∧ n ≤ 255) (z : Int) {d : Int} (hd : 0 ≤ d ∧ d ≤ 255) :
  Triple PP fE [.int .u8 n, iV z, .int .u8 d] H [] fun r _ O' => r = .bool true ∧ O' = [] := by
 refine Dm (vs := [.int .u8 n, iV z, .int .u8 d]) (by kernel_rfl) ⟨rfl, rfl, rfl, trivial⟩ ?_
 simp only [CU]
 have kn : ∀ {H'}, Heap.le H H' → dG (fun H1 O1 R => Triple PP fV [] H1 O1 R) false [] [] .one (fun l _ => (Tree.ret (g l 0) []).den PP fun r _ O' => r = .bool true ∧ O' = []) H' [] := fun hl => ao (Nv (hgl.le hl)) (by
  rintro _ H2 _ ⟨rfl, rfl⟩ l2
  exact ⟨[.bool true], rfl, ⟨rfl, trivial⟩, ah ⟨rfl, rfl⟩⟩)
 have cn : aj (.conv .i64) [.int .u8 n] = some (iV n) := LJ hn
 have cd : aj (.conv .i64) [.int .u8 d] = some (iV d) := LJ hd
 refine ab _ (OF _ _) ?_
 refine af ?_
 refine ab _ (OK _ _) ?_
 refine af ?_
 refine ab _ (aM _ _) ?_
 refine af ?_
 refine ab _ (aN _ _) ?_
 refine af ?_
 refine ab _ (aM _ _) ?_
 refine af ?_
 refine ab _ (eJ _ _) ?_
 refine af ?_
 refine ab _ (aM _ _) ?_
 refine af ?_
 refine ab _ (aA _ _) ?_
 refine af ?_
 refine ab _ (aM _ _) ?_
 refine af ?_
 refine ab _ (OF _ _) ?_
 refine af ?_
 refine ab _ (aM _ _) ?_
 refine af ?_
 refine ab _ (OK _ _) ?_
 refine af ?_
 refine ab _ (aM _ _) (ak (fun _ => ?_) (fun hc => ?_))
 ·exact kn (Heap.le_refl _)
 have hc : ((((((decide (n < 1) || decide (n > 20)) || decide (z < 0)) || decide (z > 3)) || (z == 2)) || decide (d < 1)) || decide (d > 3)) = false := hc
 simp only [Bool.or_eq_false_iff, decide_eq_false_iff_not, beq_eq_false_iff_ne] at hc
 obtain ⟨⟨⟨⟨⟨⟨c1, c2⟩, c3⟩, c4⟩, c5⟩, c6⟩, c7⟩ := hc
 have hz : z = 0 ∨ z = 1 ∨ z = 3 := by omega
 obtain ⟨v1, v2, fh, fm⟩ := KI (n := n) (d := d) (by omega) (by omega) hz
 obtain ⟨h1, h2, h3, h4, h5, h6, h7⟩ := y2 (show IZ (Fo (csF n d) (bdZ 2) 9) (Da (csF n d) (bdZ 2)) n d = true from fh)
 obtain ⟨m1, m2, m3, m4, m5, m6, m7⟩ := y2 (show IZ (Fo (csF n d) (bdZ z) 9) (Da (csF n d) (bdZ z)) 0 d = true from fm)
 have hli : fu ((csF n d).map CdX.base) = true := by kernel_rfl
 have hvA : al bdA = true := by kernel_rfl
 have hBA : bdB bdA := vO (by kernel_rfl)
 have hz2 : szB 41 (bdZ 2) := o6 (Ep (b := bdA) (by kernel_rfl)) _ _
 have hzz : szB 41 (bdZ z) := o6 (Ep (b := bdA) (by kernel_rfl)) _ _
 refine ab _ cn ?_
 refine ab _ cd ?_
 refine ae fun r0 => ae fun r1 => ae fun r2 => ae fun r3 => ?_
 refine Ae (B := []) zR fun Hf lf hf _ => ⟨_, Oz 20 (a := [1, 1, 1, 1]) (c := [0]) (Sl.block (cs := [iV 1, iV 1, iV 1, iV 1]) (hf _ List.mem_cons_self) ⟨rfl, rfl, rfl, rfl, trivial⟩ rfl (by omega)) (Sl.block (cs := [iV 0]) (hf _ (List.mem_cons_of_mem _ List.mem_cons_self)) ⟨rfl, trivial⟩ rfl (by omega)) (by simp) (by simp), ?_⟩
 rintro _ H2 _ ⟨rfl, w, rfl, hb⟩ l2
 have enew : Kq 20 [1, 1, 1, 1] [0] = (bdN, 0) := by kernel_rfl
 rw [enew] at hb ⊢
 have hb : BdS H2 w bdN := hb
 have hle2 := Heap.le_trans lf l2
 refine ⟨am w bdN ++ [iV 0], rfl, ar (an (hb.r [])) ⟨rfl, trivial⟩, ae fun r4 => ?_⟩
 refine aa ?_
 refine ab _ (aV _ _) (ak (fun hd => by cases hd) (fun _ => ?_))
 refine aa (aa ?_)
 refine ai (pn ⟨1, 1, n, 0, 0⟩ H2) rfl ⟨rfl, trivial⟩ fun H3 l3 => ?_
 rw [v1]
 refine ab _ (aB _) (ak (fun hd => by cases hd) (fun _ => ?_))
 refine aa (aa ?_)
 refine ai (pn ⟨2, 0, d, 0, 0⟩ H3) rfl ⟨rfl, trivial⟩ fun H4 l4 => ?_
 rw [v2]
 refine ab _ (aB _) (ak (fun hd => by cases hd) (fun _ => ?_))
 have hb := hb.le (Heap.le_trans l3 l4)
 have hle4 := Heap.le_trans hle2 (Heap.le_trans l3 l4)
 refine ae fun r5 => aa (ae fun r6 => ae fun r7 => ?_)
 refine aa (aa ?_)
 refine Ae (B := []) zR fun Hg lg hg _ => ?_
 have hbA := QV (hb.le lg) (hg _ List.mem_cons_self) (hg _ (List.mem_cons_of_mem _ List.mem_cons_self)) (hg _ (List.mem_cons_of_mem _ (List.mem_cons_of_mem _ List.mem_cons_self)))
 refine ⟨_, wn (o := ⟨5, 0, 1, 0, 0, 0, 0, 0, 0, false, false, false⟩) (k := 4) hbA hvA hBA (by kernel_rfl) 2 (by omega), ?_⟩
 rintro _ H5 _ ⟨⟨w5, rfl, hb5⟩, rfl⟩ l5
 have hb5 : BdS H5 w5 (bdZ 2) := hb5
 have hle5 := Heap.le_trans hle4 (Heap.le_trans lg l5)
 refine ⟨am w5 (bdZ 2), rfl, an (hb5.r []), ?_⟩
 refine Ae (B := []) zR fun Hk lk hk _ => ?_
 have hcs : CardsX Hk (.slice (some ⟨r1, 0, none⟩) 2 2) (csF n d) := OQ (hk _ List.mem_cons_self) (hk _ (List.mem_cons_of_mem _ List.mem_cons_self))
 refine ⟨_, LN (hgl.le (Heap.le_trans hle5 lk)) hcs hli (hb5.le lk) hz2 (by omega) 9, ?_⟩
 rintro _ H6 _ ⟨⟨w6, s6, rfl, hb6, hs6⟩, rfl⟩ l6
 have hle6 := Heap.le_trans hle5 (Heap.le_trans lk l6)
 have hbA6 := hbA.le (Heap.le_trans l5 (Heap.le_trans lk l6))
 rw [h1]
 refine ⟨am w6 (Fo (csF n d) (bdZ 2) 9) ++ (BG (Lm (csF n d) (bdZ 2)) s6 ++ [iV 0]), rfl, ar (an (hb6.r [])) (ar ⟨rfl, rfl, rfl, rfl, hs6.one, trivial⟩ ⟨rfl, trivial⟩), ae fun r8 => ae fun r9 => ?_⟩
 generalize Fo (csF n d) (bdZ 2) 9 = x at *
 refine aa (aa (aa ?_))
 refine ao (wn (o := ⟨5, 0, 1, 0, 0, 0, 0, 0, 0, false, false, false⟩) (k := 4) hbA6 hvA hBA (by kernel_rfl) z (by omega)) ?_
 rintro _ H7 _ ⟨⟨w7, rfl, hb7⟩, rfl⟩ l7
 have hb7 : BdS H7 w7 (bdZ z) := hb7
 refine ⟨am w7 (bdZ z), rfl, an (hb7.r []), ?_⟩
 refine ao (LN (hgl.le (Heap.le_trans hle6 l7)) (hcs.le (Heap.le_trans l6 l7)) hli hb7 hzz (by omega) 9) ?_
 rintro _ H8 _ ⟨⟨w8, s8, rfl, hb8, hs8⟩, rfl⟩ l8
 have hle8 := Heap.le_trans hle6 (Heap.le_trans l7 l8)
 have hb6 := hb6.le (Heap.le_trans l7 l8)
 rw [m1]
 refine ⟨am w8 (Fo (csF n d) (bdZ z) 9) ++ (BG (Lm (csF n d) (bdZ z)) s8 ++ [iV 0]), rfl, ar (an (hb8.r [])) (ar ⟨rfl, rfl, rfl, rfl, hs8.one, trivial⟩ ⟨rfl, trivial⟩), ae fun r10 => ae fun r11 => ?_⟩
 generalize Fo (csF n d) (bdZ z) 9 = y at *
 have xo : aj .len [w6.o] = some (iV 5) := by have := hb6.objs.len; rw [List.length_map, h2] at this; exact this
 have yo : aj .len [w8.o] = some (iV 5) := by have := hb8.objs.len; rw [List.length_map, m2] at this; exact this
 have xh : aj .len [w6.h0] = some (iV d) := by have := hb6.s0.hand.len; rw [aF, List.length_map, h5] at this; exact this
 have yh : aj .len [w8.h0] = some (iV d) := by have := hb8.s0.hand.len; rw [aF, List.length_map, m5] at this; exact this
 have xs : aj .len [w6.s] = some (iV 0) := by have := ItsR.len (hb6.stack.r []); rw [h7] at this; exact this
 have ys : aj .len [w8.s] = some (iV 0) := by have := ItsR.len (hb8.stack.r []); rw [m7] at this; exact this
 refine aa (aa ?_)
 refine ab _ (aV _ _) ?_
 refine af ?_
 refine ab _ (aV _ _) ?_
 refine af ?_
 refine ab _ (aM _ _) ?_
 refine aa (af (af ?_))
 refine ab _ xo ?_
 refine af ?_
 refine ab _ (aV _ _) ?_
 refine af ?_
 refine ab _ (aM _ _) ?_
 refine aa (af (af ?_))
 refine ab _ yo ?_
 refine af ?_
 refine ab _ (aV _ _) ?_
 refine af ?_
 refine ab _ (aM _ _) (ak (fun hd => by cases hd) (fun _ => ?_))
 obtain ⟨a, i1, i2⟩ := Bn hb6 h3
 obtain ⟨a', j1, j2⟩ := Bn hb8 m3
 have i3 : Reads H8 [] (bz (.pointer (some a)) 5) 1 [iV n] := by
  have := i2 5 1 (by omega)
  rw [← h4]; exact this
 have j3 : Reads H8 [] (bz (.pointer (some a')) 5) 1 [iV 0] := by
  have := j2 5 1 (by omega)
  rw [← m4]; exact this
 refine aa ?_
 refine ab _ i1 ?_
 refine aH rfl ?_
 refine ax i3 rfl ⟨rfl, trivial⟩ ?_
 refine ab _ cn ?_
 refine ab _ (aV _ _) ?_
 rw [show ((n : Int) != n) = false from by simp]
 refine aa (af (af ?_))
 refine ⟨.pointer (some a'), fun _ => j1, .inr rfl, ?_⟩
 refine aH rfl (af (af ?_))
 refine ⟨[iV 0], rfl, ⟨rfl, trivial⟩, fun _ => j3, ?_⟩
 refine af ?_
 refine ab _ (aV _ _) ?_
 refine af ?_
 refine ab _ (aM _ _) (ak (fun hd => by cases hd) (fun _ => ?_))
 refine aa (aa ?_)
 refine ae fun r12 => aa (ae fun r13 => ?_)
 refine aa (aa ?_)
 refine ab _ xh ?_
 refine ab _ cd ?_
 refine ab _ (aV _ _) (ak (fun hd => absurd hd (by simp)) (fun _ => ?_))
 refine aa (ae fun r14 => ?_)
 refine Cf (shp := .one) (r := .bool (x.s0.grave == [4])) (vs := [.bool (x.s0.grave == [4])]) (fun Hq lq hq => nR ((hb6.s0.grave.le lq).rsl []) ((Sl.block (cs := [iV 4]) (hq _ List.mem_cons_self) ⟨rfl, trivial⟩ rfl (by simp) : Sl Hq 1 _ (aF [4])).rsl [])) rfl ⟨rfl, trivial⟩ fun H9 l9 => ?_
 rw [h6]
 refine ab _ (aB _) ?_
 refine aa (af (af ?_))
 refine ab _ xs ?_
 refine af ?_
 refine ab _ (aV _ _) ?_
 refine af ?_
 refine ab _ (aM _ _) (ak (fun hd => by cases hd) (fun _ => ?_))
 refine aa (ae fun r15 => ?_)
 refine aa (aa ?_)
 refine ab _ yh ?_
 refine ab _ cd ?_
 refine ab _ (aV _ _) (ak (fun hd => absurd hd (by simp)) (fun _ => ?_))
 refine aa (ae fun r16 => ?_)
 refine Cf (shp := .one) (r := .bool (y.s0.grave == [4])) (vs := [.bool (y.s0.grave == [4])]) (fun Hq lq hq => nR (((hb8.s0.grave.le l9).le lq).rsl []) ((Sl.block (cs := [iV 4]) (hq _ List.mem_cons_self) ⟨rfl, trivial⟩ rfl (by simp) : Sl Hq 1 _ (aF [4])).rsl [])) rfl ⟨rfl, trivial⟩ fun H10 l10 => ?_
 rw [m6]
 refine ab _ (aB _) ?_
 refine aa (af (af ?_))
 refine ab _ ys ?_
 refine af ?_
 refine ab _ (aV _ _) ?_
 refine af ?_
 refine ab _ (aM _ _) (ak (fun hd => by cases hd) (fun _ => ?_))
 exact kn (Heap.le_trans hle8 (Heap.le_trans l9 l10))
end Go.Proofs.YtdhobpmnkfmcfaaGreatDoor
