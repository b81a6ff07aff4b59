/- strings.Builder: copyCheck and WriteString. -/
import Derived.Test.YtamgiojcbdbokaaGreatDoorD16
import Derived.Test.YtamgiojcbdbokaaGreatDoorRows
import Derived.Test.YtamgiojcbdbokaaGreatDoorTie
import Derived.Test.YtamgiojcbdbokaaGreatDoorCards
import Derived.SevenTiedAt
import Derived.Carry
import Derived.Lay
import Derived.LaidMore
import Derived.ProofKit
import Derived.Stop.Joined
import Derived.Lib.LaidTab
import Derived.Shelf.Vars
namespace Go.Proofs.YtamgiojcbdbokaaGreatDoor
open Go Go.Sx
open Go.Sx (Own)
set_option maxRecDepth 100000
set_option maxHeartbeats 1000000
abbrev kQ : TypeId := 94
theorem zt {k : Nat} {p v : Value} {T : TypeId} {O1 : Go.Sx.Own} (H : Heap) : Reads H ((k, .cells #[p, v] T (0, 0)) :: O1) (pP k) 1 [p] := .inr ⟨⟨k, 0, none⟩, #[p, v], T, rfl, rfl, List.mem_cons_self, rfl, rfl⟩
theorem zr {k : Nat} {p v : Value} {T : TypeId} {O1 : Go.Sx.Own} (H : Heap) : Reads H ((k, .cells #[p, v] T (0, 0)) :: O1) (bN (pP k) 1) 1 [v] := .inr ⟨⟨k, 1, none⟩, #[p, v], T, rfl, rfl, List.mem_cons_self, rfl, rfl⟩
theorem qy : ∃ j, PP.info? kQ = some j ∧ j.size = 2 := by
 have h : (PP.info? kQ).map (·.size) = some 2 := by kernel_rfl
 exact Option.map_eq_some_iff.1 h
theorem rB {w : World} {H : Heap} {k : Nat} {p v : Value} {F : Go.Sx.Own} (hm : Models w H ((k, .cells #[p, v] kQ (0, 0)) :: F)) : w.shape? k = some (kQ, 2) := by
 have h : w.heap[k]? = some (.cells #[p, v] kQ (0, 0)) := (hm.own (k, .cells #[p, v] kQ (0, 0)) (by simp)).1
 simp [World.shape?, h]
theorem zq {w : World} {H : Heap} {k : Nat} {p v : Value} {F : Go.Sx.Own} (hm : Models w H ((k, .cells #[p, v] kQ (0, 0)) :: F)) : ((PrimOp.convert 91 159).sem [pP k]).run PP w = .ok (.value (pP k)) w := by
 obtain ⟨j, hj, hs⟩ := qy
 have := Go.Lib.run_to_unsafe (P := PP) (src := 91) (dst := 159) (t := kQ) w ⟨k, 0, none⟩ (by kernel_rfl) (by kernel_rfl) hj (by omega) (rB hm) (by show 0 < 2; omega)
 simp only [PrimOp.sem]
 rw [Sem.run_bind]
 show Result.andThen ((convert 91 159 (.pointer (some ⟨k, 0, none⟩))).run PP w) _ = _
 rw [this]
 rfl
theorem zu {w : World} {H : Heap} {k : Nat} {p v : Value} {F : Go.Sx.Own} (hm : Models w H ((k, .cells #[p, v] kQ (0, 0)) :: F)) : ((PrimOp.convert 159 91).sem [pP k]).run PP w = .ok (.value (pP k)) w := by
 obtain ⟨j, hj, hs⟩ := qy
 have := Go.Lib.run_from_unsafe (P := PP) (src := 159) (dst := 91) (u := kQ) w ⟨k, 0, none⟩ (by kernel_rfl) (by kernel_rfl) hj (rB hm) (by kernel_rfl)
 simp only [PrimOp.sem]
 rw [Sem.run_bind]
 show Result.andThen ((convert 159 91 (.pointer (some ⟨k, 0, none⟩))).run PP w) _ = _
 rw [this]
 rfl
theorem zv (k : Nat) (w : World) : ((PrimOp.intr 92).sem [pP k]).run PP w = .ok (.value (pP k)) w :=
 xj Tryz.func92 (by kernel_rfl) (by kernel_rfl) (by kernel_rfl) (e := Extern.AbiNoEscape.same) (by kernel_rfl) (fun _ => rfl) w
section
open Go.RowKit Go.Shelf
theorem xy {k : Nat} {v : Value} (H : Heap) : RetO PP bz [pP k] H [(k, .cells #[pP k, v] kQ (0, 0))] (.tuple #[]) := by
 refine d5 fun w F hm => ?_
 obtain ⟨j, hj, hjs⟩ := qy
 have hbk : w.heap[k]? = some (.cells #[pP k, v] kQ (0, 0)) := (hm.own (k, .cells #[pP k, v] kQ (0, 0)) (by simp)).1
 have h0 : w.cell? ⟨k, 0, none⟩ = some (.pointer (some ⟨k, 0, none⟩)) := by
  rw [Lib.cell_of_heap hbk]; rfl
 have mixed : Tryz.prog.follows .mixedOrders = true := mixed
 have t91 : Tryz.prog.underlying 91 = some (.pointer kQ) := by kernel_rfl
 show Calls Tryz.prog 59 #[.pointer (some ⟨k, 0, none⟩)] w _
 go_enter Tryz.func59, Tryz.ntmps59
 go_wp2
 rw [Lib.run_neq_ptr_same w _ t91 hj]
 go_wp2
 go_end0
 exact ⟨rfl, fun _ _ => rfl, rfl⟩
end
theorem sH {k : Nat} {p v : Value} (hp : p = .pointer none ∨ p = pP k) (H : Heap) : Triple PP bz [pP k] H [(k, .cells #[p, v] kQ (0, 0))] fun r H' O' => r = .tuple #[] ∧ O' = [(k, .cells #[pP k, v] kQ (0, 0))] := by
 rcases hp with rfl | rfl
 rotate_left
 ·exact xy H
 refine ep (vs := [pP k]) (by kernel_rfl) ⟨rfl, trivial⟩ ?_
 simp only [cG]
 refine aB rfl (aB rfl ?_)
 refine ao (vs := [.pointer none]) (zt H) rfl ⟨rfl, trivial⟩ ?_
 ·refine aa (.bool true) rfl (aj (fun _ => ?_) (fun hd => by cases hd))
  refine pF (fun w F hm => zq (by simpa using hm)) rfl (vs := [pP k]) ⟨rfl, trivial⟩ ?_
  refine wX (fun w => zv k w) rfl (vs := [pP k]) ⟨rfl, trivial⟩ ?_
  refine pF (fun w F hm => zu (by simpa using hm)) rfl (vs := [pP k]) ⟨rfl, trivial⟩ ?_
  refine aB rfl (aB rfl (aB rfl ?_))
  refine ⟨_, ⟨⟨k, 0, none⟩, #[.pointer none, v], kQ, [], rfl, rfl, List.Perm.refl _, by show 0 + 1 ≤ 2; omega, rfl⟩, ?_⟩
  exact af ⟨rfl, rfl⟩
theorem tJ {P : Program} {f : FuncId} {args : List Value} {H : Heap} {O : Go.Sx.Own} {k : Nat} {T : TypeId} {cells : List Value} {R : Value → List Value → Go.Sx.Own → Prop} {shp : Shp} {K : List Value → List (List Value) → Heap → Go.Sx.Own → Prop}
  (h : Triple P f args H ((k, .cells cells.toArray T (0, 0)) :: O) fun v _ O' => ∃ cs O3, O' = (k, .cells cs.toArray T (0, 0)) :: O3 ∧ cs.length = cells.length ∧ Ones cs ∧ R v cs O3)
  (hk : ∀ v cs H' O3, R v cs O3 → Heap.le H H' → ∃ vs, shp.open v = some vs ∧ Ones vs ∧ K vs [cs] H' O3) : cO (fun H1 O1 R => Triple P f args H1 O1 R) false [] [⟨k, T, cells⟩] shp K H O := by
 intro _
 refine ⟨H, O, [], _, Ghost.perm (by simp), h, ?_⟩
 rintro v H' O' ⟨cs, O3, rfl, hl, h1, hr⟩ hle
 obtain ⟨vs, a, b, c⟩ := hk v cs H' O3 hr hle
 exact ⟨vs, [cs], O3, a, b, ⟨hl, h1, trivial⟩, rfl, by simpa using c⟩
theorem BR : ∃ i, PP.info? 5 = some i ∧ i.zero = some (.int .u8 0) ∧ i.size = 1 ∧ i.bytes = 1 := by
 have h : (PP.info? 5).map (fun i => (i.zero, i.size, i.bytes)) = some (some (.int .u8 0), 1, 1) := by kernel_rfl
 obtain ⟨i, hi, e⟩ := Option.map_eq_some_iff.1 h
 simp only [Prod.mk.injEq] at e
 exact ⟨i, hi, e.1, e.2.1, e.2.2⟩
theorem qq {k : Nat} {p v : Value} (hp : p = .pointer none ∨ p = pP k) {l s : List UInt8} (hn : l.length + s.length ≤ 1000000) (H : Heap) {O1 : Go.Sx.Own} (h : OSl 5 1 v (di l) O1) :
  Triple PP cj [pP k, Str s] H ((k, .cells [p, v].toArray kQ (0, 0)) :: O1) fun r _ O' => ∃ cs O3, O' = (k, .cells cs.toArray kQ (0, 0)) :: O3 ∧ cs.length = [p, v].length ∧ Ones cs ∧
   (r = .tuple #[iV s.length, .nilIface] ∧ ∃ v', cs = [pP k, v'] ∧ OSl 5 1 v' (di (l ++ s)) O3) := by
 refine dQ (vs := [pP k, Str s]) (by kernel_rfl) ⟨rfl, rfl, trivial⟩ ?_
 simp only [ce]
 refine cE (O1 := [(k, .cells #[p, v] kQ (0, 0))]) (O2 := O1) (List.Perm.refl _) (sH hp H) ?_
 rintro r H1 _ ⟨rfl, rfl⟩ l1
 refine ⟨[], rfl, trivial, ?_⟩
 refine aB rfl (aB rfl ?_)
 refine ao (vs := [v]) (zr H1) rfl ⟨h.one, trivial⟩ ?_
 obtain ⟨i, hi, hz, hs, hb⟩ := BR
 have ha := uH (P := PP) (ty := 92) (H := H1) zL Bq hi hz hs hb h (s := s) (by omega)
 intro _
 refine ⟨H1, O1, [(k, .cells #[pP k, v] kQ (0, 0))], _, Ghost.perm (List.perm_append_comm (l₁ := [_]) (l₂ := O1)), ha, ?_⟩
 rintro v' H2 O2 ⟨rfl, h2⟩ l2
 refine ⟨[v'], [], O2, rfl, ⟨h2.one, trivial⟩, trivial, rfl, ?_⟩
 refine aB rfl (aB rfl (aB rfl ?_))
 refine ⟨_, ⟨⟨k, 1, none⟩, #[pP k, v], kQ, O2, rfl, rfl, List.perm_append_comm (l₁ := O2) (l₂ := [_]), by show 1 + 1 ≤ 2; omega, rfl⟩, ?_⟩
 refine aa _ (uX s) ?_
 exact af ⟨[pP k, v'], O2, rfl, rfl, ⟨rfl, h2.one, trivial⟩, rfl, v', rfl, h2⟩
section
open Go.RowKit Go.Shelf
set_option maxHeartbeats 2000000 in
theorem wn {k : Nat} {p v : Value} (hp1 : p.oneCell' = true) {l : List UInt8} (hl0 : l ≠ []) (hlen : l.length ≤ 1000000) (H : Heap) {O1 : Go.Sx.Own} (h : OSl 5 1 v (di l) O1) :
  Triple PP 41 [pP k] H ((k, .cells [p, v].toArray kQ (0, 0)) :: O1) fun r _ O' => ∃ cs O3, O' = (k, .cells cs.toArray kQ (0, 0)) :: O3 ∧ cs.length = [p, v].length ∧ Ones cs ∧ (cs = [p, v] ∧ r = Str l ∧ O3 = []) := by
 intro w F hm
 rcases h with ⟨_, h0, _⟩ | ⟨g, cs, cap, rfl, rfl, hcl, hlc, hcap, hrl, ho, htk⟩
 ·cases l with
  | nil => exact absurd rfl hl0
  | cons a l => cases h0
 rw [dh] at hlc htk hm ⊢
 have hbk : w.heap[k]? = some (.cells #[p, .slice (some ⟨g, 0, none⟩) l.length cap] kQ (0, 0)) := (hm.own (k, .cells #[p, .slice (some ⟨g, 0, none⟩) l.length cap] kQ (0, 0)) (by simp)).1
 have hbg : w.heap[g]? = some (.cells cs.toArray 5 (0, 0)) := (hm.own (g, .cells cs.toArray 5 (0, 0)) (by simp)).1
 have hlp : 0 < l.length := List.length_pos_iff.2 hl0
 have c1 : w.drew.cell? ⟨k, 1, none⟩ = some (.slice (some ⟨g, 0, none⟩) l.length cap) := by
  have : w.drew.heap[k]? = some (.cells #[p, .slice (some ⟨g, 0, none⟩) l.length cap] kQ (0, 0)) := hbk
  rw [Lib.cell_of_heap this]; rfl
 have hSD : (Builtin.unsafeSliceData_ #[92] 130 #[.slice (some ⟨g, 0, none⟩) l.length cap]).run PP w.drew = .ok (.pointer (some ⟨g, 0, none⟩)) w.drew :=
  Lib.run_unsafeSliceData_row _ _ _ _ _ _ (by omega)
 have hUS : (Builtin.unsafeString_ #[130, 3] 9 #[.pointer (some ⟨g, 0, none⟩), .int .i64 l.length]).run PP w.drew = .ok (.string ⟨l.toArray⟩) (w.drew.freeze ⟨g, 0, none⟩ l.length) := by
  refine Lib.run_unsafeString_row w.drew 130 3 9 5 (by kernel_rfl) (by kernel_rfl) g cs.toArray.size (by have hg' : w.drew.heap[g]? = some (.cells cs.toArray 5 (0, 0)) := hbg; simp [World.shape?, hg']) l hl0 (by simp; omega) (by omega) ?_
  intro j x hx
  have hj : cs[j]? = some (.int .u8 x.toNat) := by
   have hjl : j < l.length := (List.getElem?_eq_some_iff.1 hx).1
   have e : (cs.take l.length)[j]? = cs[j]? := by rw [List.getElem?_take, if_pos hjl]
   rw [← e, show cs.take l.length = (di l).flatten by simpa using htk, o8]
   simp [Go.Lib.strCells, hx]
  have hg' : w.drew.heap[g]? = some (.cells cs.toArray 5 (0, 0)) := hbg
  have ea : ({ block := g, off := 0, spot := none } : Addr).add j = ⟨g, j, none⟩ := by
   unfold Addr.add
   split <;> simp_all
  rw [ea, Lib.cell_of_heap hg']
  simpa using hj
 have hmod : Models (w.drew.freeze ⟨g, 0, none⟩ l.length) H ((k, .cells #[p, .slice (some ⟨g, 0, none⟩) l.length cap] kQ (0, 0)) :: F) := by
  have hgone : ∀ j, j ≠ g → (w.drew.freeze ⟨g, 0, none⟩ l.length).heap[j]? = w.heap[j]? := fun j hj => by
   unfold World.freeze
   split
   ·rfl
   ·simp only [Array.getElem?_modify]
    rw [if_neg (Ne.symm hj)]
    rfl
  have hHg : H g = none := (hm.own (g, .cells cs.toArray 5 (0, 0)) (by simp)).2
  have hnd := hm.nodup
  simp only [List.cons_append, List.nil_append, List.map_cons, List.nodup_cons, List.mem_cons, not_or] at hnd
  refine ⟨fun b o hb => ?_, fun q hq => ?_, ?_, ?_⟩
  ·rw [hgone b (by rintro rfl; rw [hHg] at hb; cases hb)]; exact hm.pers b o hb
  ·have hq' : q ∈ (k, .cells [p, .slice (some ⟨g, 0, none⟩) l.length cap].toArray kQ (0, 0)) :: [(g, .cells cs.toArray 5 (0, 0))] ++ F := by
    rcases List.mem_cons.1 hq with rfl | hq
    ·simp
    ·simp [hq]
   have hqg : q.1 ≠ g := by
    rcases List.mem_cons.1 hq with rfl | hqF
    ·exact hnd.1.1
    ·intro e
     exact hnd.2.1 (List.mem_map.2 ⟨q, hqF, e⟩)
   rw [hgone _ hqg]
   exact hm.own q hq'
  ·simp only [List.map_cons, List.nodup_cons]
   exact ⟨hnd.1.2, hnd.2.2⟩
  ·have : cN (w.drew.freeze ⟨g, 0, none⟩ l.length) = cN w := by
    unfold World.freeze
    split <;> rfl
   rw [this]; exact hm.env
 have mixed : Tryz.prog.follows .mixedOrders = true := mixed
 show Calls Tryz.prog 41 #[.pointer (some ⟨k, 0, none⟩)] w _
 go_enter Tryz.func41, Tryz.ntmps41
 go_wp2
 go_region_o
 all_goals (go_wp2; go_ret; exact ⟨_, H, _, rfl, ⟨[p, .slice (some ⟨g, 0, none⟩) l.length cap], [], rfl, rfl, ⟨hp1, rfl, trivial⟩, rfl, rfl, rfl⟩, Heap.le_refl H, hmod⟩)
end
abbrev IP (n : Nat) (R : Nat → Value → Value → Heap → Go.Sx.Own → Prop) : List Value → Heap → Go.Sx.Own → Prop := fun vs H O => ∃ (i : Nat) (p v : Value), vs = [iV i, p, v] ∧ i ≤ n ∧ R i p v H O
abbrev MP (n : Nat) : List Value → Heap → Go.Sx.Own → Nat := fun vs _ _ => match g vs 0 with | .int _ k => n - k.toNat | _ => 0
theorem ux {P : Program} {lab key : Nat} {p0 v0 : Value} {body : (List Value → Heap → Go.Sx.Own → Prop) → List Value → Tree} {H : Heap} {O : Go.Sx.Own} {Q : Value → Heap → Go.Sx.Own → Prop} (n : Nat) (R : Nat → Value → Value → Heap → Go.Sx.Own → Prop)
  (h0 : R 0 p0 v0 H O) (step : ∀ i p v H' O', i ≤ n → Heap.le H H' → R i p v H' O' → (body (yj (IP n R) (MP n) (n - i)) [iV i, p, v]).den P Q H' O') :
  (Tree.loop lab key [iV 0, p0, v0] body).den P Q H O := by
 refine gV (IP n R) (MP n) ⟨0, p0, v0, rfl, Nat.zero_le _, h0⟩ ?_
 rintro vs H' O' _ _ hle ⟨i, p, v, rfl, hi, hr⟩
 exact step i p v H' O' hi hle hr
theorem sA {P : Program} {lab n i : Nat} {R : Nat → Value → Value → Heap → Go.Sx.Own → Prop} {p v : Value} {eqs : List (List Value × List Value)} {H : Heap} {O : Go.Sx.Own} {Q : Value → Heap → Go.Sx.Own → Prop} (he : Eqs eqs) (hi : i < n) (hr : R (i + 1) p v H O) :
  (Tree.cont lab (yj (IP n R) (MP n) (n - i)) [iV ((i + 1 : Nat) : Int), p, v] eqs).den P Q H O := by
 refine eN he ⟨i + 1, p, v, rfl, hi, hr⟩ ?_
 show n - ((i + 1 : Nat) : Int).toNat < n - i
 simp; omega
def mN (cs : List CdF) (l : List Cp) : List UInt8 × Int := if (aM cs l).2 = 0 then (mM cs l, 0) else ([], (aM cs l).2)
theorem Ag {H : Heap} {p : Value} {cs : List CdF} (h : PoolK H p cs) {v : Value} {l : List Cp} (hl : oo H v l) (hb : l.length ≤ 1000000) : RetO PP oh [p, v] H [] (.tuple #[Str (mN cs l).1, iV (mN cs l).2]) := by
 obtain ⟨h, hk⟩ := h
 refine py (vs := [p, v]) (by kernel_rfl) ⟨h.one, hl.one, trivial⟩ ?_
 simp only [nX]
 obtain ⟨vlen, _⟩ := nH hl
 refine al (qu h hl hb) rfl (vs := [iV (aM cs l).1, iV (aM cs l).2]) ⟨rfl, rfl, trivial⟩ fun H1 l1 => ?_
 refine aa _ (fw _ _) (aj (fun hd => ?_) (fun hd => ?_))
 ·have he : (aM cs l).2 ≠ 0 := by simpa using hd
  exact af ⟨by rw [mN, if_neg he]; rfl, rfl⟩
 have he : (aM cs l).2 = 0 := by simpa using hd
 have hR : mN cs l = (mM cs l, 0) := by rw [mN, if_pos he]
 have hval := (yc he).1
 have h := h.le l1
 have hl := hl.le l1
 have hll : (l.length : Int) ≤ 60 := by have := (rO hval.1).2; have := hval.2.2.2; omega
 refine ai fun r0 => ?_
 refine aa _ vlen ?_
 refine ux l.length (fun i p v H' O' => (p = .pointer none ∨ p = pP r0) ∧ OSl 5 1 v (di (mM cs (l.take i))) O' ∧ (mM cs (l.take i)).length ≤ 36 * i ∧ Heap.le H1 H') ⟨.inl rfl, OSl.nil _ _, Nat.le_refl _, Heap.le_refl _⟩ ?_
 rintro i q bv H2 O2 hi - ⟨hp, hO, hlen, l2⟩
 refine aa _ (bm _ _) (aj (fun hlt => ?_) (fun hge => ?_))
 ·have hlt : i < l.length := by have := of_decide_eq_true hlt; omega
  obtain ⟨a, k1, k2, _, _⟩ := vZ O2 (hl.le l2) hlt
  have hs := uR (cs := cs) hlt
  have hx := hval.1 _ (List.getElem_mem hlt)
  have hll2 := xf hk hx
  generalize l[i] = x at *
  obtain ⟨hin, w1, w2, _⟩ := hx
  have hnm := (xQ (hk _ (tI hin))).2
  obtain ⟨n, hn⟩ : ∃ n : Nat, x.n = (n : Int) := ⟨x.n.toNat, by omega⟩
  have hnn : x.n.toNat = n := by omega
  have hd := vY (n := n) (by omega)
  have hlv : pX cs x = Go.Lib.decDigits n ++ [32] ++ (jE cs x.card).nm ++ [10] := by rw [pX, hnn]
  refine aa _ k1 (ao k2 rfl ⟨rfl, rfl, trivial⟩ (ai fun r1 => ?_))
  refine ab (ab ?_)
  refine bA (qs (h.le l2) x.card) ?_
  rintro _ H3 _ ⟨⟨cells, rfl, c1, c2⟩, rfl⟩ l3
  have hc := c2.nm.1
  refine ⟨cells ++ [iV (gi cs x.card)], mB c1, kq c2.ones ⟨rfl, trivial⟩, ai fun r2 => ?_⟩
  refine ab (ab (ab ?_))
  rw [show g x.row 1 = iV (n : Int) from by rw [← hn]; rfl]
  refine al (zk n (by omega) _ _) rfl ⟨rfl, trivial⟩ fun H4 l4 => ?_
  rw [show g (cells ++ [iV (gi cs x.card)]) 0 = Str (jE cs x.card).nm from (ve c1 (by omega)).trans hc]
  have hi60 : i < 60 := by omega
  refine aa _ (rP (b := [32]) (by simp; omega)) ?_
  refine aa _ (rP (by simp; omega)) ?_
  refine aa _ (rP (b := [10]) (by simp; omega)) ?_
  refine tJ (k := r0) (T := 94) (cells := [q, bv]) (qq hp (by rw [← hlv]; omega) H4 hO) ?_
  rintro _ _ H5 O5 ⟨rfl, v', rfl, hO5⟩ l5
  refine ⟨[iV _, .nilIface], rfl, ⟨rfl, rfl, trivial⟩, ?_⟩
  refine aa _ (aW (by omega)) (sA (by simp [Eqs, E]) hlt ⟨.inr rfl, ?_, ?_, Heap.le_trans l2 (Heap.le_trans l3 (Heap.le_trans l4 l5))⟩)
  ·rw [hs, hlv]; exact hO5
  ·rw [hs, List.length_append]; omega
 ·have hge : l.length ≤ i := by have := of_decide_eq_false hge; omega
  rw [List.take_of_length_le hge] at hO hlen
  have hne : mM cs l ≠ [] := by
   cases l with
   | nil => exact absurd hval.2.2.1 (by decide)
   | cons x l => rw [mM, List.flatMap_cons, pX]; simp
  refine tJ (k := r0) (T := 94) (cells := [q, bv]) (wn (by rcases hp with rfl | rfl <;> rfl) hne (by omega) H2 hO) ?_
  rintro _ _ H5 _ ⟨rfl, rfl, rfl⟩ l5
  refine ⟨[Str (mM cs l)], rfl, ⟨rfl, trivial⟩, ?_⟩
  exact af ⟨by rw [hR]; rfl, rfl⟩
theorem y6 {H : Heap} {p : Value} {cs : List CdF} (h : PoolK H p cs) {v : Value} {l : List Cp} (hl : oo H v l) (hb : l.length ≤ 1000000) (s : List UInt8) (e : Int) : RetO PP cY [p, v, Str s, iV e] H [] (.bool ((mN cs l).1 == s && (mN cs l).2 == e)) := by
 refine iq (vs := [p, v, Str s, iV e]) (by kernel_rfl) ⟨h.1.one, hl.one, rfl, rfl, trivial⟩ ?_
 simp only [ez]
 refine al (Ag h hl hb) rfl (vs := [Str (mN cs l).1, iV (mN cs l).2]) ⟨rfl, rfl, trivial⟩ fun H1 l1 => ?_
 refine aa _ (uY _ _) ?_
 refine ae (ae (aa _ (av _ _) (ae (aa _ (aJ _ _) ?_))))
 exact af ⟨rfl, rfl⟩
def rc : List Cp := [⟨0, 18⟩, ⟨1, 4⟩]
theorem kv1 : aM aC rc = (-1, 0) := by decide +kernel
theorem kv2 : aM aC [⟨0, 18⟩, ⟨1, 5⟩] = (1, 7) := by decide +kernel
theorem kv3 : aM aC [⟨0, 18⟩, ⟨3, 1⟩] = (1, 3) := by decide +kernel
theorem kv4 : aM aC [⟨1, 4⟩, ⟨0, 18⟩] = (1, 2) := by decide +kernel
theorem kv5 : aM aC [⟨0, 0⟩] = (0, 2) := by decide +kernel
theorem kv6 : aM aC [⟨0, 19⟩] = (-1, 4) := by decide +kernel
theorem kv7 : aM aC [⟨0, 60⟩, ⟨2, 1⟩] = (-1, 5) := by decide +kernel
theorem kv8 : aM aC [⟨0, 61⟩] = (0, 2) := by decide +kernel
theorem AW : bJ [2, 0, 0] = [0, 0, 2] := by simp [bJ, List.mergeSort, List.MergeSort.Internal.splitInTwo, List.merge]
theorem kv9 : ofV [2, 0, 0] = ([⟨0, 2⟩, ⟨2, 1⟩], 0) := by
 rw [ofV, if_neg (by decide), if_neg (by decide), AW]
 decide +kernel
theorem BQ : ofV [-1] = ([], 2) := by decide +kernel
theorem BP : mM aC rc = [49, 56, 32, 87, 101, 108, 108, 10, 52, 32, 74, 111, 108, 116, 10] := by decide +kernel
theorem BO : oI aC 1 rc = 18 := by decide +kernel
theorem BN : oI aC 0 rc = 22 := by decide +kernel
theorem xM (a b : Int) : jT [⟨1, a⟩, ⟨0, b⟩] = [⟨0, b⟩, ⟨1, a⟩] := tV (List.Perm.swap _ _ _) (b := -1) ⟨show (-1 : Int) < 0 by decide, show (0 : Int) < 1 by decide, trivial⟩
abbrev s14 : List UInt8 := [52, 32, 74, 111, 108, 116, 10, 49, 56, 32, 87, 101, 108, 108, 10]
theorem BM : cA aC s14 = (rc, 0, 0) := by
 have h : cB aC (ct s14.length s14) [] 0 = .inl [⟨1, 4⟩, ⟨0, 18⟩] := by decide +kernel
 rw [cA, h]
 simp only []
 rw [xM, if_neg (by decide +kernel)]
 rfl
theorem BL : cA aC [49, 56, 32, 87, 101, 108, 108, 10, 52, 32, 106, 111, 108, 116, 10] = ([], 2, 9) := by decide +kernel
theorem BJ : cA aC [49, 56, 32, 87, 101, 108, 108, 10, 50, 32, 87, 101, 108, 108, 10] = ([], 2, 11) := by decide +kernel
theorem BI : cA aC [48, 52, 32, 74, 111, 108, 116, 10] = ([], 1, 6) := by decide +kernel
abbrev s18 : List UInt8 := [53, 32, 74, 111, 108, 116, 10, 49, 56, 32, 87, 101, 108, 108, 10]
theorem BH : cA aC s18 = ([], 0, 7) := by
 have h : cB aC (ct s18.length s18) [] 0 = .inl [⟨1, 5⟩, ⟨0, 18⟩] := by decide +kernel
 rw [cA, h]
 simp only []
 rw [xM, if_pos (by decide +kernel), show aM aC [⟨0, 18⟩, ⟨1, 5⟩] = (1, 7) from kv2]
theorem BG : cA aC [] = ([], 0, 4) := by decide +kernel
theorem bg {P : Program} {f : FuncId} {args : List Value} {H : Heap} {O : Go.Sx.Own} {frz : List BV} {r : Value} {shp : Shp} {vs : List Value} {K : List Value → List (List Value) → Heap → Go.Sx.Own → Prop}
  (h : ∀ Hf, Heap.le H Hf → (∀ b ∈ frz, Hf b.r = some b.obj.2) → RetO P f args Hf [] r) (ho : shp.open r = some vs) (h1 : Ones vs) (hk : ∀ H', Heap.le H H' → (∀ b ∈ frz, H' b.r = some b.obj.2) → K vs [] H' O) :
  cO (fun H1 O1 R => Triple P f args H1 O1 R) false frz [] shp K H O := by
 intro hc
 have hf := dU hc
 refine ⟨H.insAll frz, [], O, _, Ghost.refl _ _, h _ (Heap.le_insAll frz H) hf, ?_⟩
 rintro v H' O' ⟨rfl, rfl⟩ hle
 exact ⟨vs, [], [], ho, h1, trivial, rfl, hk _ (Heap.le_trans (Heap.le_insAll frz H) hle) fun b hb => hle.1 _ _ (hf b hb)⟩
theorem fN {H : Heap} {r n : Nat} {T : TypeId} (l : List Cp) (hn : n = l.length) (h : H r = some (.cells (l.map Cp.row).flatten.toArray T (0, 0))) (hb : l.length < 1000) : oo H (.slice (some ⟨r, 0, none⟩) n n) l := by
 refine rU (by simpa using hn) h (fun row hr => ?_) (fun row hr => ?_) (by rw [List.length_map]; omega)
 ·obtain ⟨c, _, rfl⟩ := List.mem_map.1 hr; rfl
 ·obtain ⟨c, _, rfl⟩ := List.mem_map.1 hr; exact ⟨rfl, rfl, trivial⟩
theorem tu {H : Heap} {r n : Nat} {T : TypeId} (l : List Int) (hn : n = l.length) (h : H r = some (.cells (ba l).flatten.toArray T (0, 0))) (hb : l.length < 1000) : Sl H 1 (.slice (some ⟨r, 0, none⟩) n n) (ba l) := by
 have hl : (ba l).length = l.length := by simp [ba]
 refine rU (hn.trans hl.symm) h (fun row hr => ?_) (fun row hr => ?_) (by omega)
 ·obtain ⟨c, _, rfl⟩ := List.mem_map.1 hr; rfl
 ·obtain ⟨c, _, rfl⟩ := List.mem_map.1 hr; exact ⟨rfl, trivial⟩
theorem lq (H : Heap) : oo H (.slice none 0 0) [] := Sl.nil _ _
theorem fA {H : Heap} {p : Value} (h : PoolK H p aC) {v : Value} {l : List Cp} (hl : oo H v l) (hb : l.length ≤ 1000000) {i e : Int} (hv : aM aC l = (i, e)) : RetO PP cJ [p, v, iV i, iV e] H [] (.bool true) := by
 have := xx h.1 hl hb i e
 rw [hv] at this
 simpa using this
theorem xY {H : Heap} {v v' : Value} {zs : List Int} {l : List Cp} (hs : Sl H 1 v (ba zs)) (h' : oo H v' l) {e : Int} (hv : ofV zs = (l, e)) : RetO PP dr [v, v', iV e] H [] (.bool true) := by
 have := ye hs h' e
 rw [hv] at this
 simpa using this
theorem yN {H : Heap} {p : Value} {cs : List CdF} (h : PoolK H p cs) {v : Value} {l : List Cp} (hl : oo H v l) (hb : l.length ≤ 1000000) {s : List UInt8} {e : Int} (hv : mN cs l = (s, e)) : RetO PP cY [p, v, Str s, iV e] H [] (.bool true) := by
 have := y6 h hl hb s e
 rw [hv] at this
 simpa using this
theorem tt {H : Heap} {p : Value} {cs : List CdF} (h : PoolK H p cs) {v : Value} {l : List Cp} (hl : oo H v l) (hb : l.length ≤ 1000000) {k i e : Int} (hv : jI cs l k = (i, e)) : RetO PP cI [p, v, iV k, iV i, iV e] H [] (.bool true) := by
 have := xw h.1 hl hb k i e
 rw [hv] at this
 simpa using this
theorem jx {H : Heap} {p v : Value} {cs : List CdF} (hp : PoolK H p cs) (hG : GlobOk H) {s : List UInt8} (hs : s.length ≤ 1000) {l : List Cp} (h' : oo H v l) {m e : Int} (hv : cA cs s = (l, m, e)) : RetO PP cH [p, Str s, v, iV m, iV e] H [] (.bool true) := by
 have := xt hp.1 hG hs h' m e
 rw [hv] at this
 simpa using this
theorem y9 {H : Heap} (hG : GlobOk H) : RetO PP eE [] H [] (.bool true) := by
 refine ir (vs := []) (by kernel_rfl) trivial ?_
 simp only [eA]
 refine bA (za H) ?_
 rintro cv H1 _ ⟨hcv, rfl⟩ l1
 refine ⟨[cv], rfl, ⟨hcv.one, trivial⟩, ?_⟩
 have hG := hG.le l1
 refine bA (Af hcv) ?_
 rintro _ H2 _ ⟨⟨p, rfl, h⟩, rfl⟩ l2
 have hG := hG.le l2
 refine ⟨[p, iV 0], rfl, ⟨h.1.one, rfl, trivial⟩, ?_⟩
 have hpp : ah (.bin .eql .ptr) [p, .pointer none] = some (.bool false) := by
  obtain ⟨r, _, _, _, rfl, _⟩ := h.1
  rfl
 refine aa _ hpp ?_
 refine ae ?_
 refine aa _ (fw _ _) ?_
 refine ae ?_
 refine aa _ (cz _ _) (aj (fun hd => by cases hd) (fun _ => ?_))
 refine ai fun r0 => ?_
 refine bg (r := .bool true) (fun Hf lf hf => fA (h.le lf) (fN rc rfl (hf _ List.mem_cons_self) (by decide)) (by decide) kv1) rfl ⟨rfl, trivial⟩ fun H3 l3 f3 => ?_
 have h := h.le l3
 have hG := hG.le l3
 have hg : oo H3 (.slice (some ⟨r0, 0, none⟩) 2 2) rc := fN rc rfl (f3 _ List.mem_cons_self) (by decide)
 refine aa _ (aD _) (aj (fun hd => by cases hd) (fun _ => ?_))
 refine ai fun r1 => ?_
 refine bg (r := .bool true) (fun Hf lf hf => fA (h.le lf) (fN [⟨0, 18⟩, ⟨1, 5⟩] rfl (hf _ List.mem_cons_self) (by decide)) (by decide) kv2) rfl ⟨rfl, trivial⟩ fun H4 l4 f4 => ?_
 have h := h.le l4
 have hG := hG.le l4
 have hg := hg.le l4
 refine aa _ (aD _) (aj (fun hd => by cases hd) (fun _ => ?_))
 refine ai fun r2 => ?_
 refine bg (r := .bool true) (fun Hf lf hf => fA (h.le lf) (fN [⟨0, 18⟩, ⟨3, 1⟩] rfl (hf _ List.mem_cons_self) (by decide)) (by decide) kv3) rfl ⟨rfl, trivial⟩ fun H5 l5 f5 => ?_
 have h := h.le l5
 have hG := hG.le l5
 have hg := hg.le l5
 refine aa _ (aD _) (aj (fun hd => by cases hd) (fun _ => ?_))
 refine ai fun r3 => ?_
 refine bg (r := .bool true) (fun Hf lf hf => fA (h.le lf) (fN [⟨1, 4⟩, ⟨0, 18⟩] rfl (hf _ List.mem_cons_self) (by decide)) (by decide) kv4) rfl ⟨rfl, trivial⟩ fun H6 l6 f6 => ?_
 have h := h.le l6
 have hG := hG.le l6
 have hg := hg.le l6
 refine aa _ (aD _) (aj (fun hd => by cases hd) (fun _ => ?_))
 refine ai fun r4 => ?_
 refine bg (r := .bool true) (fun Hf lf hf => fA (h.le lf) (fN [⟨0, 0⟩] rfl (hf _ List.mem_cons_self) (by decide)) (by decide) kv5) rfl ⟨rfl, trivial⟩ fun H7 l7 f7 => ?_
 have h := h.le l7
 have hG := hG.le l7
 have hg := hg.le l7
 refine aa _ (aD _) (aj (fun hd => by cases hd) (fun _ => ?_))
 refine ai fun r5 => ?_
 refine bg (r := .bool true) (fun Hf lf hf => fA (h.le lf) (fN [⟨0, 19⟩] rfl (hf _ List.mem_cons_self) (by decide)) (by decide) kv6) rfl ⟨rfl, trivial⟩ fun H8 l8 f8 => ?_
 have h := h.le l8
 have hG := hG.le l8
 have hg := hg.le l8
 refine aa _ (aD _) (aj (fun hd => by cases hd) (fun _ => ?_))
 refine ai fun r6 => ?_
 refine bg (r := .bool true) (fun Hf lf hf => fA (h.le lf) (fN [⟨0, 60⟩, ⟨2, 1⟩] rfl (hf _ List.mem_cons_self) (by decide)) (by decide) kv7) rfl ⟨rfl, trivial⟩ fun H9 l9 f9 => ?_
 have h := h.le l9
 have hG := hG.le l9
 have hg := hg.le l9
 refine aa _ (aD _) (aj (fun hd => by cases hd) (fun _ => ?_))
 refine ai fun r7 => ?_
 refine bg (r := .bool true) (fun Hf lf hf => fA (h.le lf) (fN [⟨0, 61⟩] rfl (hf _ List.mem_cons_self) (by decide)) (by decide) kv8) rfl ⟨rfl, trivial⟩ fun H10 l10 f10 => ?_
 have h := h.le l10
 have hG := hG.le l10
 have hg := hg.le l10
 refine aa _ (aD _) (aj (fun hd => by cases hd) (fun _ => ?_))
 refine ai fun r8 => ?_
 refine ai fun r9 => ?_
 refine bg (r := .bool true) (fun Hf lf hf => xY (tu [2, 0, 0] rfl (hf _ List.mem_cons_self) (by decide)) (fN [⟨0, 2⟩, ⟨2, 1⟩] rfl (hf _ (List.mem_cons_of_mem _ List.mem_cons_self)) (by decide)) kv9) rfl ⟨rfl, trivial⟩ fun H11 l11 f11 => ?_
 have h := h.le l11
 have hG := hG.le l11
 have hg := hg.le l11
 refine aa _ (aD _) (aj (fun hd => by cases hd) (fun _ => ?_))
 refine ai fun r10 => ?_
 refine bg (r := .bool true) (fun Hf lf hf => xY (tu [-1] rfl (hf _ List.mem_cons_self) (by decide)) (lq _) BQ) rfl ⟨rfl, trivial⟩ fun H12 l12 f12 => ?_
 have h := h.le l12
 have hG := hG.le l12
 have hg := hg.le l12
 refine aa _ (aD _) (aj (fun hd => by cases hd) (fun _ => ?_))
 refine bg (r := .bool true) (fun Hf lf hf => yN (h.le lf) (hg.le lf) (by decide) (s := [49, 56, 32, 87, 101, 108, 108, 10, 52, 32, 74, 111, 108, 116, 10]) (by rw [mN, if_pos (by rw [kv1]), BP])) rfl ⟨rfl, trivial⟩ fun H13 l13 f13 => ?_
 have h := h.le l13
 have hG := hG.le l13
 have hg := hg.le l13
 refine aa _ (aD _) (aj (fun hd => by cases hd) (fun _ => ?_))
 refine bg (r := .bool true) (fun Hf lf hf => tt (h.le lf) (hg.le lf) (by decide) (by rw [jI, if_pos (by rw [kv1]), BO])) rfl ⟨rfl, trivial⟩ fun H14 l14 f14 => ?_
 have h := h.le l14
 have hG := hG.le l14
 have hg := hg.le l14
 refine aa _ (aD _) (aj (fun hd => by cases hd) (fun _ => ?_))
 refine bg (r := .bool true) (fun Hf lf hf => tt (h.le lf) (hg.le lf) (by decide) (by rw [jI, if_pos (by rw [kv1]), BN])) rfl ⟨rfl, trivial⟩ fun H15 l15 f15 => ?_
 have h := h.le l15
 have hG := hG.le l15
 have hg := hg.le l15
 refine aa _ (aD _) (aj (fun hd => by cases hd) (fun _ => ?_))
 refine bg (r := .bool true) (fun Hf lf hf => jx (h.le lf) (hG.le lf) (s := s14) (by decide) (hg.le lf) BM) rfl ⟨rfl, trivial⟩ fun H16 l16 f16 => ?_
 have h := h.le l16
 have hG := hG.le l16
 have hg := hg.le l16
 refine aj (fun _ => ?_) (fun hd => by cases hd)
 refine bg (r := .bool true) (fun Hf lf hf => jx (h.le lf) (hG.le lf) (s := [49, 56, 32, 87, 101, 108, 108, 10, 52, 32, 106, 111, 108, 116, 10]) (by decide) (lq _) BL) rfl ⟨rfl, trivial⟩ fun H17 l17 f17 => ?_
 have h := h.le l17
 have hG := hG.le l17
 have hg := hg.le l17
 refine aj (fun _ => ?_) (fun hd => by cases hd)
 refine bg (r := .bool true) (fun Hf lf hf => jx (h.le lf) (hG.le lf) (s := [49, 56, 32, 87, 101, 108, 108, 10, 50, 32, 87, 101, 108, 108, 10]) (by decide) (lq _) BJ) rfl ⟨rfl, trivial⟩ fun H18 l18 f18 => ?_
 have h := h.le l18
 have hG := hG.le l18
 have hg := hg.le l18
 refine aj (fun _ => ?_) (fun hd => by cases hd)
 refine bg (r := .bool true) (fun Hf lf hf => jx (h.le lf) (hG.le lf) (s := [48, 52, 32, 74, 111, 108, 116, 10]) (by decide) (lq _) BI) rfl ⟨rfl, trivial⟩ fun H19 l19 f19 => ?_
 have h := h.le l19
 have hG := hG.le l19
 have hg := hg.le l19
 refine aj (fun _ => ?_) (fun hd => by cases hd)
 refine bg (r := .bool true) (fun Hf lf hf => jx (h.le lf) (hG.le lf) (s := s18) (by decide) (lq _) BH) rfl ⟨rfl, trivial⟩ fun H20 l20 f20 => ?_
 have h := h.le l20
 have hG := hG.le l20
 have hg := hg.le l20
 refine aj (fun _ => ?_) (fun hd => by cases hd)
 refine bg (r := .bool true) (fun Hf lf hf => jx (h.le lf) (hG.le lf) (s := []) (by decide) (lq _) BG) rfl ⟨rfl, trivial⟩ fun H21 l21 f21 => ?_
 exact af ⟨rfl, rfl⟩
theorem vO (xs : List Int) (x : Int) : oZ (xs ++ [x]) = mG (oZ xs) x := by rw [oZ, List.foldl_append]; rfl
theorem wv (acc : List Cp) (x : Int) : (mG acc x).getLast?.map (fun c => c.card) = some x := by
 rcases List.eq_nil_or_concat acc with rfl | ⟨init, ⟨c, m⟩, rfl⟩
 ·rfl
 ·rw [List.concat_eq_append]
  by_cases e : c = x
  ·subst e; rw [ji]; simp
  ·rw [kK e]; simp
theorem vP (xs : List Int) : (oZ xs).getLast?.map (fun c => c.card) = xs.getLast? := by
 rcases List.eq_nil_or_concat xs with rfl | ⟨init, x, rfl⟩
 ·rfl
 ·rw [List.concat_eq_append, vO, wv]; simp
theorem yR (acc : List Cp) (m k : Int) (n : Nat) : (List.replicate n m).foldl mG (acc ++ [⟨m, k⟩]) = acc ++ [⟨m, k + n⟩] := by
 induction n generalizing k with
 | zero => simp
 | succ n ih =>
  rw [List.replicate_succ, List.foldl_cons, ji, ih]
  have : k + 1 + (n : Int) = k + ((n + 1 : Nat) : Int) := by omega
  rw [this]
theorem yT (xs : List Int) (m : Int) (n : Nat) (h : m ∉ xs) : oZ (xs ++ List.replicate (n + 1) m) = oZ xs ++ [⟨m, ((n + 1 : Nat) : Int)⟩] := by
 have h1 : mG (oZ xs) m = oZ xs ++ [⟨m, 1⟩] := by
  have hl := vP xs
  rcases List.eq_nil_or_concat (oZ xs) with e | ⟨init, ⟨c, k⟩, e⟩
  ·rw [e]; rfl
  ·rw [List.concat_eq_append] at e
   rw [e] at hl ⊢
   refine kK ?_
   rintro rfl
   have hl : some c = xs.getLast? := by simpa using hl
   exact h (List.mem_of_getLast? hl.symm)
 rw [oZ, List.foldl_append, List.replicate_succ, List.foldl_cons]
 show (List.replicate n m).foldl mG (mG (oZ xs) m) = _
 rw [h1, yR]
 have : (1 : Int) + (n : Int) = ((n + 1 : Nat) : Int) := by omega
 rw [this]
theorem Ab (z : List Int) (m : Int) (h : ∀ x ∈ z, m ≤ x) : z.filter (fun x => decide (x ≤ m)) = List.replicate (z.count m) m := by
 rw [← List.filter_beq]
 refine List.filter_congr fun x hx => ?_
 have := h x hx
 by_cases e : x = m
 ·subst e; simp
 ·have : ¬ x ≤ m := by omega
  simp [e, this]
theorem xp {z : List Int} (hz : z.Pairwise (· ≤ ·)) {d m : Int} (hdm : d < m) (hall : ∀ x ∈ z, d < x → m ≤ x) : z.filter (fun x => decide (x ≤ m)) = z.filter (fun x => decide (x ≤ d)) ++ List.replicate (z.count m) m := by
 induction z with
 | nil => rfl
 | cons a z ih =>
  rw [List.pairwise_cons] at hz
  by_cases e : a ≤ d
  ·have h1 : a ≤ m := by omega
   have h2 : a ≠ m := by omega
   rw [List.filter_cons_of_pos (by simpa using h1), List.filter_cons_of_pos (by simpa using e), List.count_cons_of_ne h2, ih hz.2 fun x hx => hall x (by simp [hx])]
   rfl
  ·have hge : ∀ x ∈ a :: z, m ≤ x := by
    intro x hx
    refine hall x hx ?_
    rcases List.mem_cons.1 hx with rfl | hx
    ·omega
    ·have := hz.1 x hx; omega
   rw [Ab _ m hge, List.filter_eq_nil_iff.2 ?_]
   ·rfl
   ·intro x hx
    have := hge x hx
    simp; omega
theorem xo {z : List Int} (hz : z.Pairwise (· ≤ ·)) {d m : Int} (hdm : d < m) (hm : m ∈ z) (hall : ∀ x ∈ z, d < x → m ≤ x) : oZ (z.filter fun x => decide (x ≤ m)) = oZ (z.filter fun x => decide (x ≤ d)) ++ [⟨m, ((z.count m : Nat) : Int)⟩] := by
 rw [xp hz hdm hall]
 have hc := List.count_pos_iff.2 hm
 obtain ⟨n, hn⟩ := Nat.exists_eq_succ_of_ne_zero (Nat.ne_of_gt hc)
 rw [hn]
 refine yT _ m n fun h => ?_
 have := (List.mem_filter.1 h).2
 simp at this; omega
theorem fQ (zs : List Int) : (bJ zs).Perm zs := List.mergeSort_perm _ _
theorem wM (zs : List Int) : (bJ zs).Pairwise (· ≤ ·) := by
 have := List.pairwise_mergeSort (le := fun x y : Int => decide (x ≤ y)) (by intro a b c h1 h2; simp at *; omega) (by intro a b; simp; omega) zs
 exact this.imp fun h => by simpa using h
def upV (zs : List Int) (d : Int) : List Cp := oZ ((bJ zs).filter fun x => decide (x ≤ d))
theorem uP {zs : List Int} (h : ∀ x ∈ zs, 0 ≤ x) : upV zs (-1) = [] := by
 rw [upV, List.filter_eq_nil_iff.2]
 ·rfl
 ·intro x hx
  have := h x ((fQ zs).mem_iff.1 hx)
  simp; omega
theorem ym {zs : List Int} {d : Int} (h : ∀ x ∈ zs, x ≤ d) : upV zs d = oZ (bJ zs) := by
 rw [upV, List.filter_eq_self.2]
 intro x hx
 have := h x ((fQ zs).mem_iff.1 hx)
 simpa using this
theorem wG {zs : List Int} {d m : Int} (hdm : d < m) (hm : m ∈ zs) (hall : ∀ x ∈ zs, d < x → m ≤ x) : upV zs m = upV zs d ++ [⟨m, ((zs.count m : Nat) : Int)⟩] := by
 rw [upV, xo (wM zs) hdm ((fQ zs).mem_iff.2 hm) (fun x hx => hall x ((fQ zs).mem_iff.1 hx)), (fQ zs).count_eq]
 rfl
theorem xG (acc : List Cp) (x : Int) : (mG acc x).length ≤ acc.length + 1 := by
 rcases List.eq_nil_or_concat acc with rfl | ⟨init, ⟨c, m⟩, rfl⟩
 ·exact Nat.le_refl _
 ·rw [List.concat_eq_append]
  by_cases e : c = x
  ·subst e; rw [ji]; simp
  ·rw [kK e]; simp
theorem yS (zs : List Int) (acc : List Cp) : (zs.foldl mG acc).length ≤ acc.length + zs.length := by
 induction zs generalizing acc with
 | nil => simp
 | cons a l ih =>
  have h1 := ih (mG acc a)
  have h2 := xG acc a
  rw [List.foldl_cons, List.length_cons]
  omega
theorem yl (zs : List Int) (d : Int) : (upV zs d).length ≤ zs.length := by
 have h1 := yS ((bJ zs).filter fun x => decide (x ≤ d)) []
 have h2 := List.length_filter_le (fun x => decide (x ≤ d)) (bJ zs)
 have h3 := iF zs
 rw [upV, oZ]
 simp at h1
 omega
theorem yQ {zs : List Int} {d m : Int} (hdm : d < m) (hm : m ∈ zs) : (zs.filter fun x => decide (m < x)).length < (zs.filter fun x => decide (d < x)).length := by
 induction zs with
 | nil => cases hm
 | cons a l ih =>
  have hle : (l.filter fun x => decide (m < x)).length ≤ (l.filter fun x => decide (d < x)).length := by
   rw [← List.countP_eq_length_filter, ← List.countP_eq_length_filter]
   refine List.countP_mono_left fun x _ h => ?_
   simp at *; omega
  rcases List.mem_cons.1 hm with rfl | hm
  ·rw [List.filter_cons_of_neg (by simp), List.filter_cons_of_pos (by simpa using hdm), List.length_cons]; omega
  ·have := ih hm
   by_cases h1 : m < a
   ·rw [List.filter_cons_of_pos (by simpa using h1), List.filter_cons_of_pos (by simp; omega), List.length_cons, List.length_cons]; omega
   ·rw [List.filter_cons_of_neg (by simpa using h1)]
    by_cases h2 : d < a
    ·rw [List.filter_cons_of_pos (by simpa using h2), List.length_cons]; omega
    ·rw [List.filter_cons_of_neg (by simpa using h2)]; exact this
def vG (d : Int) (l : List Int) (m : Int) : Prop := (m = -1 ∧ ∀ x ∈ l, x ≤ d) ∨ (0 ≤ m ∧ d < m ∧ m ∈ l ∧ ∀ x ∈ l, d < x → m ≤ x)
theorem sk {d m a : Int} {l : List Int} (h : vG d l m) (ha : 0 ≤ a) : vG d (l ++ [a]) (if (decide (d < a) && (decide (m < 0) || decide (a < m))) = true then a else m) := by
 by_cases h1 : d < a
 ·rcases h with ⟨rfl, h⟩ | ⟨h0, h2, h3, h4⟩
  ·rw [if_pos (by simp [h1])]
   refine .inr ⟨ha, h1, by simp, fun x hx hd => ?_⟩
   rcases List.mem_append.1 hx with hx | hx
   ·have := h x hx; omega
   ·simp at hx; omega
  ·by_cases h5 : a < m
   ·rw [if_pos (by simp [h1, h5])]
    refine .inr ⟨ha, h1, by simp, fun x hx hd => ?_⟩
    rcases List.mem_append.1 hx with hx | hx
    ·have := h4 x hx hd; omega
    ·simp at hx; omega
   ·have h6 : ¬ m < 0 := by omega
    rw [if_neg (by simp [h5, h6])]
    refine .inr ⟨h0, h2, by simp [h3], fun x hx hd => ?_⟩
    rcases List.mem_append.1 hx with hx | hx
    ·exact h4 x hx hd
    ·simp at hx; omega
 ·rw [if_neg (by simp [h1])]
  rcases h with ⟨rfl, h⟩ | ⟨h0, h2, h3, h4⟩
  ·refine .inl ⟨rfl, fun x hx => ?_⟩
   rcases List.mem_append.1 hx with hx | hx
   ·exact h x hx
   ·simp at hx; omega
  ·refine .inr ⟨h0, h2, by simp [h3], fun x hx hd => ?_⟩
   rcases List.mem_append.1 hx with hx | hx
   ·exact h4 x hx hd
   ·simp at hx; omega
theorem AY {H : Heap} {v : Value} {zs : List Int} (hs : Sl H 1 v (ba zs)) : Triple PP dW [v] H [] (BC zs) := by
 refine jV (vs := [v]) (by kernel_rfl) ⟨hs.one, trivial⟩ ?_
 simp only [gk]
 have hl := hs.len
 have hil : (ba zs).length = zs.length := by simp [ba]
 rw [hil] at hl
 refine aa _ hl (aa _ (ge _ _) (aj (fun hd => ?_) (fun hd => ?_)))
 ·have : 60 < zs.length := by have := of_decide_eq_true hd; omega
  exact af ⟨.slice none 0 0, by rw [ofV, if_pos this], by rw [ofV, if_pos this]; exact OSl.nil _ _⟩
 have h60 : ¬ 60 < zs.length := by have := of_decide_eq_false hd; omega
 refine bS zs.length (fun i H' O' => O' = [] ∧ Heap.le H H' ∧ ∀ x ∈ zs.take i, 0 ≤ x) ⟨rfl, Heap.le_refl H, by simp⟩ ?_
 rintro i H1 O1 hi - ⟨rfl, l1, hpos⟩
 refine aa _ hl (aa _ (bm _ _) (aj (fun hlt => ?_) (fun hge => ?_)))
 ·have hlt : i < zs.length := by have := of_decide_eq_true hlt; omega
  obtain ⟨a, k1, k2, _, k3, k4⟩ := ((hs.le l1).rsl []).idx .i64 i [iV zs[i]] (by simp [ba, hlt])
  refine aa _ k1 (ao k2 k3 k4 (aa _ (bm _ _) (aj (fun hb => ?_) (fun hb => ?_))))
  ·have hd : (zs.any fun x => decide (x < 0)) = true := List.any_eq_true.2 ⟨zs[i], List.getElem_mem hlt, hb⟩
   exact af ⟨.slice none 0 0, by rw [ofV, if_neg h60, if_pos hd], by rw [ofV, if_neg h60, if_pos hd]; exact OSl.nil _ _⟩
  ·refine aa _ (aW (by omega)) (bp (by simp [Eqs, E]) hlt ⟨rfl, l1, ?_⟩)
   intro x hx
   rw [List.take_add_one, List.getElem?_eq_getElem hlt, Option.toList_some] at hx
   rcases List.mem_append.1 hx with hx | hx
   ·exact hpos x hx
   ·have hb : decide (zs[i] < 0) = false := hb
    have := of_decide_eq_false hb
    simp at hx; omega
 have hge : zs.length ≤ i := by have := of_decide_eq_false hge; omega
 rw [List.take_of_length_le hge] at hpos
 have hd : ¬ (zs.any fun x => decide (x < 0)) = true := by
  intro h
  obtain ⟨x, hx, h⟩ := List.any_eq_true.1 h
  have := hpos x hx
  have := of_decide_eq_true h
  omega
 have hV : ofV zs = (oZ (bJ zs), 0) := by rw [ofV, if_neg h60, if_neg hd]
 refine gV (fun vs H' O' => ∃ (d : Int) (sl : Value), vs = [sl, iV d] ∧ Heap.le H1 H' ∧ OSl an 2 sl ((upV zs d).map Cp.row) O') (fun vs _ _ => match g vs 1 with | .int _ k => (zs.filter fun x => decide (k < x)).length | _ => 0)
  ⟨-1, .slice none 0 0, rfl, Heap.le_refl _, by rw [uP hpos]; exact OSl.nil _ _⟩ ?_
 rintro _ H2 O2 _ _ _ ⟨d, sl, rfl, l2, hO⟩
 refine gh zs.length (fun i x H' O' => ∃ m, x = iV m ∧ O' = O2 ∧ Heap.le H2 H' ∧ vG d (zs.take i) m) ⟨-1, rfl, rfl, Heap.le_refl _, .inl ⟨rfl, by simp⟩⟩ ?_
 rintro i _ H3 O3 hi - ⟨m, rfl, rfl, l3, hm⟩
 refine aa _ hl (aa _ (bm _ _) (aj (fun hlt => ?_) (fun hge => ?_)))
 ·have hlt : i < zs.length := by have := of_decide_eq_true hlt; omega
  obtain ⟨a, k1, k2, _, k3, k4⟩ := ((hs.le (Heap.le_trans l1 (Heap.le_trans l2 l3))).rsl O3).idx .i64 i [iV zs[i]] (by simp [ba, hlt])
  have hst := sk hm (hpos _ (List.getElem_mem hlt))
  have htk : zs.take (i + 1) = zs.take i ++ [zs[i]] := by rw [List.take_add_one, List.getElem?_eq_getElem hlt, Option.toList_some]
  rw [← htk] at hst
  generalize zs[i] = z at *
  refine aa _ k1 (ao k2 k3 k4 (aa _ (ge _ _) ?_))
  refine ae ?_
  refine aa _ (bm _ _) ?_
  refine ae (ae (ae (ae (ae ?_))))
  refine ⟨_, fun _ => k1, .inr rfl, ?_⟩
  refine ae (ae ?_)
  refine ldG [iV z] rfl ⟨rfl, trivial⟩ (fun _ => k2) ?_
  refine ae (ae (ae (ae ?_)))
  refine aa _ (bm _ _) ?_
  refine ae (ae (ae ?_))
  refine aa _ (cz _ _) ?_
  refine ae ?_
  refine aa _ (aJ _ _) (aj (fun hb => ?_) (fun hb => ?_))
  ·rw [if_pos hb] at hst
   refine aa _ k1 (ao k2 k3 k4 (aa _ (aW (by omega)) (bZ (by simp [Eqs, E]) hlt ⟨z, rfl, rfl, l3, hst⟩)))
  ·rw [if_neg (by simpa using hb)] at hst
   exact aa _ (aW (by omega)) (bZ (by simp [Eqs, E]) hlt ⟨m, rfl, rfl, l3, hst⟩)
 have hge : zs.length ≤ i := by have := of_decide_eq_false hge; omega
 rw [List.take_of_length_le hge] at hm
 refine aa _ (bm _ _) (aj (fun hb => ?_) (fun hb => ?_))
 ·have hb : m < 0 := of_decide_eq_true hb
  rcases hm with ⟨_, hm⟩ | ⟨h0, _⟩
  ·rw [ym hm] at hO
   exact af ⟨sl, by rw [hV]; rfl, by rw [hV]; exact hO⟩
  ·omega
 have hb : ¬ m < 0 := of_decide_eq_false hb
 rcases hm with ⟨h0, _⟩ | ⟨_, hdm, hmem, hall⟩
 ·omega
 have hst := wG hdm hmem hall
 refine gh zs.length (fun i x H' O' => x = iV (((zs.take i).count m : Nat) : Int) ∧ O' = O3 ∧ Heap.le H3 H') ⟨rfl, rfl, Heap.le_refl _⟩ ?_
 rintro j _ H4 O4 hj - ⟨rfl, rfl, l4⟩
 refine aa _ hl (aa _ (bm _ _) (aj (fun hlt => ?_) (fun hge => ?_)))
 ·have hlt : j < zs.length := by have := of_decide_eq_true hlt; omega
  obtain ⟨a, k1, k2, _, k3, k4⟩ := ((hs.le (Heap.le_trans l1 (Heap.le_trans l2 (Heap.le_trans l3 l4)))).rsl O4).idx .i64 j [iV zs[j]] (by simp [ba, hlt])
  have htk : zs.take (j + 1) = zs.take j ++ [zs[j]] := by rw [List.take_add_one, List.getElem?_eq_getElem hlt, Option.toList_some]
  have hcl : (zs.take j).count m ≤ (zs.take j).length := List.count_le_length
  have hcl2 : (zs.take j).length ≤ j := by rw [List.length_take]; omega
  refine aa _ k1 (ao k2 k3 k4 (aa _ (av _ _) (aj (fun hb => ?_) (fun hb => ?_))))
  ·have hb : zs[j] = m := by simpa using hb
   refine aa _ (qA (by omega) (by omega)) (aa _ (aW (by omega)) (bZ (by simp [Eqs, E]) hlt ⟨?_, rfl, l4⟩))
   rw [htk, List.count_append, hb, List.count_singleton_self]; rfl
  ·have hb : zs[j] ≠ m := by simpa using hb
   refine aa _ (aW (by omega)) (bZ (by simp [Eqs, E]) hlt ⟨?_, rfl, l4⟩)
   rw [htk, List.count_append, List.count_singleton, if_neg (by simpa using hb)]; rfl
 have hge : zs.length ≤ j := by have := of_decide_eq_false hge; omega
 rw [List.take_of_length_le hge]
 have hul := yl zs d
 refine ai fun r0 => ?_
 refine b6 (rows := (upV zs d).map Cp.row) (news := [[iV m, iV ((zs.count m : Nat) : Int)]]) (O1 := O4) (O2 := []) (e := an) (size := 2) (bytes := 16) (by kernel_rfl) (by simp) hO (fun Hf _ hf => Sl.block1 (hf _ List.mem_cons_self) rfl ⟨rfl, rfl, trivial⟩) (by simp; omega) (by simp; omega) ?_
 intro v' O1' H5 l5 hO'
 rw [List.append_nil]
 refine eN (by simp [Eqs, E, Es]) ⟨m, v', rfl, Heap.le_trans l2 (Heap.le_trans l3 (Heap.le_trans l4 l5)), by rw [hst, List.map_append]; exact hO'⟩ ?_
 exact yQ hdm hmem
theorem BE {H : Heap} {v : Value} {zs : List Int} (hs : Sl H 1 v (ba zs)) : Triple PP dW [v] H [] (BB zs) := by
 refine (AY hs).ghost ?_
 rintro r H' O' _ hc ⟨sl, rfl, ho⟩
 obtain ⟨H'', g, k, _⟩ := ho.freeze (X := []) (by simpa using hc)
 exact ⟨H'', [], by simpa using g, ⟨sl, rfl, k⟩, rfl⟩
abbrev AA (r : Value) (_ : Heap) (O' : Go.Sx.Own) : Prop := r = .bool true ∧ O' = []
theorem q6 {H : Heap} (hG : GlobOk H) : (Tree.call false 9 [] [] [] .one fun l _ => .ret (g l 0) []).den PP AA H [] :=
 al (y9 hG) rfl ⟨rfl, trivial⟩ fun _ _ => af ⟨rfl, rfl⟩
theorem vy {H : Heap} {v : Value} {zs : List Int} (hG : GlobOk H) (hs : Sl H 1 v (ba zs)) : Triple PP ej [v] H [] AA := by
 refine gy (vs := [v]) (by kernel_rfl) ⟨hs.one, trivial⟩ ?_
 simp only [eh]
 have hil : (ba zs).length = zs.length := by simp [ba]
 have vlen := hs.len
 rw [hil] at vlen
 refine aa _ vlen ?_
 refine aa _ (ge _ _) (aj (fun _ => q6 hG) (fun hd => ?_))
 have hb : zs.length ≤ 100 := by have := of_decide_eq_false hd; omega
 refine b6 (rows := []) (news := ba zs) (O1 := []) (O2 := []) (e := ff) (size := 1) (bytes := 8) (by kernel_rfl) (List.Perm.refl _) (OSl.nil _ _) (fun Hf hle _ => hs.le hle) (by rw [hil]; simp; omega) (by rw [hil]; simp; omega) ?_
 intro v' O1' H1 l1 ho
 rw [List.nil_append] at ho
 rw [List.append_nil]
 refine nO ho fun H2 l2 hv' => ?_
 have l12 := Heap.le_trans l1 l2
 refine bA (BE (hs.le l12)) ?_
 rintro _ H3 _ ⟨⟨sl, rfl, hsl⟩, rfl⟩ l3
 refine ⟨[sl, iV (ofV zs).2], rfl, ⟨hsl.one, rfl, trivial⟩, ?_⟩
 refine al (ye (hv'.le l3) hsl _) rfl ⟨rfl, trivial⟩ fun H4 l4 => ?_
 have l34 := Heap.le_trans l3 l4
 refine aj (fun _ => ?_) (fun hd => by simp at hd)
 refine al (yv _ (hv'.le l34) (hs.le (Heap.le_trans l12 l34))) rfl ⟨rfl, trivial⟩ fun H5 l5 => ?_
 exact aj (fun _ => q6 (hG.le (Heap.le_trans l12 (Heap.le_trans l34 l5)))) (fun hd => by simp at hd)
end Go.Proofs.YtamgiojcbdbokaaGreatDoor
namespace Go.Proofs.YtamgiojcbdbokaaGreatDoor
open Go Go.Sx Go.ChangeShapes Go.WideShapes Go.ChangeAt Go.RowKit
set_option maxRecDepth 100000
set_option maxHeartbeats 1000000
theorem own : ownKnob Tryz.prog.godebug = none := by kernel_rfl
theorem yM : laidOutB Tryz.prog = true := by kernel_rfl
theorem sOk : dc Tryz.prog = true := by kernel_rfl
abbrev A3 : Value := .slice none 0 0
abbrev so : List (String × DataW Unit) := [("math/bits.deBruijn32tab", Rows.laid_math_bits_deBruijn32tab), ("math/bits.deBruijn64tab", Rows.laid_math_bits_deBruijn64tab), ("internal/strconv.uint64pow10", Rows.laid_internal_strconv_uint64pow10), ("unicode/utf8.acceptRanges", Rows.laid_unicode_utf8_acceptRanges), ("strconv.ErrRange", Rows.laid_strconv_ErrRange), ("strconv.ErrSyntax", Rows.laid_strconv_ErrSyntax), ("unicode/utf8.first", Rows.laid_unicode_utf8_first)]
theorem sn {P : Program} {w : World} {n : String} {d : DataW Unit} : ∀ {l : List (String × DataW Unit)} {ps : List MemPlace}, DataW.LaidVars P w l ps → (n, d) ∈ l →
  ∃ g t cs fuel p, P.globalNamed n = some g ∧ (P.globals[g]?).map (·.type) = some t ∧ w.var? P n = some cs ∧ DataW.trod (fun _ => ()) P w 0 (fun _ => true) false fuel t cs.toList = some (d, p)
 | [], _, _, h => by cases h
 | (n', d') :: l, ps, h, hm => by
  obtain ⟨g, t, cs, fuel, p, q, h1, h2, h3, h4, h5, _⟩ := h
  rcases List.mem_cons.1 hm with e | hm
  ·cases e; exact ⟨g, t, cs, fuel, p, h1, h2, h3, h4⟩
  ·exact sn h5 hm
theorem qa {P : Program} {w : World} {fuel : Nat} {t : TypeId} {cs : List Value} {x : DataW Unit × List MemPlace} {m : Array (String × TypeId)} (ht : P.underlying t = some (.interface m)) (h : DataW.trod (fun _ => ()) P w 0 (fun _ => true) false fuel t cs = some x) :
  cs = [.nilIface] ∨ ∃ u v, cs = [.iface u v] := by
 cases fuel with
 | zero => simp [DataW.trod] at h
 | succ fuel =>
  unfold DataW.trod at h
  rw [ht] at h
  split at h <;> simp_all
theorem nL {W w : World} {O : Go.Sx.Own} (hm : Models w (lH W) O) {a : Addr} {v : Value} (h : W.cell? a = some v) : w.cell? a = some v := by
 unfold World.cell? at h ⊢
 cases hb : W.heap[a.block]? with
 | none => rw [hb] at h; cases h
 | some o =>
  have := hm.pers a.block o hb
  rw [this]; rw [hb] at h; exact h
theorem wE {P : Program} {W w : World} {O : Go.Sx.Own} (hm : Models w (lH W) O) {n : String} {cs : Array Value} (h : W.var? P n = some cs) : w.var? P n = some cs := by
 unfold World.var? at h ⊢
 cases hg : P.globalNamed n with
 | none => rw [hg] at h; cases h
 | some g =>
  rw [hg] at h
  simp only [Option.bind_some] at h ⊢
  cases hb : W.heap[g]? with
  | none => rw [hb] at h; cases h
  | some o =>
   have := hm.pers g o hb
   rw [this]; rw [hb] at h; exact h
theorem tA {W : World} {n : String} {g : Nat} {t : TypeId} {d : DataW Unit} {m : Array (String × TypeId)} (hg : Tryz.prog.globalNamed n = some g) (ht : (Tryz.prog.globals[g]?).map (·.type) = some t) (hu : Tryz.prog.underlying t = some (.interface m)) {ps : List MemPlace} (h : DataW.LaidVars Tryz.prog W so ps) (hm : (n, d) ∈ so) :
  ∃ ev, W.cell? ⟨g, 0, none⟩ = some ev ∧ (ev = .nilIface ∨ ∃ te pe, ev = .iface te pe) := by
 obtain ⟨g', t', cs, fuel, p, h1, h2, h3, h4⟩ := sn h hm
 obtain rfl := Option.some.inj (hg.symm.trans h1)
 obtain rfl := Option.some.inj (ht.symm.trans h2)
 have hc := World.var?_cell hg h3 0
 rcases qa hu h4 with e | ⟨u, v, e⟩
 ·have : cs[0]? = some .nilIface := by rw [← Array.getElem?_toList, e]; rfl
  exact ⟨_, hc.trans this, .inl rfl⟩
 ·have : cs[0]? = some (.iface u v) := by rw [← Array.getElem?_toList, e]; rfl
  exact ⟨_, hc.trans this, .inr ⟨u, v, rfl⟩⟩
theorem yU {W : World} (h : laidMetH Tryz.prog so W) (hs : W.ShapedOpen Tryz.prog) : GlobOk (lH W) := by
 rw [MakeChecks.laidMetH_plain _ _ _ (by kernel_rfl)] at h
 obtain ⟨ps, hl, _, _⟩ := h
 obtain ⟨g, t, cs, fuel, p, h1, h2, h3, h4⟩ := sn (n := "internal/strconv.uint64pow10") (d := Rows.laid_internal_strconv_uint64pow10) hl (by simp)
 obtain rfl := Option.some.inj ((show Tryz.prog.globalNamed "internal/strconv.uint64pow10" = some 0 by kernel_rfl).symm.trans h1)
 have h4' : cs.toList = Go.Lib.pow10Tab.map fun z => Value.int .u64 z := by
  refine Go.Lib.cells_of_tab (e := 156) (n := 20) ?_ (by kernel_rfl) (by kernel_rfl) ?_ h4
  ·obtain rfl := Option.some.inj ((show (Tryz.prog.globals[0]?).map (·.type) = some 220 by kernel_rfl).symm.trans h2)
   kernel_rfl
  ·obtain rfl := Option.some.inj ((show (Tryz.prog.globals[0]?).map (·.type) = some 220 by kernel_rfl).symm.trans h2)
   kernel_rfl
 have ht : Go.Lib.TabIs Tryz.prog W "internal/strconv.uint64pow10" .u64 Go.Lib.pow10Tab := by
  unfold Go.Lib.TabIs
  rw [h3, ← h4', Array.toArray_toList]
 obtain ⟨m, hmx⟩ := cell_of_shapedOpen_int (g := 1) (t := 3) (zero := #[.int .i64 0]) (k := .i64) hs (Nat.le_of_ble_eq_true (by kernel_rfl)) (by kernel_rfl) rfl (by kernel_rfl) (by kernel_rfl) (by kernel_rfl)
 obtain ⟨e2, a2, b2⟩ := tA (n := "strconv.ErrSyntax") (g := 2) (t := 96) (d := Rows.laid_strconv_ErrSyntax) (by kernel_rfl) (by kernel_rfl) Tryz.underlying96 hl (by simp)
 obtain ⟨e3, a3, b3⟩ := tA (n := "strconv.ErrRange") (g := 3) (t := 96) (d := Rows.laid_strconv_ErrRange) (by kernel_rfl) (by kernel_rfl) Tryz.underlying96 hl (by simp)
 intro w O hm
 exact ⟨wE hm ht, ⟨m, nL hm hmx⟩, ⟨e2, nL hm a2, b2⟩, ⟨e3, nL hm a3, b3⟩⟩
theorem xi {H : Heap} {c : Value} (h : Leaf PP H 3 c) : ∃ x, c = iV x := let ⟨x, e, _⟩ := h.int Tryz.underlying3; ⟨x, e⟩
theorem zN {H : Heap} {size : Nat} {v : Value} {rows : List (List Value)} (h : Sl H size v rows) {r : List Value} (hr : r ∈ rows) : r.length = size := by
 obtain ⟨i, hlt, rfl⟩ := List.getElem_of_mem hr
 obtain ⟨_, _, _, h3, _⟩ := h.idx (k := .i64) (List.getElem?_eq_getElem hlt)
 exact h3
theorem xU {α : Type} {f : α → List Value} : ∀ {rows : List (List Value)}, (∀ r ∈ rows, ∃ x, r = f x) → ∃ l : List α, rows = l.map f
 | [], _ => ⟨[], rfl⟩
 | r :: rs, h => by
  obtain ⟨l, hl⟩ := xU (rows := rs) fun x hx => h x (by simp [hx])
  obtain ⟨x, rfl⟩ := h r (by simp)
  exact ⟨x :: l, by rw [hl]; rfl⟩
theorem tW {T : Type} {enc : TypeId × Value → T} {P : Program} {w : World} {base : Nat} {sp : Nat → Bool} {held : Bool} {t e : TypeId} {r : Reach} {v : Value} {d : DataW T} {p : List MemPlace} (hu : P.underlying t = some (.slice e)) (hsk : dc P = true) (htl : Nat.blt t P.types.size = true)
  (hv : Value.okWide P w r base t v) (h : DataW.Trod enc P w 0 sp held t v d p) : Leaf P (lH w) t v := by
 obtain ⟨a, len, cap, rfl⟩ := okWide_slice hu hv
 obtain ⟨fuel, hf⟩ := h
 exact ⟨fuel, jr hsk (Nat.le_of_ble_eq_true htl) hf⟩
theorem t6 {H : Heap} {v : Value} (h : Leaf PP H 33 v) : ∃ l, Sl H 1 v (ba l) := by
 obtain ⟨rows, hs, n, hw⟩ := h.slice Tryz.underlying33
 have hc : PP.cellsOf 3 = 1 := by kernel_rfl
 rw [hc] at hs
 obtain ⟨l, rfl⟩ := xU (f := fun x => [iV x]) (rows := rows) fun r hr => by
  have hl := zN hs hr
  match r, hl with
  | [c], _ =>
   obtain ⟨x, e⟩ := xi (H := H) (c := c) ⟨n, hw _ hr⟩
   exact ⟨x, by rw [e]⟩
 exact ⟨l, hs⟩
theorem xJ (s : ByteArray) : (Value.string s) = Str s.data.toList := by
 obtain ⟨d⟩ := s
 rfl
section
variable {H : Type} {enc : TypeId × Value → H}
theorem oD {a : Assume} {C : Checked} {os : Os} {f : FuncId} {fn : Func} {s : ChangeSpec} {conds : List PathCond} {apart fresh handsOn again : Bool} {X : World → Array Value → Prop}
  (hX : ∀ (w w' : World) (args : Array Value), w.heap = w'.heap → X w args → X w' args)
  (own : ownKnob C.prog.godebug = none) (started : os.Started) (noInit : C.prog.inits.idxOf? f = none) (hfn : C.prog.funcs[f]? = some fn)
  (witness : ∃ (w : World) (tape : Tape) (i : Input), w.os = os ∧ (w.forCall tape i).Shaped C.prog ∧ i.vars = [] ∧ Input.okWide C.prog (w.forCall tape i) .any w.heap.size f i ∧
   ((s.pre enc C.prog fn conds apart (w.forCall tape i).memory i.args ∧ X (w.forCall tape i).memory i.args) ∧ sizedMet enc C.prog fn (OpenSpec.ofChange s) apart (w.forCall tape i).memory i.args) ∧ a.holds C.prog (lone (Frame.enter C.prog f i.args .normal) [] (w.forCall tape i)))
  (contract : ∀ (W : World) (base : Nat) (args : Array Value) (ds gs : List (DataW H)) (before : List MemPlace),
   (∀ (j : Nat) t v, fn.params[j]? = some t → args[j]? = some v → Value.okWide C.prog W .any base t v) →
   DataW.Whole enc C.prog fn.params.toList s.vars apart W args.toList ds gs before → X W args → W.ShapedOpen C.prog →
   Calls C.prog f args W fun e W' => ∃ v, e = .returned v ∧ s.post enc C.prog fn apart fresh handsOn again W args v W') :
  ReturnsInHanded a C os f .any (fun w args => (s.pre enc C.prog fn conds apart w args ∧ X w args) ∧ sizedMet enc C.prog fn (OpenSpec.ofChange s) apart w args) (s.post enc C.prog fn apart fresh handsOn again) := by
 refine returnsInHanded_of_calls own started noInit witness ?_
 intro w tape i _ hsh _ hok hpre _
 obtain ⟨_, _, _, fn', hfn', _, _, _, _, hval⟩ := hok
 have e : fn' = fn := Option.some.inj (hfn'.symm.trans hfn)
 subst e
 obtain ⟨⟨⟨ds, gs, before, hw, _⟩, hx⟩, _⟩ := hpre
 refine (contract (w.forCall tape i) w.heap.size i.args ds gs before hval (DataW.Whole.of_heap (w' := w.forCall tape i) (by rfl) hw) (hX _ _ _ (by rfl) hx) hsh).mono fun e W' ⟨v, he, hp⟩ => ?_
 subst he
 exact ChangeSpec.post_blind hp
end
end Go.Proofs.YtamgiojcbdbokaaGreatDoor
