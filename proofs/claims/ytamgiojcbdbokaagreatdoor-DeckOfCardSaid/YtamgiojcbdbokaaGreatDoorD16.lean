/- slices.Sort, Collect, Sorted at ints. -/
import Derived.Test.YtamgiojcbdbokaaGreatDoorSHA
import Derived.Shelf.GgSortFunc.InsertionK
namespace Go.Sx
open Go
theorem iW {w : World} {H : Heap} {O : Go.Sx.Own} (h : Models w H O) (os : Array Obj) : Models (Sort.grow w os) H O := by
 have keep : ∀ b (x : Obj), w.heap[b]? = some x → (w.heap ++ os)[b]? = some x := fun b x hb => by
  have hlt : b < w.heap.size := (Array.getElem?_eq_some_iff.1 hb).1
  rw [Array.getElem?_append_left hlt]; exact hb
 exact ⟨fun b x hb => keep b x (h.pers b x hb), fun p hp => ⟨keep _ _ (h.own p hp).1, (h.own p hp).2⟩, h.nodup, h.env⟩
theorem nw (d : List Int) : (d.map fun n => [iV n]).flatten.length = d.length := by
 have := az (rows := d.map fun n => [iV n]) (size := 1) (by simp)
 rwa [List.length_map, Nat.mul_one] at this
theorem q8 {d : List Int} {k : Nat} (h : k < d.length) : (d.map fun n => [iV n]).flatten[k]? = some (iV d[k]) := by
 have p := bW (rows := d.map fun n => [iV n]) (size := 1) (i := k) (row := [iV d[k]]) (by simp) (by simp [h])
 rw [Nat.mul_one] at p
 have := congrArg (fun l => l[0]?) p
 simpa [List.getElem?_take, List.getElem?_drop] using this
theorem sa (d : List Int) (cs : List Value) (h : d.length ≤ cs.length) : Sort.putCells (Value.int .i64) 0 d.toArray cs.toArray = ((d.map fun n => [iV n]).flatten ++ cs.drop d.length).toArray := by
 refine Array.ext' (List.ext_getElem? fun k => ?_)
 have hl := nw d
 simp only [Sort.putCells, Array.toList_mapIdx, List.getElem?_mapIdx, List.getElem?_append, List.size_toArray]
 by_cases hk : k < d.length
 ·rw [if_pos (by omega), List.getElem?_eq_getElem (by omega : k < cs.length), q8 hk]
  simp only [Option.map_some, Option.some.injEq]
  rw [if_pos ⟨Nat.zero_le _, by omega⟩, Nat.sub_zero, getElem!_pos _ k (by simpa using hk)]
  rfl
 ·rw [if_neg (by omega), List.getElem?_drop, show d.length + (k - (d.map fun n => [iV n]).flatten.length) = k by omega]
  rcases Nat.lt_or_ge k cs.length with hc | hc
  ·rw [List.getElem?_eq_getElem hc, Option.map_some, if_neg (by omega)]
  ·rw [List.getElem?_eq_none hc]; rfl
theorem qG {w : World} {H : Heap} {r : Nat} {cs : List Value} {T : TypeId} {O : Go.Sx.Own} (hm : Models w H ((r, .cells cs.toArray T (0, 0)) :: O)) {d : List Int} (hl : d.length ≤ cs.length) (n : Nat) (os : Array Obj) :
  Models (Sort.grow (Sort.putRow (Value.int .i64) (Sort.ahead w n) r 0 d.toArray) os) H ((r, .cells ((d.map fun n => [iV n]).flatten ++ cs.drop d.length).toArray T (0, 0)) :: O) := by
 have hrow := (hm.own (r, .cells cs.toArray T (0, 0)) (by simp)).1
 refine iW (Models.update (w := w) (w' := Sort.putRow (Value.int .i64) (Sort.ahead w n) r 0 d.toArray) (o' := .cells ((d.map fun n => [iV n]).flatten ++ cs.drop d.length).toArray T (0, 0)) hm (fun b hb => ?_) ?_ rfl) os
 ·simp [Sort.putRow, Sort.mapBlock, Sort.ahead, Array.getElem?_modify, Ne.symm hb]
 ·simp only [Sort.putRow, Sort.mapBlock, Sort.ahead, Array.getElem?_modify, if_true, hrow, Option.map_some, Sort.onCells]
  rw [sa _ _ hl]
theorem rR {w : World} {H : Heap} {r : Nat} {cs : List Value} {T : TypeId} {O : Go.Sx.Own} (hm : Models w H ((r, .cells cs.toArray T (0, 0)) :: O)) {d : List Int} (hd : (d.map fun n => [iV n]).flatten = cs.take d.length) (hl : d.length ≤ cs.length) :
  Sort.Holds (Value.int .i64) w r 0 d.toArray ∧ r < w.heap.size := by
 have hrow := (hm.own (r, .cells cs.toArray T (0, 0)) (by simp)).1
 have hlt : r < w.heap.size := (Array.getElem?_eq_some_iff.1 hrow).1
 refine ⟨fun j hj => ?_, hlt⟩
 have hj' : j < d.length := by simpa using hj
 have hv : cs[j]? = some (iV d[j]) := by
  have := congrArg (fun l => l[j]?) hd
  simp only [List.getElem?_take, if_pos hj'] at this
  rw [← this, q8 hj']
 constructor
 ·rw [getElem!_pos _ j hj]
  simp only [World.cell?, hrow, Nat.zero_add]
  simpa using hv
 ·rw [Nat.zero_add]; exact frozen_of_row w r j _ T hrow
end Go.Sx
namespace Go.Proofs.YtamgiojcbdbokaaGreatDoor
open Go Go.Sx
open Go.Sx (Own)
set_option maxRecDepth 100000
set_option maxHeartbeats 1000000
def bJ (l : List Int) : List Int := l.mergeSort fun x y => decide (x ≤ y)
theorem iF (l : List Int) : (bJ l).length = l.length := List.length_mergeSort l
theorem zf {H : Heap} {v : Value} {l : List Int} {O : Go.Sx.Own} (h : OSl ff 1 v (ba l) O) (hlen : l.length ≤ 4000000) :
  Triple PP 78 [v] H O fun r _ O' => r = .tuple #[] ∧ OSl ff 1 v (ba (bJ l)) O' := by
 have hil : (ba l).length = l.length := by simp [ba]
 rcases h with ⟨⟨a, rfl⟩, hrows, rfl⟩ | ⟨r, cs, cap, rfl, rfl, hcl, hlc, hcap, hl, ho, ht⟩
 ·have hnil : l = [] := by simpa [ba] using hrows
  subst hnil
  intro w F hm
  have hcon := AnyM.slices_Sort_int_none Tryz.sortA a 0 w
  change Calls PP 78 _ _ _ at hcon
  refine hcon.mono ?_
  rintro _ _ ⟨rfl, rfl⟩
  exact ⟨_, H, [], rfl, ⟨rfl, .inl ⟨⟨a, rfl⟩, by simp [bJ, ba], rfl⟩⟩, Heap.le_refl H, hm⟩
 ·intro w F hm
  rw [hil] at hlc ht ⊢
  have hfit : l.length ≤ cs.length := by rw [hcl]; omega
  have hm' : Models w H ((r, .cells cs.toArray ff (0, 0)) :: F) := by simpa using hm
  obtain ⟨hH, hblk⟩ := rR hm' (d := l) (by rw [Nat.mul_one] at ht; exact ht.symm) hfit
  have hcon := AnyM.slices_Sort_int Tryz.sortA r 0 cap l w hH hblk (by omega)
  change Calls PP 78 _ _ _ at hcon
  refine hcon.mono ?_
  rintro _ _ ⟨rfl, n, os, rfl⟩
  have hsl := iF l
  have hmm := qG hm' (d := bJ l) (by rw [hsl]; exact hfit) n os
  refine ⟨_, H, [(r, .cells ((ba (bJ l)).flatten ++ cs.drop (bJ l).length).toArray ff (0, 0))], rfl, ⟨rfl, .inr ⟨r, (ba (bJ l)).flatten ++ cs.drop (bJ l).length, cap, ?_, rfl, ?_, ?_, hcap, ?_, ?_, ?_⟩⟩, Heap.le_refl H, by rw [List.singleton_append]; exact hmm⟩
  ·simp [ba, hsl]
  ·rw [List.length_append, List.length_drop, show (ba (bJ l)).flatten.length = (bJ l).length from nw _, hsl, hcl]; omega
  ·simp [ba, hsl]; exact hlc
  ·intro x hx; obtain ⟨y, _, rfl⟩ := List.mem_map.1 hx; rfl
  ·intro x hx; obtain ⟨y, _, rfl⟩ := List.mem_map.1 hx; exact ⟨rfl, trivial⟩
  ·have e : (ba (bJ l)).length * 1 = (ba (bJ l)).flatten.length := by rw [show (ba (bJ l)).flatten.length = (bJ l).length from nw _]; simp [ba]
   rw [e, List.take_left]
theorem xA {H : Heap} {sv : Value} {zs : List Int} (hs : Sl H 1 sv (ba zs)) (hlen : zs.length ≤ 1000) (k1 : Nat) (T : TypeId) :
  Triple PP dt [.func (.func 79) #[] #[.pointer (some ⟨k1, 0, none⟩)]] H [(k1, .cells #[sv] T (0, 0))] fun r _ O' => OSl ff 1 r (ba (bJ zs)) O' := by
 refine iL (vs := [.func (.func 79) #[] #[.pointer (some ⟨k1, 0, none⟩)]]) (by kernel_rfl) ⟨rfl, trivial⟩ ?_
 simp only [fj]
 have hcol : Triple PP eG [.func (.func 79) #[] #[.pointer (some ⟨k1, 0, none⟩)]] H [(k1, .cells #[sv] T (0, 0))] fun r _ O' => OSl ff 1 r (ba zs) O' := by
  refine iw (vs := [.func (.func 79) #[] #[.pointer (some ⟨k1, 0, none⟩)]]) (by kernel_rfl) ⟨rfl, trivial⟩ ?_
  simp only [eC]
  refine cE (O1 := [(k1, .cells #[sv] T (0, 0))]) (O2 := []) (by simp) (sL hs hlen k1 T) ?_
  intro v H1 O3 hr l1
  exact ⟨[v], rfl, ⟨hr.one, trivial⟩, af (by rw [List.append_nil]; exact hr)⟩
 refine cE (O1 := [(k1, .cells #[sv] T (0, 0))]) (O2 := []) (by simp) hcol ?_
 intro v H1 O3 hr l1
 refine ⟨[v], rfl, ⟨hr.one, trivial⟩, ?_⟩
 rw [List.append_nil]
 refine cE (O1 := O3) (O2 := []) (by simp) (zf hr (by omega)) ?_
 rintro _ H2 O4 ⟨rfl, hr2⟩ l2
 exact ⟨[], rfl, trivial, af (by rw [List.append_nil]; exact hr2)⟩
theorem xz (v : Value) (h1 : v.oneCell' = true) (H : Heap) : Triple PP dL [v] H [] fun r _ O' => ∃ k, r = .func (.func 79) #[] #[.pointer (some ⟨k, 0, none⟩)] ∧ O' = [(k, .cells #[v] 33 (0, 0))] := by
 refine fH (vs := [v]) (by kernel_rfl) ⟨h1, trivial⟩ ?_
 simp only [dJ]
 intro r0 _
 exact ⟨H, _, Ghost.refl _ _, r0, rfl, rfl⟩
end Go.Proofs.YtamgiojcbdbokaaGreatDoor
namespace Go.Proofs.YtamgiojcbdbokaaGreatDoor
open Go Go.Sx
open Go.Sx (Own)
set_option maxRecDepth 100000
set_option maxHeartbeats 1000000
def Bj (w : World) : Prop := Go.Lib.TabIs PP w "internal/strconv.uint64pow10" .u64 Go.Lib.pow10Tab ∧ (∃ m : Int, w.cell? ⟨1, 0, none⟩ = some (.int .i64 m)) ∧
 (∃ ev, w.cell? ⟨2, 0, none⟩ = some ev ∧ (ev = .nilIface ∨ ∃ te pe, ev = .iface te pe)) ∧ (∃ ev, w.cell? ⟨3, 0, none⟩ = some ev ∧ (ev = .nilIface ∨ ∃ te pe, ev = .iface te pe))
def GlobOk (H : Heap) : Prop := ∀ w O, Models w H O → Bj w
theorem vD {w : World} {H H' : Heap} {O : Go.Sx.Own} (h : Models w H' O) (hl : Heap.le H H') : Models w H O :=
 ⟨fun b o hb => h.pers b o (hl.1 _ _ hb), fun p hp => ⟨(h.own p hp).1, by
  cases hH : H p.1 with
  | none => rfl
  | some o => have := hl.1 _ _ hH; rw [(h.own p hp).2] at this; cases this⟩, h.nodup, h.env.trans hl.2⟩
theorem GlobOk.le {H H' : Heap} (h : GlobOk H) (hl : Heap.le H H') : GlobOk H' := fun w O hm => h w O (vD hm hl)
theorem sJ (s : List UInt8) (hs : s.length < 2 ^ 62) (H : Heap) (O : Go.Sx.Own) : RetO PP 82 [Str s, .string ⟨#[10]⟩] H O (.tuple #[Str (Go.Lib.trimSuffix s [10]), .bool (Go.Lib.hasSuffix s [10])]) := by
 refine d5 fun w F hm => ?_
 refine (Tryz.strings_CutSuffix ⟨s.toArray⟩ ⟨#[10]⟩ w (by rw [hU]; omega)).mono ?_
 rintro e w' ⟨rfl, rfl⟩
 exact ⟨rfl, fun _ _ => rfl, rfl⟩
theorem Be {H : Heap} (hG : GlobOk H) (s : List UInt8) (hs : s.length < 4294967281) (O : Go.Sx.Own) : RetO PP 83 [Str s, .string ⟨#[32]⟩] H O (.tuple #[Str (Go.Lib.cut s [32]).1, Str (Go.Lib.cut s [32]).2.1, .bool (Go.Lib.cut s [32]).2.2]) := by
 refine d5 fun w F hm => ?_
 obtain ⟨_, ⟨m, hmm⟩, _⟩ := hG w _ hm
 refine (Tryz.strings_Cut ⟨s.toArray⟩ ⟨#[32]⟩ m w (by rw [hU]; omega) hmm).mono ?_
 rintro e w' ⟨rfl, n, rfl⟩
 exact ⟨rfl, fun _ _ => rfl, rfl⟩
theorem Aj {H : Heap} (hG : GlobOk H) (n : Int) (h0 : -9223372036854775808 ≤ n) (h1 : n ≤ 9223372036854775807) (O : Go.Sx.Own) : RetO PP 40 [iV n] H O (Str (Go.Lib.itoa n)) := by
 intro w F hm
 obtain ⟨ht, _⟩ := hG w _ hm
 refine (Tryz.strconv_Itoa n h0 h1 w ht).mono ?_
 rintro e w' ⟨rfl, k, os, rfl⟩
 exact ⟨_, H, O, rfl, ⟨rfl, rfl⟩, Heap.le_refl H, iW (hm.same (w' := w.drewN k) rfl rfl) os⟩
def uF (l : List UInt8) (r : Value) : Prop := match Go.Lib.atoiAll l with
 | .ok v => r = .tuple #[iV v, .nilIface]
 | _ => ∃ n q, r = .tuple #[iV n, .iface 209 q]
theorem o7 {w w' : World} {H : Heap} {O : Go.Sx.Own} (hm : Models w H O) (hb : Go.RowKit.Below w.heap.size w w') : Models w' H O :=
 xc hm (fun j hj => hb.block j hj) (by simp only [cN, hb.os, hb.tape, hb.output])
theorem Aq {H : Heap} (hG : GlobOk H) (l : List UInt8) (hs : l.length < 100000) : Triple PP 84 [Str l] H [] fun r _ O' => uF l r ∧ O' = [] := by
 intro w F hm
 obtain ⟨_, _, ⟨e2, h2, k2⟩, ⟨e3, h3, k3⟩⟩ := hG w _ hm
 rcases ha : Go.Lib.atoiAll l with v | _ | _
 ·refine (Tryz.strconv_Atoi_ok ⟨l.toArray⟩ (by rw [hU]; omega) v ha w).mono ?_
  rintro e w' ⟨rfl, rfl | ⟨t, rfl⟩⟩
  ·exact ⟨_, H, [], rfl, ⟨by rw [uF, ha], rfl⟩, Heap.le_refl H, hm⟩
  ·exact ⟨_, H, [], rfl, ⟨by rw [uF, ha], rfl⟩, Heap.le_refl H, xc hm (fun j hj => Go.Lib.bytesWorld_at_old w _ t j hj) rfl⟩
 ·refine (Tryz.strconv_Atoi_syntax ⟨l.toArray⟩ (by rw [hU]; omega) ha e2 w h2 k2).mono ?_
  rintro e w' ⟨N, rfl, _, _, hb⟩
  exact ⟨_, H, [], rfl, ⟨by rw [uF, ha]; exact ⟨_, _, rfl⟩, rfl⟩, Heap.le_refl H, o7 hm hb⟩
 ·refine (Tryz.strconv_Atoi_range ⟨l.toArray⟩ (by rw [hU]; omega) ha e3 w h3 k3).mono ?_
  rintro e w' ⟨N, rfl, _, _, hb⟩
  exact ⟨_, H, [], rfl, ⟨by rw [uF, ha]; exact ⟨_, _, rfl⟩, rfl⟩, Heap.le_refl H, o7 hm hb⟩
def yi : (Int × Int) × Int := ((0, 0), 6)
def dz (cs : List CdF) (s : List UInt8) : (Int × Int) × Int :=
 if Go.Lib.hasSuffix s [10] = false ∨ (Go.Lib.cut (Go.Lib.trimSuffix s [10]) [32]).2.2 = false ∨ (Go.Lib.cut (Go.Lib.trimSuffix s [10]) [32]).2.1 = [] then yi
 else match Go.Lib.atoiAll (Go.Lib.cut (Go.Lib.trimSuffix s [10]) [32]).1 with
  | .ok n => if Go.Lib.itoa n ≠ (Go.Lib.cut (Go.Lib.trimSuffix s [10]) [32]).1 ∨ n < 1 ∨ n > 60 then yi else (((nA cs (Go.Lib.cut (Go.Lib.trimSuffix s [10]) [32]).2.1).1, n), (nA cs (Go.Lib.cut (Go.Lib.trimSuffix s [10]) [32]).2.1).2)
  | _ => yi
def AX (q : (Int × Int) × Int) : Value := .tuple #[.agg #[iV q.1.1, iV q.1.2], iV q.2]
theorem xT {t : TypeId} {v : Value} : ∀ w, ((PrimOp.eqv .neq 96 true).sem [.iface t v, .nilIface]).run PP w = .ok (.value (.bool true)) w := fun w => by kernel_rfl
theorem yD : ∀ w, ((PrimOp.eqv .neq 96 true).sem [.nilIface, .nilIface]).run PP w = .ok (.value (.bool false)) w := fun w => by kernel_rfl
theorem wI (s : List UInt8) : (Go.Lib.trimSuffix s [10]).length ≤ s.length := by
 rw [Go.Lib.trimSuffix]
 split
 ·rw [List.length_take]; omega
 ·exact Nat.le_refl _
theorem yZ (s : List UInt8) : (Go.Lib.cut s [32]).1.length ≤ s.length ∧ (Go.Lib.cut s [32]).2.1.length ≤ s.length := by
 rw [Go.Lib.cut]
 split
 ·exact ⟨by rw [List.length_take]; omega, by rw [List.length_drop]; omega⟩
 ·exact ⟨Nat.le_refl _, Nat.zero_le _⟩
theorem zx {l : List UInt8} {n : Int} (h : Go.Lib.atoiAll l = .ok n) : -9223372036854775808 ≤ n ∧ n ≤ 9223372036854775807 := by
 unfold Go.Lib.atoiAll at h
 split at h
 ·cases h
 ·simp only [] at h
  split at h
  ·cases h
  ·cases h
  ·split at h
   ·cases h
   ·rename_i h1
    split at h
    ·cases h
    ·rename_i h2
     injection h with h
     split at h <;> omega
theorem Ae {H : Heap} {p : Value} {cs : List CdF} (h : PoolF H p cs) (hG : GlobOk H) (s : List UInt8) (hs : s.length ≤ 5000) : RetO PP oe [p, Str s] H [] (AX (dz cs s)) := by
 refine pu (vs := [p, Str s]) (by kernel_rfl) ⟨h.one, rfl, trivial⟩ ?_
 simp only [nV]
 refine ai fun r0 => ?_
 have hl1 := wI s
 obtain ⟨hl2, hl3⟩ := yZ (Go.Lib.trimSuffix s [10])
 refine al (sJ s (by omega) _ _) rfl (vs := [Str (Go.Lib.trimSuffix s [10]), .bool (Go.Lib.hasSuffix s [10])]) ⟨rfl, rfl, trivial⟩ fun H1 l1 => ?_
 have hV : dz cs s = if Go.Lib.hasSuffix s [10] = false ∨ (Go.Lib.cut (Go.Lib.trimSuffix s [10]) [32]).2.2 = false ∨ (Go.Lib.cut (Go.Lib.trimSuffix s [10]) [32]).2.1 = [] then yi
   else match Go.Lib.atoiAll (Go.Lib.cut (Go.Lib.trimSuffix s [10]) [32]).1 with
    | .ok n => if Go.Lib.itoa n ≠ (Go.Lib.cut (Go.Lib.trimSuffix s [10]) [32]).1 ∨ n < 1 ∨ n > 60 then yi else (((nA cs (Go.Lib.cut (Go.Lib.trimSuffix s [10]) [32]).2.1).1, n), (nA cs (Go.Lib.cut (Go.Lib.trimSuffix s [10]) [32]).2.1).2)
    | _ => yi := rfl
 generalize Go.Lib.trimSuffix s [10] = line at *
 generalize Go.Lib.hasSuffix s [10] = whole at *
 refine al (Be (hG.le l1) line (by omega) _) rfl (vs := [Str (Go.Lib.cut line [32]).1, Str (Go.Lib.cut line [32]).2.1, .bool (Go.Lib.cut line [32]).2.2]) ⟨rfl, rfl, rfl, trivial⟩ fun H2 l2 => ?_
 generalize (Go.Lib.cut line [32]).1 = num at *
 generalize (Go.Lib.cut line [32]).2.1 = nam at *
 generalize (Go.Lib.cut line [32]).2.2 = two at *
 have hG2 := hG.le (Heap.le_trans l1 l2)
 have h2 := h.le (Heap.le_trans l1 l2)
 refine bA (Aq hG2 num (by omega)) ?_
 rintro rr H3 _ ⟨hr, rfl⟩ l3
 have hq : ∃ (n : Int) (ev : Value) (bad : Bool), rr = .tuple #[iV n, ev] ∧ ev.oneCell' = true ∧ (∀ w, ((PrimOp.eqv .neq 96 true).sem [ev, .nilIface]).run PP w = .ok (.value (.bool bad)) w) ∧ (bad = true → ∀ m, Go.Lib.atoiAll num ≠ .ok m) ∧ (bad = false → Go.Lib.atoiAll num = .ok n) := by
  rw [uF] at hr
  rcases ha : Go.Lib.atoiAll num with v | _ | _
  ·rw [ha] at hr; exact ⟨v, .nilIface, false, hr, rfl, yD, fun e => (by cases e), fun _ => rfl⟩
  ·rw [ha] at hr; obtain ⟨n, q, e⟩ := hr; exact ⟨n, _, true, e, rfl, xT, fun _ m e => (by cases e), fun e => (by cases e)⟩
  ·rw [ha] at hr; obtain ⟨n, q, e⟩ := hr; exact ⟨n, _, true, e, rfl, xT, fun _ m e => (by cases e), fun e => (by cases e)⟩
 obtain ⟨n, ev, bad, rfl, hev, hrun, hbad, hgood⟩ := hq
 refine ⟨[iV n, ev], rfl, ⟨rfl, hev, trivial⟩, ?_⟩
 refine aa _ (aD _) ?_
 refine ae ?_
 refine aa _ (aD _) ?_
 refine ae ?_
 refine aa _ (cz _ _) ?_
 refine ae ?_
 refine aa _ (uY _ []) ?_
 refine ae ?_
 refine aa _ (cz _ _) ?_
 refine ae ?_
 refine ⟨.bool bad, fun _ => hrun, rfl, ?_⟩
 refine ae ?_
 refine aa _ (cz _ _) (aj (fun hd => ?_) (fun hd => ?_))
 ·refine ab (ab ?_)
  refine af ⟨?_, by simp⟩
  have : dz cs s = yi := by
   rw [hV]
   split
   ·rfl
   ·rename_i hc
    simp only [not_or] at hc
    obtain ⟨c1, c2, c3⟩ := hc
    have hb : bad = true := by
     have hd : (((!whole || !two) || (nam == [])) || bad) = true := hd
     have e3 : (nam == []) = false := by simpa using c3
     rw [Bool.not_eq_false] at c1 c2
     rw [c1, c2, e3] at hd
     simpa using hd
    split
    ·rename_i m hm; exact absurd hm (hbad hb m)
    ·rfl
  rw [this]; rfl
 have hd : (((!whole || !two) || (nam == [])) || bad) = false := hd
 simp only [Bool.or_eq_false_iff, Bool.not_eq_false'] at hd
 obtain ⟨⟨⟨c1, c2⟩, c3⟩, c4⟩ := hd
 have ha := hgood c4
 obtain ⟨n0, n1⟩ := zx ha
 have hV : dz cs s = if Go.Lib.itoa n ≠ num ∨ n < 1 ∨ n > 60 then yi else (((nA cs nam).1, n), (nA cs nam).2) := by
  rw [hV, if_neg (by rw [c1, c2]; simp; simpa using c3), ha]
 rw [hV]
 refine al (Aj (hG2.le l3) n n0 n1 _) rfl ⟨rfl, trivial⟩ fun H4 l4 => ?_
 refine aa _ (uW _ _) ?_
 refine ae ?_
 refine aa _ (bm _ _) ?_
 refine ae ?_
 refine aa _ (cz _ _) ?_
 refine ae ?_
 refine aa _ (ge _ _) ?_
 refine ae ?_
 refine aa _ (cz _ _) (aj (fun hd => ?_) (fun hd => ?_))
 ·refine ab (ab ?_)
  refine af ⟨?_, by simp⟩
  rw [if_pos]
  ·rfl
  have hd : ((!(Go.Lib.itoa n == num) || decide (n < 1)) || decide (n > 60)) = true := hd
  simp only [Bool.or_eq_true, decide_eq_true_eq, Bool.not_eq_true', beq_eq_false_iff_ne] at hd
  rcases hd with (hd | hd) | hd
  ·exact .inl hd
  ·exact .inr (.inl hd)
  ·exact .inr (.inr hd)
 ·have hd : ((!(Go.Lib.itoa n == num) || decide (n < 1)) || decide (n > 60)) = false := hd
  simp only [Bool.or_eq_false_iff, decide_eq_false_iff_not, Bool.not_eq_false', beq_iff_eq] at hd
  rw [if_neg (by rintro (h | h | h); exact h hd.1.1; exact hd.1.2 h; exact hd.2 h)]
  refine al (Am (h2.le (Heap.le_trans l3 l4)) nam _) rfl (vs := [iV (nA cs nam).1, iV (nA cs nam).2]) ⟨rfl, rfl, trivial⟩ fun H5 l5 => ?_
  refine ab (ab ?_)
  exact af ⟨rfl, by simp⟩
def dT (s : List UInt8) : Nat := if 0 ≤ Go.Lib.indexByte s 10 then (Go.Lib.indexByte s 10).toNat + 1 else s.length
def ct : Nat → List UInt8 → List (List UInt8)
 | 0, _ => []
 | n + 1, s => if s = [] then [] else s.take (dT s) :: ct n (s.drop (dT s))
theorem jw {s : List UInt8} (h : s ≠ []) : 1 ≤ dT s ∧ dT s ≤ s.length := by
 have hp := List.length_pos_iff.2 h
 rw [dT]
 split
 ·rename_i h0
  have h1 := (Go.Lib.indexByte_some (l := s) (c := 10) (o := (Go.Lib.indexByte s 10).toNat) (by omega)).1
  have h2 : (Go.Lib.indexByte s 10).toNat < s.length := (List.getElem?_eq_some_iff.1 h1).1
  omega
 ·omega
theorem jZ : ∀ (m : Nat) (s : List UInt8), s.length ≤ m → ct m s = ct s.length s
 | 0, s, h => by rw [List.eq_nil_of_length_eq_zero (Nat.le_zero.1 h)]; rfl
 | m + 1, s, h => by
  by_cases hs : s = []
  ·subst hs; rfl
  ·obtain ⟨h1, h2⟩ := jw hs
   have hp := List.length_pos_iff.2 hs
   obtain ⟨k, hk⟩ : ∃ k, s.length = k + 1 := ⟨s.length - 1, by omega⟩
   rw [hk, ct, ct, if_neg hs, if_neg hs, jZ m _ (by rw [List.length_drop]; omega), jZ k _ (by rw [List.length_drop]; omega)]
theorem nv {s : List UInt8} (h : s ≠ []) : ct s.length s = s.take (dT s) :: ct (s.drop (dT s)).length (s.drop (dT s)) := by
 obtain ⟨h1, h2⟩ := jw h
 have hp := List.length_pos_iff.2 h
 obtain ⟨k, hk⟩ : ∃ k, s.length = k + 1 := ⟨s.length - 1, by omega⟩
 rw [hk, ct, if_neg h, jZ k _ (by rw [List.length_drop]; omega)]
theorem Ax {b : ByteArray} {l : List UInt8} (h : b.toList = l) : b = ⟨l.toArray⟩ := by
 rw [ByteArray.toList_eq] at h
 obtain ⟨d⟩ := b
 simp only at h
 rw [← h, Array.toArray_toList]
theorem xq (s : List UInt8) (n : Nat) : (⟨s.toArray⟩ : ByteArray).extract 0 n = ⟨(s.take n).toArray⟩ := by
 refine Ax ?_
 rw [Go.Lib.extract_toList]
 simp
theorem xr (s : List UInt8) (n : Nat) : (⟨s.toArray⟩ : ByteArray).extract n s.length = ⟨(s.drop n).toArray⟩ := by
 refine Ax ?_
 rw [Go.Lib.extract_toList, List.take_of_length_le (by simp)]
section
open Go.RowKit Go.Shelf
attribute [local go_sem] Oper.semAt_some
set_option maxHeartbeats 2000000 in
theorem yk (l k1 : Nat) (K : List (List UInt8) → List UInt8 → World → Prop) (Kx : World → Prop)
  (hbox : ∀ pre rest W, K pre rest W → W.cell? ⟨k1, 0, none⟩ = some (.string ⟨rest.toArray⟩) ∧ W.frozen? ⟨k1, 0, none⟩ = false ∧ rest.length < 100000)
  (hset : ∀ pre rest rest' W, K pre rest W → rest'.length ≤ rest.length → K pre rest' (W.setCell ⟨k1, 0, none⟩ (.string ⟨rest'.toArray⟩))) (hdrew : ∀ pre rest W, K pre rest W → K pre rest W.drew)
  (all : List (List UInt8)) (hY : ∀ pre x rest W, (pre ++ [x]) <+: all → K pre rest W → YieldAt Fence.wide (1 - 1) Tryz.prog l #[.string ⟨x.toArray⟩] W fun e W' => (e = .returned (.bool true) ∧ K (pre ++ [x]) rest W') ∨ (e = .returned (.bool false) ∧ Kx W'))
  (s : List UInt8) (hall : all = ct s.length s) (W : World) (h0 : K [] s W) :
  CallsIn Fence.wide 1 Tryz.prog 80 #[.func (.yield l) #[] #[], .pointer (some ⟨k1, 0, none⟩)] W fun e W' => (∃ v, e = .returned v) ∧ ((∃ rest, K all rest W') ∨ Kx W') := by
 have hn : 1 ≤ 1 := Nat.le_refl 1
 have hmix : Tryz.prog.follows .mixedOrders = true := mixed
 refine callsIn_of_wp Tryz.func80 rfl trivial ?_ rfl
 simp only [Tryz.ntmps80, List.size_toArray, List.length_cons, List.length_nil, Nat.reduceAdd, Nat.reduceSub, Array.replicate_succ, Array.replicate_zero, List.push_toArray, List.append_toArray, List.nil_append, List.cons_append]
 gi_wp2
 gi_loopw [] (fun wr => ∃ pre rest, K pre rest wr ∧ all = pre ++ ct rest.length rest)
  (fun wr => match wr.cell? ⟨k1, 0, none⟩ with | some (.string b) => b.size | _ => 0)
 case atStart => exact ⟨[], s, h0, by simpa using hall⟩
 case round =>
  obtain ⟨pre, rest, hK, hsp⟩ := hrel
  obtain ⟨hb, hfz, hlen⟩ := hbox _ _ _ hK
  have hidx : ∀ W', Calls Tryz.prog 81 #[.string ⟨rest.toArray⟩, .int .u8 10] W' fun e w' => e = .returned (.int .i64 (Go.Lib.indexByte rest 10)) ∧ w' = W' := fun W' => Tryz.strings_IndexByte ⟨rest.toArray⟩ 10 W'
  by_cases hr : rest = []
  ·subst hr
   have hK' : K all [] wr := by
    have e : all = pre := by rw [hsp]; simp [ct]
    rw [e]; exact hK
   gi_wp2
   go_end0
   exact ⟨⟨_, rfl⟩, .inl ⟨[], hK'⟩⟩
  ·have hsz : 0 < rest.length := List.length_pos_iff.2 hr
   generalize hi : Go.Lib.indexByte rest 10 = ix at *
   by_cases h0 : 0 ≤ ix
   ·obtain ⟨n, rfl⟩ : ∃ n : Nat, ix = (n : Int) := ⟨ix.toNat, by omega⟩
    have hle : dT rest = n + 1 := by rw [dT, hi, if_pos (by omega)]; omega
    have hn1 : n + 1 ≤ rest.length := by rw [← hle]; exact (jw hr).2
    have hn2 : ((n : Int) + 1) ≤ (rest.length : Int) := by omega
    have hall2 := nv hr
    rw [hle] at hall2
    rw [hall2] at hsp
    obtain ⟨fn, tmps, assign, body, hy, hR⟩ := hY pre (rest.take (n + 1)) (rest.drop (n + 1)) _ (by rw [hsp]; exact ⟨_, by rw [List.append_assoc]; rfl⟩) (hdrew _ _ _ (hset pre rest (rest.drop (n + 1)) wr hK (by rw [List.length_drop]; omega)))
    gi_wp2_with (refine ⟨trivial, ?_⟩; gi_at_call 81; refine (callsIn_wide.2 (hidx _)).mono ?_; rintro e w' ⟨rfl, rfl⟩)
    gi_region_o
    rw [xq, xr]
    gi_wp2
    refine hR.mono ?_
    rintro e W3 (⟨rfl, hJ3⟩ | ⟨rfl, hJx3⟩)
    ·obtain ⟨hb3, _, _⟩ := hbox _ _ _ hJ3
     gi_wp2
     go_roundw
     case rel => exact ⟨_, _, hJ3, by rw [hsp, List.append_assoc]; rfl⟩
     case measure => rw [hb3, hb]; simp [ByteArray.size]; omega
    ·gi_wp2
     refine bodyPost_ret (results_none rfl _ _ _) rfl ?_
     exact ⟨⟨_, rfl⟩, .inr hJx3⟩
   ·have hle : dT rest = rest.length := by rw [dT, hi, if_neg h0]
    have hall2 := nv hr
    rw [hle, List.take_length, List.drop_length] at hall2
    rw [hall2] at hsp
    have hix : ix < 0 := by omega
    obtain ⟨fn, tmps, assign, body, hy, hR⟩ := hY pre rest [] _ (by rw [hsp]; exact ⟨_, by rw [List.append_assoc]; rfl⟩) (hset pre rest [] wr hK (Nat.zero_le _))
    gi_wp2_with (refine ⟨trivial, ?_⟩; gi_at_call 81; refine (callsIn_wide.2 (hidx _)).mono ?_; rintro e w' ⟨rfl, rfl⟩)
    refine hR.mono ?_
    rintro e W3 (⟨rfl, hJ3⟩ | ⟨rfl, hJx3⟩)
    ·obtain ⟨hb3, _, _⟩ := hbox _ _ _ hJ3
     gi_wp2
     go_roundw
     case rel => exact ⟨_, _, hJ3, by rw [hsp, List.append_assoc]; rfl⟩
     case measure => rw [hb3, hb]; simp [ByteArray.size]; omega
    ·gi_wp2
     refine bodyPost_ret (results_none rfl _ _ _) rfl ?_
     exact ⟨⟨_, rfl⟩, .inr hJx3⟩
end
noncomputable def c33 : Code := (Tryz.f33.body).getD .skip
noncomputable abbrev f33 : Func := Tryz.f33
def h33 (r0 r1 r2 r3 : Nat) (p fv : Value) : SS := { sz := 52, tmps := fun t => if t = 2 then .s (.at (.p 0 r0 0)) else if t = 4 then .s (.at (.p 1 r1 0)) else if t = 5 then .s (.at (.p 2 r2 0)) else if t = 6 then .s (.at (.p 3 r3 0)) else if t = 15 then .s (.at (.v fv)) else .s (.at .any), mem := fun n => if n = 0 then some ⟨r0, 24, [.v p]⟩ else if n = 1 then some ⟨r1, 23, [.any]⟩ else if n = 2 then some ⟨r2, 3, [.any]⟩ else if n = 3 then some ⟨r3, 31, [.any]⟩ else none, next := 50 }
abbrev yP (r0 r1 r2 r3 : Nat) (p : Value) : List (Nat × Bx × List Nat × Nat) := [(0, ⟨r0, 24, [.v p]⟩, [], 0), (1, ⟨r1, 23, [.any]⟩, [0], 0), (2, ⟨r2, 3, [.any]⟩, [0], 1), (3, ⟨r3, 31, [.any]⟩, [0], 2)]
def AG (s : SS) : Value := match s.tmps 15 with | .s x => x.den | _ => .nilIface
noncomputable def zR (vs : List Value) (QC : Nat → Nat → Nat → Nat → Value → List Value → Heap → Go.Sx.Own → Prop) : Tree := sx PP opK (ke c33) (e9 PP f33 vs) (fun s => sx PP opK (ke (ek c33)) s (fun s => sx PP opK (ke (ke (ek (ek c33)))) s
 (fun s => dn 0 (QC (rOf s 2) (rOf s 4) (rOf s 5) (rOf s 6) (AG s)) [] [2, 4, 5, 6, 15] (yP (rOf s 2) (rOf s 4) (rOf s 5) (rOf s 6) (g vs 0)) (h33 (rOf s 2) (rOf s 4) (rOf s 5) (rOf s 6) (g vs 0) (AG s)) s) (fun _ => none) (fun _ => .stuck 1)) (fun _ => none) (dB PP f33)) (fun _ => none) (fun _ => .stuck 1)
noncomputable def R33 (r0 r1 r2 r3 : Nat) (p fv : Value) (Rel : List (List UInt8) → List Value → Heap → Go.Sx.Own → Prop) (RelX : List Value → Heap → Go.Sx.Own → Prop) : RangeLoop PP opK (List UInt8) := { h := h33 r0 r1 r2 r3 p fv, keep := [2, 4, 5, 6, 15], hb := yP r0 r1 r2 r3 p, p := 16, enc := fun x => .string ⟨x.toArray⟩, assign := rfA (yh (ek (ke (ek (ek c33))))), body := rfB (yh (ek (ke (ek (ek c33))))), Rel, RelX }
noncomputable def xP (r0 r1 r2 r3 : Nat) (p fv : Value) (v : List Value) : Tree := sx PP opK (ek (ek (ek c33))) (e7 (h33 r0 r1 r2 r3 p fv) [] [2, 4, 5, 6, 15] (yP r0 r1 r2 r3 p) v) (dB PP f33) (fun _ => none) (dB PP f33)
def pP (r : Nat) : Value := .pointer (some ⟨r, 0, none⟩)
def AK (r0 r1 r2 r3 : Nat) (p fv : Value) : List (List Value × List Value) := [([pP r0], [pP r0]), ([pP r1], [pP r1]), ([pP r2], [pP r2]), ([pP r3], [pP r3]), ([fv], [fv]), ([pP r0, p], [pP r0, p]), ([pP r1, .tuple #[]], [pP r1, .tuple #[]]), ([pP r2, .tuple #[]], [pP r2, .tuple #[]]), ([pP r3, .tuple #[]], [pP r3, .tuple #[]])]
def k3 (r1 r2 r3 : Nat) (t : Tree) : Tree := .chk (.eqN r1 r1) (.chk (.eqN r2 r2) (.chk (.eqN r3 r3) t))
theorem wY (vs : List Value) (QC : Nat → Nat → Nat → Nat → Value → List Value → Heap → Go.Sx.Own → Prop) : zR vs QC = .newbox fun r0 => .newbox fun r1 => .newbox fun r2 => .newbox fun r3 => .chk (.eqN r0 r0) (.call false 36 [g vs 0] [] [] .one fun l _ => .br (g l 0)
  (k3 r1 r2 r3 (k3 r1 r2 r3 (.ret (.tuple #[.slice none 0 0, iV 0, iV 1]) [])))
  (.call false 50 [g vs 1] [] [] .one fun m _ => .cont 0 (QC r0 r1 r2 r3 (g m 0)) [.slice none 0 0, iV 0, iV 0] (AK r0 r1 r2 r3 (g vs 0) (g m 0)))) := by kernel_rfl
def vH (r0 r1 r2 r3 : Nat) (p fv : Value) (Rl : List Value → Heap → Go.Sx.Own → Prop) (vals : List Value) : Tree := .cont 0 (fun vs H O => Cons H O → ∃ H3 O3, Ghost H O H3 O3 ∧ Rl vs H3 O3) vals (AK r0 r1 r2 r3 p fv)
def sS (r0 r1 r2 r3 : Nat) (p fv : Value) (Rl RX : List Value → Heap → Go.Sx.Own → Prop) (v : List Value) (n e : Value) (q : Nat) (c d : Value) : Tree :=
 .pure [] (.bin .neq .int) [e, iV 0] fun b => .br b (.chk (.eqN r2 r2) (k3 r1 r2 r3 (vH r0 r1 r2 r3 p fv RX [.slice none 0 0, n, e])))
  (.chk (.eqN r1 r1) (.chk (.eqN q q) (.newbox fun r => .prim (.bi .append #[23, 23] 23) [g v 0, .slice (some ⟨r, 0, none⟩) 1 1] [⟨r, 77, [c, d]⟩] [] .one fun y _ => .chk (.eqN r1 r1) (vH r0 r1 r2 r3 p fv Rl [g y 0, n, g v 2]))))
theorem tY (r0 r1 r2 r3 : Nat) (p fv : Value) (Rel : List (List UInt8) → List Value → Heap → Go.Sx.Own → Prop) (RelX : List Value → Heap → Go.Sx.Own → Prop) (pre : List (List UInt8)) (x : List UInt8) (v : List Value) :
  (R33 r0 r1 r2 r3 p fv Rel RelX).round pre x v = .chk (.eqN r2 r2) (.pure [] (.bin .add .int) [g v 1, iV 1] fun n => .chk (.eqN r2 r2) (.chk (.eqN r0 r0) (.call false 51 [p, Str x] [] [] (.tup [some 2, none]) fun l _ => .newbox fun q => .chk (.eqN q q) (.pure [] (.bin .eql .int) [g l 2, iV 0] fun e0 => .br e0
   (.chk (.eqN r1 r1) (.call false 52 [g v 0, .func (.func 53) #[] #[pP q]] [] [⟨q, 77, [g l 0, g l 1]⟩] .one fun m cs => .br (g m 0)
    (.chk (.eqN r2 r2) (k3 r1 r2 r3 (vH r0 r1 r2 r3 p fv RelX [.slice none 0 0, n, iV 11])))
    (sS r0 r1 r2 r3 p fv (Rel (pre ++ [x])) RelX v n (g l 2) q (g (cs.getD 0 []) 0) (g (cs.getD 0 []) 1))))
   (sS r0 r1 r2 r3 p fv (Rel (pre ++ [x])) RelX v n (g l 2) q (g l 0) (g l 1)))))) := by kernel_rfl
theorem vq (r0 r1 r2 r3 : Nat) (p fv : Value) (v : List Value) : xP r0 r1 r2 r3 p fv v = .chk (.eqN r1 r1) (.call false 54 [g v 0, .func (.func 55) #[] #[]] [] [] (.tup []) fun _ _ => .chk (.eqN r0 r0) (.chk (.eqN r1 r1) (.call false 24 [p, g v 0] [] [] (.tup [none, none]) fun l _ =>
  .pure [] (.bin .neq .int) [g l 1, iV 0] fun b => .br b (k3 r1 r2 r3 (k3 r1 r2 r3 (.ret (.tuple #[.slice none 0 0, iV 0, g l 1]) []))) (.chk (.eqN r1 r1) (k3 r1 r2 r3 (k3 r1 r2 r3 (.ret (.tuple #[g v 0, iV 0, iV 0]) []))))))) := by kernel_rfl
def Ac : Code → Code → Code → Code → Code → Code → Code := fun A B C ax bd post => .seq A (.seq B (.seq (.seq C (.block 0 (.rangeFunc (.tmp 15) #[16] ax bd))) post))
theorem Au : c33 = Ac (ke c33) (ke (ek c33)) (ke (ke (ek (ek c33)))) (rfA (yh (ek (ke (ek (ek c33)))))) (rfB (yh (ek (ke (ek (ek c33)))))) (ek (ek (ek c33))) := by kernel_rfl
end Go.Proofs.YtamgiojcbdbokaaGreatDoor
namespace Go.Sx
open Go
section
variable (enc : Int → List Value) (he : ∀ x, (enc x).length = 2)
include he
theorem fX (d : List Int) : (d.map enc).flatten.length = d.length * 2 := by
 have := az (rows := d.map enc) (size := 2) (by simp [he])
 rwa [List.length_map] at this
theorem oO (d : List Int) : (Sort.flatK enc 2 d.toArray).toList = (d.map enc).flatten := by
 refine List.ext_getElem? fun t => ?_
 have hl := fX enc he d
 rcases Nat.lt_or_ge t (d.length * 2) with h | h
 ·have h1 := Sort.get_flatK enc 2 d.toArray t (by simpa using h)
  rw [getElem!_pos _ t (by simpa using h)] at h1
  have hd : t / 2 < d.length := by omega
  rw [getElem!_pos _ (t / 2) (by simpa using hd)] at h1
  rw [List.getElem?_eq_getElem (by simpa using h), Array.getElem_toList, h1]
  have hg : (d.map enc)[t / 2]? = some (enc d[t / 2]) := by simp [hd]
  have p := bW (rows := d.map enc) (size := 2) (by simp [he]) hg
  have e : (d.map enc).flatten[t]? = (enc d[t / 2])[t % 2]? := by
   rw [← p, List.getElem?_take, if_pos (by omega), List.getElem?_drop]
   congr 1; omega
  rw [e]
  have h2 : t % 2 < (enc d[t / 2]).length := by rw [he]; omega
  rw [List.getElem?_eq_getElem h2, ← getElem!_pos (enc d[t / 2]) (t % 2) h2]
  simp
 ·rw [List.getElem?_eq_none (by simpa using h), List.getElem?_eq_none (by omega)]
theorem sc {w : World} {H : Heap} {r : Nat} {cs : List Value} {T : TypeId} {O : Go.Sx.Own} (hm : Models w H ((r, .cells cs.toArray T (0, 0)) :: O)) {d : List Int} (hl : d.length * 2 ≤ cs.length) (n : Nat) (os : Array Obj) :
  Models (Go.Proofs.sortWorldK enc 2 w r 0 n d.toArray os) H ((r, .cells ((d.map enc).flatten ++ cs.drop (d.length * 2)).toArray T (0, 0)) :: O) := by
 have hrow := (hm.own (r, .cells cs.toArray T (0, 0)) (by simp)).1
 have hall : ∀ (F : List Value) (cs : List Value), F.length ≤ cs.length → Sort.putCells id 0 F.toArray cs.toArray = (F ++ cs.drop F.length).toArray := by
  intro F cs h
  refine Array.ext' (List.ext_getElem? fun k => ?_)
  simp only [Sort.putCells, Array.toList_mapIdx, List.getElem?_mapIdx, List.getElem?_append, List.size_toArray, id]
  by_cases hk : k < F.length
  ·rw [if_pos hk, List.getElem?_eq_getElem (by omega : k < cs.length), List.getElem?_eq_getElem hk]
   simp only [Option.map_some, Option.some.injEq]
   rw [if_pos ⟨Nat.zero_le _, by omega⟩, Nat.sub_zero, getElem!_pos _ k (by simpa using hk)]
   rfl
  ·rw [if_neg hk, List.getElem?_drop, show F.length + (k - F.length) = k by omega]
   rcases Nat.lt_or_ge k cs.length with hc | hc
   ·rw [List.getElem?_eq_getElem hc, Option.map_some, if_neg (by omega)]
   ·rw [List.getElem?_eq_none hc]; rfl
 unfold Go.Proofs.sortWorldK
 refine iW (Models.update (w := w) (w' := Sort.putRowK enc 2 (Sort.ahead w n) r 0 d.toArray) (o' := .cells ((d.map enc).flatten ++ cs.drop (d.length * 2)).toArray T (0, 0)) hm (fun b hb => ?_) ?_ rfl) os
 ·simp [Sort.putRowK, Sort.putRow, Sort.mapBlock, Sort.ahead, Array.getElem?_modify, Ne.symm hb]
 ·have hF := oO enc he d
  have e : Sort.flatK enc 2 d.toArray = ((d.map enc).flatten).toArray := by rw [← hF]
  simp only [Sort.putRowK, Sort.putRow, Sort.mapBlock, Sort.ahead, Array.getElem?_modify, if_true, hrow, Option.map_some, Sort.onCells, e]
  rw [hall _ _ (by rw [fX enc he]; exact hl), fX enc he]
theorem ud {w : World} {H : Heap} {r : Nat} {cs : List Value} {T : TypeId} {O : Go.Sx.Own} (hm : Models w H ((r, .cells cs.toArray T (0, 0)) :: O)) {d : List Int} (hd : (d.map enc).flatten = cs.take (d.length * 2)) (hl : d.length * 2 ≤ cs.length) :
  Sort.HoldsK enc 2 w r 0 d.toArray ∧ r < w.heap.size := by
 have hrow := (hm.own (r, .cells cs.toArray T (0, 0)) (by simp)).1
 have hlt : r < w.heap.size := (Array.getElem?_eq_some_iff.1 hrow).1
 have e : Sort.flatK enc 2 d.toArray = ((d.map enc).flatten).toArray := by rw [← oO enc he d]
 refine ⟨fun j hj => ?_, hlt⟩
 rw [e] at hj ⊢
 have hj' : j < d.length * 2 := by rw [← fX enc he d]; simpa using hj
 have hv : ((d.map enc).flatten.toArray[j]!) = cs[j]'(by omega) := by
  rw [getElem!_pos _ j hj]
  have : (d.map enc).flatten[j]? = cs[j]? := by rw [hd, List.getElem?_take, if_pos hj']
  rw [List.getElem?_eq_getElem (by simpa using hj), List.getElem?_eq_getElem (by omega : j < cs.length)] at this
  simpa using this
 constructor
 ·rw [hv]
  simp only [World.cell?, hrow, Nat.zero_add, id]
  simp [List.getElem?_eq_getElem (by omega : j < cs.length)]
 ·rw [Nat.zero_add]; exact frozen_of_row w r j _ T hrow
end
end Go.Sx
namespace Go.Proofs.YtamgiojcbdbokaaGreatDoor
open Go Go.Sx
open Go.Sx (Own)
set_option maxRecDepth 100000
set_option maxHeartbeats 1000000
section
open Go.Shelf Go.RowKit Go.Lib Go.Sort
theorem wC (x a y b : Int) (W : World) : Calls Tryz.prog 55 #[.agg #[.int .i64 x, .int .i64 a], .agg #[.int .i64 y, .int .i64 b]] W fun e w' => e = .returned (.int .i64 (Lib.compareInt x y)) ∧ ∃ q os', w' = grow (W.drewN q) os' := by
 have hcon := fun W' => AnyG.cmp_Compare_int Tryz.cmpInt x y W'
 change ∀ W', Calls Tryz.prog 56 _ _ _ at hcon
 generalize Lib.compareInt x y = r at hcon ⊢
 go_enter Tryz.func55, Tryz.ntmps55
 go_wp2_with (go_at_call 56; refine (hcon _).mono ?_; rintro e w' ⟨rfl, rfl⟩)
 go_ret
 exact ⟨rfl, 0, _, by rw [alloc_eq_grow, alloc_eq_grow, grow_grow]; rfl⟩
theorem zU (x y : Int) : ltOf (fun x y : Int => Lib.compareInt x y) x y = decide (x < y) := by
 unfold ltOf Lib.compareInt
 by_cases h1 : x < y
 ·simp [h1]
 ·by_cases h2 : y < x <;> simp [h1, h2]
theorem AT : SWO (ltOf fun x y : Int => Lib.compareInt x y) where
 irrefl x := by rw [zU]; simp
 trans x y z h1 h2 := by rw [zU] at *; simp at *; omega
 ntrans x y z h1 h2 := by rw [zU] at *; simp at *; omega
theorem si (l : List Int) : (l.mergeSort fun x y => !(ltOf fun x y : Int => Lib.compareInt x y) y x) = bJ l := by
 have e : (fun x y : Int => !(ltOf fun x y : Int => Lib.compareInt x y) y x) = fun x y => decide (x ≤ y) := by
  funext x y
  rw [zU]
  by_cases h : x ≤ y
  ·rw [decide_eq_true h, decide_eq_false (by omega)]; rfl
  ·rw [decide_eq_false h, decide_eq_true (by omega)]; rfl
 rw [e]; rfl
def sC (l : List Cp) (c : Int) : Int := match l.find? (fun x => x.card == c) with | some x => x.n | none => 0
def jT (l : List Cp) : List Cp := (bJ (l.map (·.card))).map fun c => ⟨c, sC l c⟩
theorem rk {l : List Cp} (hn : (l.map (·.card)).Nodup) {x : Cp} (hx : x ∈ l) : sC l x.card = x.n := by
 have h : ∀ (l : List Cp), (l.map (·.card)).Nodup → x ∈ l → l.find? (fun y => y.card == x.card) = some x := by
  intro l
  induction l with
  | nil => intro _ h; cases h
  | cons y r ih =>
   intro hn hx
   rw [List.map_cons, List.nodup_cons] at hn
   rcases List.mem_cons.1 hx with rfl | hx
   ·rw [List.find?_cons_of_pos (by simp)]
   ·rw [List.find?_cons_of_neg (by
     simp only [beq_iff_eq]
     intro e
     exact hn.1 (List.mem_map.2 ⟨x, hx, e.symm⟩))]
    exact ih hn.2 hx
 rw [sC, h l hn hx]
theorem zg {H : Heap} {v : Value} {l : List Cp} {O : Go.Sx.Own} (h : OSl an 2 v (l.map Cp.row) O) (hn : (l.map (·.card)).Nodup) (hlen : l.length ≤ 4000000) :
  Triple PP 54 [v, .func (.func 55) #[] #[]] H O fun r _ O' => r = .tuple #[] ∧ OSl an 2 v ((jT l).map Cp.row) O' := by
 let enc : Int → List Value := fun c => [iV c, iV (sC l c)]
 have he : ∀ x, (enc x).length = 2 := fun _ => rfl
 have hrows : l.map Cp.row = (l.map (·.card)).map enc := by
  rw [List.map_map]
  refine List.map_congr_left fun x hx => ?_
  show [iV x.card, iV x.n] = [iV x.card, iV (sC l x.card)]
  rw [rk hn hx]
 have hrows2 : (jT l).map Cp.row = (bJ (l.map (·.card))).map enc := by rw [jT, List.map_map]; rfl
 rw [hrows] at h
 rw [hrows2]
 have hcl0 : (l.map (·.card)).length = l.length := List.length_map _
 generalize l.map (·.card) = d at *
 rcases h with ⟨⟨a, rfl⟩, hr, rfl⟩ | ⟨r, cs, cap, rfl, rfl, hcl, hlc, hcap, hl, ho, ht⟩
 ·have hnil : d = [] := by simpa using hr
  subst hnil
  intro w F hm
  have hcon := AnyF.slices_SortFunc_none Tryz.sortT a 0 (.func (.func 55) #[] #[]) w
  change Calls PP 54 _ _ _ at hcon
  refine hcon.mono ?_
  rintro _ _ ⟨rfl, rfl⟩
  exact ⟨_, H, [], rfl, ⟨rfl, .inl ⟨⟨a, rfl⟩, by simp [bJ], rfl⟩⟩, Heap.le_refl H, hm⟩
 ·intro w F hm
  rw [List.length_map] at hlc ht
  have hfit : d.length * 2 ≤ cs.length := by rw [hcl]; exact Nat.mul_le_mul_right 2 hlc
  have hm' : Models w H ((r, .cells cs.toArray an (0, 0)) :: F) := by simpa using hm
  obtain ⟨hH, hblk⟩ := ud enc he hm' ht.symm hfit
  have eg : ∀ args w, (callFunc 55 args).run PP w = .ok (.enter 55 args) w := enters_of Tryz.func55 (by kernel_rfl) rfl
  have hcon := AnyQ.slices_SortFunc_total Tryz.sortT 2 Tryz.isAgg77 Tryz.sizeOf77 enc (fun _ => rfl) (fun x v hv => by simp [enc] at hv; rcases hv with rfl | rfl <;> rfl) (fun x y => Lib.compareInt x y) AT 55 #[] r 0 cap d.toArray w eg
   (fun _ _ _ _ x y => wC x _ y _ _) hH hblk (by simp; omega) (fun x y h1 h2 => by rw [zU] at h1 h2; simp at h1 h2; omega)
  change Calls PP 54 _ _ _ at hcon
  rw [si] at hcon
  rw [List.length_map]
  refine hcon.mono ?_
  rintro _ _ ⟨rfl, n, os, rfl⟩
  have hsl : (bJ d).length = d.length := iF d
  have hmm := sc enc he hm' (d := bJ d) (by rw [hsl]; exact hfit) n os
  refine ⟨_, H, [(r, .cells (((bJ d).map enc).flatten ++ cs.drop ((bJ d).length * 2)).toArray an (0, 0))], rfl, ⟨rfl, .inr ⟨r, ((bJ d).map enc).flatten ++ cs.drop ((bJ d).length * 2), cap, ?_, rfl, ?_, ?_, hcap, ?_, ?_, ?_⟩⟩, Heap.le_refl H, by rw [List.singleton_append]; exact hmm⟩
  ·rw [List.length_map, hsl]
  ·rw [List.length_append, List.length_drop, fX enc he, hsl, hcl]; omega
  ·rw [List.length_map, hsl]; exact hlc
  ·intro x hx; obtain ⟨y, _, rfl⟩ := List.mem_map.1 hx; rfl
  ·intro x hx; obtain ⟨y, _, rfl⟩ := List.mem_map.1 hx; exact ⟨rfl, rfl, trivial⟩
  ·rw [List.length_map, ← fX enc he, List.take_left]
end
end Go.Proofs.YtamgiojcbdbokaaGreatDoor
namespace Go.Proofs.YtamgiojcbdbokaaGreatDoor
open Go Go.Sx
open Go.Sx (Own)
set_option maxRecDepth 100000
set_option maxHeartbeats 1000000
def bxC (q : Nat) (c d : Int) : BV := ⟨q, 77, [iV c, iV d]⟩
theorem BW (y : Cp) (q : Nat) (c d : Int) (H : Heap) (O : Go.Sx.Own) : RetO PP jR ([.agg y.row.toArray] ++ [pP q]) H ((bxC q c d).obj :: O) (.bool (y.card == c)) := by
 refine mq (vs := [iV y.card, iV y.n, pP q]) (by kernel_rfl) ⟨rfl, rfl, rfl, trivial⟩ ?_
 simp only [jN]
 refine ai fun r0 => ?_
 refine ab (aB rfl ?_)
 refine ao (vs := [iV c]) (.inr ⟨⟨q, 0, none⟩, #[iV c, iV d], _, rfl, rfl, List.mem_cons_self, rfl, by simp⟩) rfl ⟨rfl, trivial⟩ ?_
 exact aa _ (av _ _) (af ⟨rfl, rfl⟩)
theorem Ak {H : Heap} {O : Go.Sx.Own} {v : Value} {l : List Cp} (h : OSl an 2 v (l.map Cp.row) O) (q : Nat) (c d : Int) :
  RetO PP a7 [v, .func (.func 53) #[] #[pP q]] H ((bxC q c d).obj :: O) (iV (qd (fun y => y.card == c) l 0)) := by
 refine b9 (vs := [v, .func (.func 53) #[] #[pP q]]) (by kernel_rfl) ⟨h.one, rfl, trivial⟩ ?_
 simp only [aY]
 have hl := h.len
 have hB := h.lenB
 rw [List.length_map] at hl hB
 refine aa _ hl ?_
 refine bS l.length (fun i H' O' => O' = (bxC q c d).obj :: O ∧ Heap.le H H' ∧ qd (fun y => y.card == c) l 0 = qd (fun y => y.card == c) (l.drop i) i) ⟨rfl, Heap.le_refl H, by simp⟩ ?_
 rintro i H' _ hi - ⟨rfl, hle, hor⟩
 refine aa _ (bm _ _) (aj (fun hb => ?_) (fun hb => ?_))
 ·have hlt : i < l.length := by simpa using hb
  obtain ⟨a, k1, _, k2, _⟩ := h.idx (O := (bxC q c d).obj :: O) (fun p hp => List.mem_cons_of_mem _ hp) H' (k := .i64) (i := i) (row := l[i].row) (by simp [hlt])
  refine aa _ k1 (ao k2 rfl ⟨rfl, rfl, trivial⟩ (kD rfl (fJ ib (by decide)) (BW l[i] q c d H' O) rfl ⟨rfl, trivial⟩ fun H2 hle2 => aj (fun hb => ?_) (fun hb => ?_)))
  ·refine af ⟨?_, rfl⟩
   rw [hor, List.drop_eq_getElem_cons hlt, qd, if_pos hb]; rfl
  ·refine aa _ (aW (by omega)) (bp (by simp [Eqs, E]) hlt ⟨rfl, Heap.le_trans hle hle2, ?_⟩)
   rw [hor, List.drop_eq_getElem_cons hlt, qd, if_neg (by rw [hb]; simp)]; rfl
 ·have hge : l.length ≤ i := by simpa using hb
  refine af ⟨?_, rfl⟩
  rw [hor, List.drop_of_length_le hge]; rfl
theorem Ap {H : Heap} {O : Go.Sx.Own} {v : Value} {l : List Cp} (h : OSl an 2 v (l.map Cp.row) O) (q : Nat) (c d : Int) :
  RetO PP aQ [v, .func (.func 53) #[] #[pP q]] H ((bxC q c d).obj :: O) (.bool (l.any fun y => y.card == c)) := by
 refine bM (vs := [v, .func (.func 53) #[] #[pP q]]) (by kernel_rfl) ⟨h.one, rfl, trivial⟩ ?_
 simp only [aO]
 refine cE (O1 := (bxC q c d).obj :: O) (O2 := []) (by simp) (Ak h q c d) ?_
 rintro _ H1 _ ⟨rfl, rfl⟩ l1
 refine ⟨[_], rfl, ⟨rfl, trivial⟩, aa _ (kA _ _) (af ⟨?_, by simp⟩)⟩
 rw [← qc _ l 0 (by omega)]
def cB (cs : List CdF) : List (List UInt8) → List Cp → Int → List Cp ⊕ (Int × Int)
 | [], acc, _ => .inl acc
 | x :: r, acc, n => if (dz cs x).2 ≠ 0 then .inr (n + 1, (dz cs x).2) else if (acc.any fun y => y.card == (dz cs x).1.1) = true then .inr (n + 1, 11)
  else cB cs r (acc ++ [⟨(dz cs x).1.1, (dz cs x).1.2⟩]) (n + 1)
def AP (cs : List CdF) (pre : List (List UInt8)) (v : List Value) (_ : Heap) (O : Go.Sx.Own) : Prop := ∃ sl acc, v = [sl, iV (pre.length : Nat), iV 0] ∧ OSl an 2 sl (acc.map Cp.row) O ∧ acc.length = pre.length ∧ (acc.map (·.card)).Nodup ∧ ∀ rest, cB cs (pre ++ rest) [] 0 = cB cs rest acc (pre.length : Nat)
def zB (cs : List CdF) (all : List (List UInt8)) (v : List Value) (_ : Heap) (_ : Go.Sx.Own) : Prop := ∃ m e : Int, v = [.slice none 0 0, iV m, iV e] ∧ cB cs all [] 0 = .inr (m, e) ∧ e ≠ 0
theorem ql (r0 r1 r2 r3 : Nat) (p fv : Value) : Eqs (AK r0 r1 r2 r3 p fv) := by simp [AK, Eqs]
theorem oK {cs : List CdF} {r0 r1 r2 r3 : Nat} {p fv : Value} {all pre : List (List UInt8)} {x : List UInt8} {sl : Value} {acc : List Cp} {H : Heap} {O : Go.Sx.Own} {q : Nat} {z : Value} {QT : Value → Heap → Go.Sx.Own → Prop}
  (hO : OSl an 2 sl (acc.map Cp.row) O) (hlen : acc.length = pre.length) (hsm : pre.length < 100000) (hnd : (acc.map (·.card)).Nodup) (hgo : ∀ rest, cB cs (pre ++ rest) [] 0 = cB cs rest acc (pre.length : Nat)) (hpre : (pre ++ [x]) <+: all)
  (hany : (dz cs x).2 = 0 → (acc.any fun y => y.card == (dz cs x).1.1) = false) :
  (sS r0 r1 r2 r3 p fv (AP cs (pre ++ [x])) (zB cs all) [sl, z, iV 0] (iV ((pre.length + 1 : Nat) : Int)) (iV (dz cs x).2) q (iV (dz cs x).1.1) (iV (dz cs x).1.2)).den PP QT H O := by
 obtain ⟨rest, hrest⟩ := hpre
 have hall : cB cs all [] 0 = cB cs (x :: rest) acc (pre.length : Nat) := by
  rw [← hgo, ← hrest, List.append_assoc]; rfl
 rw [sS]
 refine aa _ (fw _ _) (aj (fun hd => ?_) (fun hd => ?_))
 ·have he : (dz cs x).2 ≠ 0 := by simpa using hd
  rw [cB, if_pos he] at hall
  exact ab (ab (ab (ab ⟨ql _ _ _ _ _ _, fun _ => ⟨H, O, Ghost.refl _ _, _, _, rfl, hall, he⟩⟩)))
 ·have he : (dz cs x).2 = 0 := by simpa using hd
  have ha := hany he
  refine ab (ab (ai fun r => ?_))
  refine b6 (rows := acc.map Cp.row) (news := [[iV (dz cs x).1.1, iV (dz cs x).1.2]]) (O1 := O) (O2 := []) (e := an) (size := 2) (bytes := 16) (by kernel_rfl) (by simp) hO (fun Hf _ hf => Sl.block1 (hf _ List.mem_cons_self) rfl ⟨rfl, rfl, trivial⟩) (by simp; omega) (by simp; omega) ?_
  intro y O1' H' l' hO'
  refine ab ⟨ql _ _ _ _ _ _, fun _ => ⟨H', O1' ++ [], Ghost.refl _ _, y, acc ++ [⟨(dz cs x).1.1, (dz cs x).1.2⟩], by simp [g], ?_, by simp [hlen], ?_, ?_⟩⟩
  ·rw [List.append_nil, List.map_append]; exact hO'
  ·rw [List.map_append, List.nodup_append]
   refine ⟨hnd, by simp, fun a ha' b hb e => ?_⟩
   obtain ⟨y', hy', rfl⟩ := List.mem_map.1 ha'
   have hb : b = (dz cs x).1.1 := by simpa using hb
   rw [List.any_eq_false] at ha
   exact ha y' hy' (by rw [e, hb]; simp)
  ·intro rest'
   rw [List.append_assoc, hgo, List.singleton_append, cB, if_neg (by rw [he]; simp), if_neg (by rw [ha]; simp)]
   simp
theorem pW : ∀ (m : Nat) (s : List UInt8), (∀ x ∈ ct m s, x.length ≤ s.length) ∧ (ct m s).length ≤ s.length
 | 0, s => ⟨fun x hx => (by cases hx), Nat.zero_le _⟩
 | m + 1, s => by
  by_cases hs : s = []
  ·rw [ct, if_pos hs]; exact ⟨fun x hx => (by cases hx), Nat.zero_le _⟩
  ·obtain ⟨h1, h2⟩ := jw hs
   obtain ⟨i1, i2⟩ := pW m (s.drop (dT s))
   rw [List.length_drop] at i1 i2
   rw [ct, if_neg hs]
   refine ⟨fun x hx => ?_, by rw [List.length_cons]; omega⟩
   rcases List.mem_cons.1 hx with rfl | hx
   ·rw [List.length_take]; omega
   ·have := i1 x hx; omega
theorem rX {cs : List CdF} {H0 H : Heap} {p fv : Value} (hp : PoolF H0 p cs) (hG : GlobOk H0) (hle : Heap.le H0 H) {s : List UInt8} (hs : s.length ≤ 1000) {pre : List (List UInt8)} {x : List UInt8} (hpre : (pre ++ [x]) <+: ct s.length s) {v : List Value} {O : Go.Sx.Own} (hrel : AP cs pre v H O) (r0 r1 r2 r3 : Nat) (QT : Value → Heap → Go.Sx.Own → Prop) :
  ((R33 r0 r1 r2 r3 p fv (AP cs) (zB cs (ct s.length s))).round pre x v).den PP QT H O := by
 obtain ⟨sl, acc, rfl, hO, hlen, hnd, hgo⟩ := hrel
 obtain ⟨b1, b2⟩ := pW s.length s
 have hxm : x ∈ ct s.length s := by obtain ⟨r, hr⟩ := hpre; rw [← hr]; simp
 have hxl := b1 x hxm
 have hpl : pre.length < 1000 := by obtain ⟨r, hr⟩ := hpre; have := congrArg List.length hr; simp at this; omega
 rw [tY]
 refine ab (aa _ (aW (by omega)) (ab (ab ?_)))
 refine cE (O1 := []) (O2 := O) (by simp) (Ae (hp.le hle) (hG.le hle) x (by omega)) ?_
 rintro _ H1 _ ⟨rfl, rfl⟩ l1
 refine ⟨[iV (dz cs x).1.1, iV (dz cs x).1.2, iV (dz cs x).2], rfl, ⟨rfl, rfl, rfl, trivial⟩, ai fun q => ab ?_⟩
 rw [List.nil_append]
 refine aa _ (av _ _) (aj (fun hd => ?_) (fun hd => ?_))
 ·have he : (dz cs x).2 = 0 := by simpa using hd
  refine ab ?_
  refine ru (own := [bxC q (dz cs x).1.1 (dz cs x).1.2]) (O1 := O) (O2 := []) (by simp) (R := fun y _ O3 => y = .bool (acc.any fun y => y.card == (dz cs x).1.1) ∧ O3 = O) ((Ap hO q _ _).mono fun y H' O' _ ⟨e1, e2⟩ => ⟨O, by rw [e2]; rfl, e1, rfl⟩) ⟨rfl, ⟨rfl, rfl, trivial⟩, trivial⟩ ?_
  rintro _ H2 _ ⟨rfl, rfl⟩ l2
  refine ⟨[_], rfl, ⟨rfl, trivial⟩, ?_⟩
  rw [List.append_nil]
  refine aj (fun hd => ?_) (fun hd => ?_)
  ·have ha : (acc.any fun y => y.card == (dz cs x).1.1) = true := hd
   obtain ⟨rest, hrest⟩ := hpre
   have hall : cB cs (ct s.length s) [] 0 = cB cs (x :: rest) acc (pre.length : Nat) := by
    rw [← hgo, ← hrest, List.append_assoc]; rfl
   rw [cB, if_neg (by rw [he]; simp), if_pos ha] at hall
   exact ab (ab (ab (ab ⟨ql _ _ _ _ _ _, fun _ => ⟨H2, _, Ghost.refl _ _, _, _, rfl, hall, by decide⟩⟩)))
  ·exact oK hO hlen (by omega) hnd hgo hpre fun _ => hd
 ·have he : (dz cs x).2 ≠ 0 := by simpa using hd
  exact oK hO hlen (by omega) hnd hgo hpre fun e => absurd e he
def cA (cs : List CdF) (s : List UInt8) : List Cp × Int × Int := match cB cs (ct s.length s) [] 0 with
 | .inr (m, e) => ([], m, e)
 | .inl acc => if (aM cs (jT acc)).2 ≠ 0 then ([], 0, (aM cs (jT acc)).2) else (jT acc, 0, 0)
def pf (cs : List CdF) (s : List UInt8) (r : Value) (H' : Heap) (_ : Go.Sx.Own) : Prop := ∃ sl, r = .tuple #[sl, iV (cA cs s).2.1, iV (cA cs s).2.2] ∧ oo H' sl (cA cs s).1
theorem nO {T : Heap → Go.Sx.Own → (Value → Heap → Go.Sx.Own → Prop) → Prop} {e : TypeId} {size : Nat} {v : Value} {rows : List (List Value)} {H : Heap} {O : Go.Sx.Own} {shp : Shp} {K : List Value → List (List Value) → Heap → Go.Sx.Own → Prop}
  (h : OSl e size v rows O) (hk : ∀ H', Heap.le H H' → Sl H' size v rows → cO T false [] [] shp K H' []) : cO T false [] [] shp K H O := by
 intro hc
 have hc' : Cons H O := by simpa using hc
 obtain ⟨H', g, k, l⟩ := h.freeze (X := []) (by simpa using hc')
 have hg : Ghost H O H' [] := by simpa using g
 obtain ⟨H1, O1, O2, Q, g2, h2, h3⟩ := hk H' l k (by simpa using hc'.ghost hg)
 exact ⟨H1, O1, O2, Q, hg.trans g2, h2, h3⟩
theorem t7 {cs : List CdF} {H0 H : Heap} {p fv sl n : Value} (hp : PoolF H0 p cs) (hle : Heap.le H0 H) {s : List UInt8} {acc : List Cp} {O : Go.Sx.Own} (hO : OSl an 2 sl (acc.map Cp.row) O) (hnd : (acc.map (·.card)).Nodup) (hlen : acc.length ≤ 1000) (hgo : cB cs (ct s.length s) [] 0 = .inl acc) (r0 r1 r2 r3 : Nat) :
  (xP r0 r1 r2 r3 p fv [sl, n, iV 0]).den PP (pf cs s) H O := by
 rw [vq]
 have hcl : (jT acc).length = acc.length := by rw [jT, List.length_map, iF, List.length_map]
 have hone := hO.one
 refine ab ?_
 refine cE (O1 := O) (O2 := []) (by simp) (zg hO hnd (by omega)) ?_
 rintro _ H1 O1 ⟨rfl, h1⟩ l1
 refine ⟨[], rfl, trivial, ?_⟩
 rw [List.append_nil]
 refine ab (ab ?_)
 refine nO h1 fun H2 l2 hsl => ?_
 refine al (qu (hp.le (Heap.le_trans hle (Heap.le_trans l1 l2))) hsl (by omega)) rfl (vs := [iV (aM cs (jT acc)).1, iV (aM cs (jT acc)).2]) ⟨rfl, rfl, trivial⟩ fun H3 l3 => ?_
 refine aa _ (fw _ _) (aj (fun hd => ?_) (fun hd => ?_))
 ·have he : (aM cs (jT acc)).2 ≠ 0 := by simpa using hd
  refine ab (ab (ab (ab (ab (ab (af ⟨.slice none 0 0, ?_, ?_⟩))))))
  ·rw [cA, hgo]; simp only []; rw [if_pos he]; rfl
  ·rw [cA, hgo]; simp only []; rw [if_pos he]; exact Sl.nil _ _
 ·have he : ¬ (aM cs (jT acc)).2 ≠ 0 := by simpa using hd
  refine ab (ab (ab (ab (ab (ab (ab (af ⟨sl, ?_, ?_⟩)))))))
  ·rw [cA, hgo]; simp only []; rw [if_neg he]; rfl
  ·rw [cA, hgo]; simp only []; rw [if_neg he]; exact hsl.le l3
theorem zj (s : List UInt8) (H : Heap) : Triple PP jm [Str s] H [] fun r _ O' => ∃ k, r = .func (.func 80) #[] #[pP k] ∧ O' = [(k, .cells #[Str s] 9 (0, 0))] := by
 refine kY (vs := [Str s]) (by kernel_rfl) ⟨rfl, trivial⟩ ?_
 simp only [jj]
 intro r0 _
 exact ⟨H, _, Ghost.refl _ _, r0, rfl, rfl⟩
theorem wS (r0 r1 r2 r3 : Nat) (p fv : Value) (v : List Value) : dB PP f33 (e7 (h33 r0 r1 r2 r3 p fv) [] [2, 4, 5, 6, 15] (yP r0 r1 r2 r3 p) v) = k3 r1 r2 r3 (.ret (.tuple #[g v 0, g v 1, g v 2]) []) := by kernel_rfl
theorem ya {r0 r1 r2 r3 : Nat} {p fv : Value} (hp : p.oneCell' = true) (hf : fv.oneCell' = true) : (h33 r0 r1 r2 r3 p fv).Ok := by
 refine ⟨fun t => ?_, fun n b hb a ha => ?_⟩
 ·simp only [h33]
  repeat' split
  all_goals (intro b hb; simp [S1.cells] at hb; subst hb; first | trivial | exact hf)
 ·simp only [h33] at hb
  split at hb
  ·cases hb; simp at ha; subst ha; exact hp
  ·split at hb
   ·cases hb; simp at ha; subst ha; trivial
   ·split at hb
    ·cases hb; simp at ha; subst ha; trivial
    ·split at hb
     ·cases hb; simp at ha; subst ha; trivial
     ·cases hb
theorem vN {r0 r1 r2 r3 : Nat} {p fv : Value} : ∀ n b cells i, (n, b, cells, i) ∈ yP r0 r1 r2 r3 p → (h33 r0 r1 r2 r3 p fv).mem n = some b := by
 intro n b cells i hmem
 simp only [yP, List.mem_cons, Prod.mk.injEq, List.not_mem_nil, or_false] at hmem
 rcases hmem with ⟨rfl, rfl, rfl, rfl⟩ | ⟨rfl, rfl, rfl, rfl⟩ | ⟨rfl, rfl, rfl, rfl⟩ | ⟨rfl, rfl, rfl, rfl⟩ <;> rfl
theorem Aw {P : Program} {QT : Value → Heap → Go.Sx.Own → Prop} {h s' : SS} {H : Heap} {O : Go.Sx.Own} {lab : Nat} {C : List Value → Heap → Go.Sx.Own → Prop} {carry keep : List Nat} {hb : List (Nat × Bx × List Nat × Nat)} (hd : (dn lab C carry keep hb h s').den P QT H O) : C (bf s' carry hb) H O := by
 unfold dn at hd
 split at hd
 ·exact hd.2
 ·exact hd.elim
theorem zh {H0 : Heap} {p : Value} {cs : List CdF} (hp : PoolF H0 p cs) (hG : GlobOk H0) (s : List UInt8) (hs : s.length ≤ 1000) :
  Triple PP rL [p, Str s] H0 [] fun r H' O' => pf cs s r H' O' ∧ O' = [] := by
 intro w F hm
 refine (callsIn_wide (n := 0)).1 ?_
 let vs : List Value := [p, Str s]
 let RR : Ending → World → Prop := fun e w' => ∃ v H' O', e = .returned v ∧ (pf cs s v H' O' ∧ O' = []) ∧ Heap.le H0 H' ∧ Models w' H' (O' ++ F)
 refine callsIn_of_wp_marks (F := Fr none) Tryz.func33 (c := c33) rfl trivial ?_ rfl
 have hC : Conc F (e9 PP f33 vs) H0 [] (Act.mk (vs.toArray ++ Array.replicate (f33.ntmps - vs.toArray.size) undef) []) w := lm (args := vs) (vs := vs) (by kernel_rfl) ⟨hp.one, rfl, trivial⟩ hm
 have hpre : (zR vs fun r0 r1 r2 r3 fv v H O => ∃ k, fv = .func (.func 80) #[] #[pP k] ∧ v = [.slice none 0 0, iV 0, iV 0] ∧ Heap.le H0 H ∧ O = [(k, .cells #[Str s] 9 (0, 0))]).den PP (fun _ _ _ => False) H0 [] := by
  rw [wY]
  refine fun r0 r1 r2 r3 => ab ?_
  refine al (yf hp) rfl ⟨rfl, trivial⟩ fun H1 l1 => aj (fun hd => by cases hd) (fun _ => ?_)
  refine cE (O1 := []) (O2 := []) (by simp) (zj s H1) ?_
  rintro _ H2 _ ⟨k, rfl, rfl⟩ l2
  exact ⟨[_], rfl, ⟨rfl, trivial⟩, ql _ _ _ _ _ _, k, rfl, rfl, Heap.le_trans l1 l2, rfl⟩
 have hout : ∀ a w', ¬ bodyPostM (Fr none) 0 PP f33 RR .outgrown a w' := by
  rintro a w' ⟨v, H', O', e, _⟩
  cases e
 show c33.wpIn (Fr none) 0 PP (bodyPostM (Fr none) 0 PP f33 RR) _ w
 rw [Au]
 refine wpIn_seq ?_
 rw [← iH (Act.mk _ _)]
 refine cL (ro := none) (d := []) mixed kp (ke c33) (by kernel_rfl) (fun a w h => hout a w h) hpre hC ⟨?_⟩ (fun id kx he => by cases he) ⟨fun s' H' O' a' w' _ _ hd' => hd'.elim⟩
 intro s1 H1 O1 a1 w1 hC1 l1 hd1
 refine wpIn_seq ?_
 refine cL (ro := none) (d := []) mixed kp (ke (ek c33)) (by kernel_rfl) (fun a w h => hout a w h) hd1 hC1 ⟨?_⟩ (fun id kx he => by cases he) ⟨?_⟩
 rotate_left
 ·intro s' H' O' a' w' hC' hle' hd'
  obtain ⟨_, v, _, H2, O2, h3, _⟩ := kl hC' hd'
  exact h3.elim
 intro s2 H2 O2 a2 w2 hC2 l2 hd2
 refine wpIn_seq (wpIn_seq ?_)
 refine cL (ro := none) (d := []) mixed kp (ke (ke (ek (ek c33)))) (by kernel_rfl) (fun a w h => hout a w h) hd2 hC2 ⟨?_⟩ (fun id kx he => by cases he) ⟨fun s' H' O' a' w' _ _ hd' => hd'.elim⟩
 intro s3 H3 O3 a3 w3 hC3 l3 hd3
 have hfv1 : (AG s3).oneCell' = true := by
  obtain ⟨k, e, _⟩ := Aw hd3
  rw [e]; rfl
 obtain ⟨⟨k, hfv, b1, hle3, hO3⟩, b2, b3, b4⟩ := dV hd3 hC3 (ya (p := p) hp.one hfv1) vN
 subst hO3
 rw [b1] at b2
 have hCL := rj b2
 let fv := AG s3
 let r0 := rOf s3 2
 let r1 := rOf s3 4
 let r2 := rOf s3 5
 let r3 := rOf s3 6
 let all := ct s.length s
 have hal : all.length ≤ s.length := (pW s.length s).2
 let R := R33 r0 r1 r2 r3 p fv (AP cs) (zB cs all)
 let o0 : Obj := .cells #[Str s] 9 (0, 0)
 have hg : a3.eval (.tmp 15) = .func (.func 80) #[] #[pP k] := by
  have h6 : SV.rel (.s (.at (.v fv))) (a3.tmps.getD 15 undef) := hCL.tm 15
  exact h6.trans hfv
 rw [iH]
 refine wpIn_block (qO (opts := opK) mixed kp R (fun _ _ _ => True) (by kernel_rfl) (by kernel_rfl) (ya hp.one hfv1) vN (by show 16 < 52; omega) (fun _ => rfl) (F := F) (k1 := k) (o0 := o0) (H0 := H3) (O0 := []) (v0 := [.slice none 0 0, iV 0, iV 0]) hCL ⟨_, [], rfl, OSl.nil _ _, rfl, List.nodup_nil, fun rest => rfl⟩ (Nx := fun pre x => (pre ++ [x]) <+: all) ?_ ⟨⟨rfl, rfl, rfl, trivial⟩, rfl⟩ hg (enters_of Tryz.func80 (by kernel_rfl) rfl) (S := fun xs => xs = all) ?_ ?_ ?_)
 ·intro pre x v H O hpre hv1 hv2 hle hrel
  exact rX hp hG (Heap.le_trans hle3 hle) hs hpre hrel r0 r1 r2 r3 _
 ·
  intro l K Kx hput hmod hY W hK0
  have hbx : ∀ pre o W, K pre o W → W.heap[k]? = some o := fun pre o W hK => by
   obtain ⟨H, O, _, hm', hin⟩ := hmod pre o W hK
   exact (hm'.own _ hin).1
  refine (nI (yk l k (fun pre rest W => rest.length ≤ 1000 ∧ K pre (.cells #[Str rest] 9 (0, 0)) W) Kx (fun pre rest W hK => ⟨by simp [World.cell?, hbx _ _ _ hK.2], Go.frozen_of_row W k 0 _ _ (hbx _ _ _ hK.2), by have := hK.1; omega⟩)
   (fun pre rest rest' W hK hl => ⟨Nat.le_trans hl hK.1, hput pre _ _ W _ hK.2 (fun b hb => Go.RowKit.Below.heap_setCell _ _ _ _ hb) (one_setCell (hbx _ _ _ hK.2)) rfl⟩)
   (fun pre rest W hK => ⟨hK.1, hput pre _ _ W W.drew hK.2 (fun b hb => rfl) (show W.heap[k]? = _ from hbx _ _ W hK.2) rfl⟩) all (fun pre x rest W hpre hK => ?_) s rfl W ⟨hs, hK0⟩)).mono ?_
  ·obtain ⟨fn, tmps, asg, bod, hy, hR⟩ := hY pre x _ W hpre hK.2
   refine ⟨fn, tmps, asg, bod, hy, RoundIn.mono hR ?_⟩
   rintro e W' (⟨rfl, h2⟩ | h2)
   ·exact .inl ⟨rfl, hK.1, h2⟩
   ·exact .inr h2
  ·rintro e W' ⟨he, ⟨rest, hr1, hr2⟩ | hx⟩
   ·exact ⟨he, .inl ⟨_, _, rfl, hr2⟩⟩
   ·exact ⟨he, .inr hx⟩
 ·
  rintro D xs v H O W F' hS hv1 hv2 hle ⟨sl, acc, rfl, hO, hlen, hnd, hgo⟩ hCd
  subst hS
  have hgo := hgo []
  rw [List.append_nil] at hgo
  have hpost := t7 (n := iV (all.length : Nat)) (fv := fv) hp (Heap.le_trans hle3 hle) (s := s) hO hnd (by rw [hlen]; omega) hgo r0 r1 r2 r3
  refine (show (ek (ek (ek c33))).wpIn (Fr none) 0 PP _ (shift [Go.Sx.mark D] a3) W from ?_)
  have hfin : ∀ s' H' O' a' w', Conc ((D, .deferred (some [])) :: (F' ++ F)) s' H' O' a' w' → Heap.le H H' → (dB PP f33 s').den PP (pf cs s) H' O' → bodyPostM (Fr none) 0 PP f33 RR .ret (shift [Go.Sx.mark D] a') w' := by
   intro s' H' O' a' w' hC' hle' hd'
   refine gX hC' hd' ?_
   intro v H'' O'' w'' hq hl' hm'
   exact ⟨v, H'', [], rfl, ⟨hq, rfl⟩, Heap.le_trans hle3 (Heap.le_trans hle (Heap.le_trans hle' hl')), hm'.sub (by rw [List.nil_append]; exact (List.sublist_append_right F' F).trans (List.sublist_append_right O'' _))⟩
  exact cL (ro := none) (d := [Go.Sx.mark D]) mixed kp (ek (ek (ek c33))) (by kernel_rfl) hout hpost hCd ⟨hfin⟩ (fun id kx he => by cases he) ⟨hfin⟩
 ·rintro D v H O W F' hv1 hv2 hle ⟨m, e, rfl, hgo, he⟩ hCd
  have hd' : (dB PP f33 (R.hs [.slice none 0 0, iV m, iV e])).den PP (pf cs s) H O := by
   have := wS r0 r1 r2 r3 p fv [.slice none 0 0, iV m, iV e]
   refine (show (dB PP f33 (e7 (h33 r0 r1 r2 r3 p fv) [] [2, 4, 5, 6, 15] (yP r0 r1 r2 r3 p) [.slice none 0 0, iV m, iV e])).den PP (pf cs s) H O from ?_)
   rw [this]
   refine ab (ab (ab (af ⟨.slice none 0 0, ?_, ?_⟩)))
   ·rw [cA, hgo]; rfl
   ·rw [cA, hgo]; exact Sl.nil _ _
  refine (show bodyPostM (Fr none) 0 PP f33 RR .ret (shift [Go.Sx.mark D] a3) W from ?_)
  refine gX hCd hd' ?_
  intro v H'' O'' w'' hq hl' hm'
  exact ⟨v, H'', [], rfl, ⟨hq, rfl⟩, Heap.le_trans hle3 (Heap.le_trans hle hl'), hm'.sub (by rw [List.nil_append]; exact (List.sublist_append_right F' F).trans (List.sublist_append_right O'' _))⟩
theorem Ba (x : Int) (H : Heap) (O : Go.Sx.Own) : RetO PP oi ([iV x] ++ []) H O (.bool (decide (x < 0))) := by
 refine pz (vs := [iV x]) (by kernel_rfl) ⟨rfl, trivial⟩ ?_
 simp only [nY]
 exact aa _ (bm _ _) (af ⟨rfl, rfl⟩)
theorem Ao {H : Heap} {v : Value} {l : List Int} (h : Sl H 1 v (ba l)) (O : Go.Sx.Own) : RetO PP ck [v, .func (.func 47) #[] #[]] H O (.bool (l.any fun x => decide (x < 0))) := by
 refine dR (vs := [v, .func (.func 47) #[] #[]]) (by kernel_rfl) ⟨h.one, rfl, trivial⟩ ?_
 simp only [cg]
 have hI : RetO PP cU [v, .func (.func 47) #[] #[]] H O (iV (qd (fun x => decide (x < 0)) l 0)) := by
  refine eH (vs := [v, .func (.func 47) #[] #[]]) (by kernel_rfl) ⟨h.one, rfl, trivial⟩ ?_
  simp only [cR]
  have hl := h.len
  have hB := h.lenB
  have hil : (ba l).length = l.length := by simp [ba]
  rw [hil] at hl hB
  refine aa _ hl ?_
  refine bS l.length (fun i H' O' => O' = O ∧ Heap.le H H' ∧ qd (fun x => decide (x < 0)) l 0 = qd (fun x => decide (x < 0)) (l.drop i) i) ⟨rfl, Heap.le_refl H, by simp⟩ ?_
  rintro i H' O' hi - ⟨rfl, hle, hor⟩
  refine aa _ (bm _ _) (aj (fun hb => ?_) (fun hb => ?_))
  ·have hlt : i < l.length := by simpa using hb
   obtain ⟨a, h1, h2, _, h3, h4⟩ := ((h.le hle).rsl O').idx .i64 i [iV l[i]] (by simp [ba, hlt])
   refine aa _ h1 (ao h2 h3 h4 (kD rfl (fJ ib (by decide)) (Ba l[i] H' O') rfl ⟨rfl, trivial⟩ fun H2 hle2 => aj (fun hb => ?_) (fun hb => ?_)))
   ·refine af ⟨?_, rfl⟩
    rw [hor, List.drop_eq_getElem_cons hlt, qd, if_pos hb]; rfl
   ·refine aa _ (aW (by omega)) (bp (by simp [Eqs, E]) hlt ⟨rfl, Heap.le_trans hle hle2, ?_⟩)
    rw [hor, List.drop_eq_getElem_cons hlt, qd, if_neg (by rw [hb]; simp)]; rfl
  ·have hge : l.length ≤ i := by simpa using hb
   refine af ⟨?_, rfl⟩
   rw [hor, List.drop_of_length_le hge]; rfl
 refine al hI rfl ⟨rfl, trivial⟩ fun H1 _ => aa _ (kA _ _) (af ⟨?_, rfl⟩)
 rw [← qc _ l 0 (by omega)]
theorem wm {H : Heap} {sv : Value} {zs : List Int} (hs : Sl H 1 sv (ba zs)) (hlen : zs.length ≤ 1000) (k1 : Nat) (T : TypeId) :
  Triple PP dt [.func (.func 79) #[] #[.pointer (some ⟨k1, 0, none⟩)]] H [(k1, .cells #[sv] T (0, 0))] fun r H' O' => Sl H' 1 r (ba (bJ zs)) ∧ O' = [] := by
 refine (xA hs hlen k1 T).ghost ?_
 intro v H' O' _ hc ho
 obtain ⟨H'', g, k, _⟩ := ho.freeze (X := []) (by simpa using hc)
 exact ⟨H'', [], by simpa using g, k, rfl⟩
def mG (acc : List Cp) (i : Int) : List Cp := match acc.getLast? with
 | some x => if x.card = i then acc.dropLast ++ [⟨i, x.n + 1⟩] else acc ++ [⟨i, 1⟩]
 | none => [⟨i, 1⟩]
def oZ (zs : List Int) : List Cp := zs.foldl mG []
def ofV (zs : List Int) : List Cp × Int := if 60 < zs.length then ([], 5) else if (zs.any fun x => decide (x < 0)) = true then ([], 2) else (oZ (bJ zs), 0)
theorem sd {sl x : Value} {i : Nat} {C : List Value → Heap → Go.Sx.Own → Prop} {l4 : List Value} {v5 : Value} {init : List Cp} {c m : Int} {H : Heap} {O : Go.Sx.Own} {QT : Value → Heap → Go.Sx.Own → Prop} (hO : OSl an 2 sl ((init ++ [(⟨c, m⟩ : Cp)]).map Cp.row) O) (hi : i + 1 < 2 ^ 63) (hm : 0 ≤ m ∧ m < 1000)
  (hk : ∀ O', OSl an 2 sl ((init ++ [(⟨c, m + 1⟩ : Cp)]).map Cp.row) O' → (Tree.cont 15 C [sl, iV ((i + 1 : Nat) : Int)] (Es [[g l4 0], [v5]])).den PP QT H O') : (hZ [sl] [x, iV i] C l4 v5).den PP QT H O := by
 simp only [hZ]
 have hl := hO.len
 have hlen : ((init ++ [(⟨c, m⟩ : Cp)]).map Cp.row).length = init.length + 1 := by simp
 rw [hlen] at hl
 have hB := hO.lenB
 rw [hlen] at hB
 have hget : ((init ++ [(⟨c, m⟩ : Cp)]).map Cp.row)[init.length]? = some [iV c, iV m] := by simp [Cp.row]
 obtain ⟨a, k1, ksp, _, k3⟩ := hO.idx (O := O) (fun p hp => hp) H (k := .i64) hget
 obtain ⟨a', j1, j2⟩ := hO.store (O := O) (O2 := []) (by simp) (k := .i64) hget
 have haa : a' = a := by rw [k1] at j1; simpa using j1.symm
 subst haa
 have k3' := k3 1 1 (by omega)
 refine aa _ hl ?_
 refine aa (iV ((init.length : Nat) : Int)) ?_ ?_
 ·have : IntKind.i64.wrap (((init.length + 1 : Nat) : Int) - 1) = ((init.length : Nat) : Int) := by rw [mJ (by omega) (by omega)]; omega
  show some (iV (IntKind.i64.wrap (((init.length + 1 : Nat) : Int) - 1))) = _
  rw [this]
 refine aa _ k1 ?_
 refine aB rfl ?_
 refine ao (vs := [iV m]) k3' rfl ⟨rfl, trivial⟩ ?_
 refine aa _ (qA (by omega) (by omega)) ?_
 refine aa _ k1 ?_
 refine aB rfl (aB rfl ?_)
 obtain ⟨O1', s1, s2⟩ := j2 1 [iV (m + 1)] (by simp) ⟨rfl, trivial⟩
 refine ⟨_, s1, ?_⟩
 rw [List.append_nil]
 refine aa _ (aW hi) ?_
 refine hk O1' ?_
 have e : ((init ++ [(⟨c, m⟩ : Cp)]).map Cp.row).set init.length (bI [iV c, iV m] 1 [iV (m + 1)]) = (init ++ [(⟨c, m + 1⟩ : Cp)]).map Cp.row := by
  rw [List.map_append, List.map_append, List.set_append, if_neg (by simp)]
  simp [bI, Cp.row]
 rw [← e]; exact s2
theorem tN (i : Int) : mG [] i = [⟨i, 1⟩] := rfl
theorem ji {init : List Cp} {c m : Int} : mG (init ++ [⟨c, m⟩]) c = init ++ [⟨c, m + 1⟩] := by simp [mG]
theorem kK {init : List Cp} {c m i : Int} (h : c ≠ i) : mG (init ++ [⟨c, m⟩]) i = init ++ [⟨c, m⟩] ++ [⟨i, 1⟩] := by simp [mG, h]
def y2 (k : Int) (acc : List Cp) : Prop := ∀ x ∈ acc, 0 ≤ x.n ∧ x.n ≤ k
theorem zz {acc : List Cp} {k i : Int} (hk : 0 ≤ k) (h : y2 k acc) : y2 (k + 1) (mG acc i) ∧ (mG acc i).length ≤ acc.length + 1 := by
 rcases List.eq_nil_or_concat acc with rfl | ⟨init, x, rfl⟩
 ·rw [tN]
  refine ⟨fun y hy => ?_, by simp⟩
  obtain rfl : y = ⟨i, 1⟩ := by simpa using hy
  exact ⟨by show (0:Int) ≤ 1; omega, by show (1:Int) ≤ k + 1; omega⟩
 ·rw [List.concat_eq_append] at h ⊢
  obtain ⟨c, m⟩ := x
  have hx := h ⟨c, m⟩ (by simp)
  have hi : ∀ y ∈ init, 0 ≤ y.n ∧ y.n ≤ k := fun y hy => h y (by simp [hy])
  by_cases e : c = i
  ·subst e
   rw [ji]
   refine ⟨fun y hy => ?_, by simp⟩
   rcases List.mem_append.1 hy with hy | hy
   ·have := hi y hy; omega
   ·obtain rfl : y = ⟨c, m + 1⟩ := by simpa using hy
    exact ⟨by show (0:Int) ≤ m + 1; have := hx.1; simp at this; omega, by show m + 1 ≤ k + 1; have := hx.2; simp at this; omega⟩
  ·rw [kK e]
   refine ⟨fun y hy => ?_, by simp⟩
   rcases List.mem_append.1 hy with hy | hy
   ·have := h y hy; omega
   ·obtain rfl : y = ⟨i, 1⟩ := by simpa using hy
    exact ⟨by show (0:Int) ≤ 1; omega, by show (1:Int) ≤ k + 1; omega⟩
def BB (zs : List Int) (r : Value) (H' : Heap) (O' : Go.Sx.Own) : Prop := (∃ sl, r = .tuple #[sl, iV (ofV zs).2] ∧ oo H' sl (ofV zs).1) ∧ O' = []
def BC (zs : List Int) (r : Value) (_ : Heap) (O' : Go.Sx.Own) : Prop := ∃ sl, r = .tuple #[sl, iV (ofV zs).2] ∧ OSl an 2 sl ((ofV zs).1.map Cp.row) O'
theorem A9 {H : Heap} {v : Value} {zs : List Int} (hs : Sl H 1 v (ba zs)) : Triple PP ol [v] H [] (BC zs) := by
 refine rW (vs := [v]) (by kernel_rfl) ⟨hs.one, trivial⟩ ?_
 simp only [rH]
 have hl := hs.len
 have hil : (ba zs).length = zs.length := by simp [ba]
 rw [hil] at hl
 refine aa _ hl (aa _ (ge _ _) (aj (fun hd => ?_) (fun hd => ?_)))
 ·have : 60 < zs.length := by have := of_decide_eq_true hd; omega
  exact af ⟨.slice none 0 0, by rw [ofV, if_pos this], by rw [ofV, if_pos this]; exact OSl.nil _ _⟩
 have h60 : ¬ 60 < zs.length := by have := of_decide_eq_false hd; omega
 refine al (Ao hs _) rfl ⟨rfl, trivial⟩ fun H1 l1 => aj (fun hd => ?_) (fun hd => ?_)
 ·have hd : (zs.any fun x => decide (x < 0)) = true := hd
  exact af ⟨.slice none 0 0, by rw [ofV, if_neg h60, if_pos hd], by rw [ofV, if_neg h60, if_pos hd]; exact OSl.nil _ _⟩
 have hd : ¬ (zs.any fun x => decide (x < 0)) = true := by have hd : (zs.any fun x => decide (x < 0)) = false := hd; rw [hd]; simp
 have hV : ofV zs = (oZ (bJ zs), 0) := by rw [ofV, if_neg h60, if_neg hd]
 refine cE (O1 := []) (O2 := []) (by simp) (xz v hs.one H1) ?_
 rintro _ H2 _ ⟨k, rfl, rfl⟩ l2
 refine ⟨[_], rfl, ⟨rfl, trivial⟩, ?_⟩
 refine cE (O1 := [(k, .cells #[v] 33 (0, 0))]) (O2 := []) (by simp) (wm (hs.le (Heap.le_trans l1 l2)) (by omega) k _) ?_
 rintro sv H3 _ ⟨hsv, rfl⟩ l3
 refine ⟨[sv], rfl, ⟨hsv.one, trivial⟩, ?_⟩
 have hzl : (bJ zs).length = zs.length := iF zs
 rw [oZ] at hV
 generalize bJ zs = z at *
 have hsl := hsv.len
 have hzl2 : (ba z).length = z.length := by simp [ba]
 rw [hzl2] at hsl
 refine aa _ hsl ?_
 refine gV (fun vs H' O' => ∃ (i : Nat) (sl : Value), vs = [sl, iV i] ∧ i ≤ z.length ∧ Heap.le H3 H' ∧ OSl an 2 sl (((z.take i).foldl mG []).map Cp.row) O' ∧ y2 i ((z.take i).foldl mG []) ∧ ((z.take i).foldl mG []).length ≤ i) (fun vs _ _ => match g vs 1 with | .int _ k => z.length + 1 - k.toNat | _ => 0)
  ⟨0, .slice none 0 0, rfl, Nat.zero_le _, Heap.le_refl _, OSl.nil _ _, fun x hx => (by cases hx), Nat.le_refl _⟩ ?_
 rintro _ H4 O4 _ _ _ ⟨i, sl, rfl, hi, hle, hO, hco, hcl⟩
 refine aa _ (bm _ _) (aj (fun hlt => ?_) (fun hge => ?_))
 rotate_left
 ·have hge : z.length ≤ i := by have := of_decide_eq_false hge; omega
  rw [List.take_of_length_le hge] at hO
  exact af ⟨sl, by rw [hV]; rfl, by rw [hV]; exact hO⟩
 have hlt : i < z.length := by have := of_decide_eq_true hlt; omega
 have hstep : (z.take (i + 1)).foldl mG [] = mG ((z.take i).foldl mG []) z[i] := by rw [List.take_add_one, List.getElem?_eq_getElem hlt, Option.toList_some, List.foldl_append]; rfl
 obtain ⟨hco2, hcl2⟩ := zz (i := z[i]) (by omega) hco
 rw [← hstep] at hco2 hcl2
 obtain ⟨a, k1, k2, _, k3, k4⟩ := ((hsv.le hle).rsl O4).idx .i64 i [iV z[i]] (by simp [ba, hlt])
 refine aa _ k1 (ao k2 k3 k4 ?_)
 have hol := hO.len
 rw [List.length_map] at hol
 refine aa _ hol (aa _ (av _ _) ?_)
 generalize hacc : (z.take i).foldl mG [] = acc at *
 generalize z[i] = zi at *
 rcases List.eq_nil_or_concat acc with rfl | ⟨init, x, rfl⟩
 ·refine ae ?_
  refine aa (iV (-1)) rfl ?_
  refine ae (ae ?_)
  refine ⟨.pointer (some ⟨0, 0, none⟩), fun hg => (by have := hg.1; simp at this), .inr rfl, ?_⟩
  repeat (first | refine ab ?_ | refine ae ?_ | refine aB rfl ?_ | refine ⟨fun _ => rfl, ?_⟩)
  refine ldG [iV 0] rfl ⟨rfl, trivial⟩ (fun hg => (by have := hg.1; simp at this)) ?_
  refine ae (ae ?_)
  refine aa _ (fw _ _) ?_
  refine ae ?_
  refine aa _ (cz _ _) (aj (fun _ => ?_) (fun hd => by cases hd))
  refine ai fun r0 => ?_
  refine b6 (rows := []) (news := [[iV zi, iV 0]]) (O1 := O4) (O2 := []) (e := an) (size := 2) (bytes := 16) (by kernel_rfl) (by simp) hO (fun Hf _ hf => Sl.block1 (hf _ List.mem_cons_self) rfl ⟨rfl, rfl, trivial⟩) (by simp) (by simp) ?_
  intro v' O1' H5 l5 hO'
  rw [List.append_nil]
  refine sd (init := []) (c := zi) (m := 0) hO' (by omega) (by omega) fun O5 h5 => ?_
  refine eN (by simp [Eqs, E, Es]) ⟨i + 1, v', rfl, hlt, Heap.le_trans hle l5, by rw [hstep, tN]; exact h5, hco2, by omega⟩ ?_
  show z.length + 1 - ((i + 1 : Nat) : Int).toNat < z.length + 1 - (i : Int).toNat
  omega
 ·rw [List.concat_eq_append] at *
  obtain ⟨c, m⟩ := x
  have hm0 := hco ⟨c, m⟩ (by simp)
  have hm0 : 0 ≤ m ∧ m ≤ (i : Int) := hm0
  have hlen1 : (init ++ [(⟨c, m⟩ : Cp)]).length = init.length + 1 := by simp
  rw [hlen1]
  have hB := hO.lenB
  rw [List.length_map, hlen1] at hB
  have hget : ((init ++ [(⟨c, m⟩ : Cp)]).map Cp.row)[init.length]? = some [iV c, iV m] := by simp [Cp.row]
  obtain ⟨b, q1, _, _, q3⟩ := hO.idx (O := O4) (fun p hp => hp) H4 (k := .i64) hget
  have q3' := q3 0 1 (by omega)
  rw [Bt] at q3'
  have hne0 : ((((init.length + 1 : Nat) : Int)) == 0) = false := by rw [beq_eq_false_iff_ne]; omega
  rw [hne0]
  refine ae ?_
  refine aa (iV ((init.length : Nat) : Int)) ?_ ?_
  ·have : IntKind.i64.wrap (((init.length + 1 : Nat) : Int) - 1) = ((init.length : Nat) : Int) := by rw [mJ (by omega) (by omega)]; omega
   show some (iV (IntKind.i64.wrap (((init.length + 1 : Nat) : Int) - 1))) = _
   rw [this]
  refine ae (ae ?_)
  refine ⟨_, fun _ => q1, .inr rfl, ?_⟩
  repeat (first | refine ab ?_ | refine ae ?_ | refine aB rfl ?_ | refine ⟨fun _ => rfl, ?_⟩)
  refine ldG [iV c] rfl ⟨rfl, trivial⟩ (fun _ => q3') ?_
  refine ae (ae ?_)
  refine aa _ (fw _ _) ?_
  refine ae ?_
  refine aa _ (cz _ _) (aj (fun hd => ?_) (fun hd => ?_))
  ·have hne : c ≠ zi := by
    have hd : (false || (c != zi)) = true := hd
    simpa using hd
   refine ai fun r0 => ?_
   refine b6 (rows := (init ++ [(⟨c, m⟩ : Cp)]).map Cp.row) (news := [[iV zi, iV 0]]) (O1 := O4) (O2 := []) (e := an) (size := 2) (bytes := 16) (by kernel_rfl) (by simp) hO (fun Hf _ hf => Sl.block1 (hf _ List.mem_cons_self) rfl ⟨rfl, rfl, trivial⟩) (by simp; simp at hcl; omega) (by simp; simp at hcl; omega) ?_
   intro v' O1' H5 l5 hO'
   rw [List.append_nil]
   refine sd (init := init ++ [(⟨c, m⟩ : Cp)]) (c := zi) (m := 0) (by rw [List.map_append]; exact hO') (by omega) (by omega) fun O5 h5 => ?_
   refine eN (by simp [Eqs, E, Es]) ⟨i + 1, v', rfl, hlt, Heap.le_trans hle l5, by rw [hstep, kK hne]; exact h5, hco2, by omega⟩ ?_
   show z.length + 1 - ((i + 1 : Nat) : Int).toNat < z.length + 1 - (i : Int).toNat
   omega
  ·have he : c = zi := by
    have hd : (false || (c != zi)) = false := hd
    simpa using hd
   subst he
   refine sd (init := init) (c := c) (m := m) hO (by omega) (by omega) fun O5 h5 => ?_
   refine eN (by simp [Eqs, E, Es]) ⟨i + 1, sl, rfl, hlt, hle, by rw [hstep, ji]; exact h5, hco2, by omega⟩ ?_
   show z.length + 1 - ((i + 1 : Nat) : Int).toNat < z.length + 1 - (i : Int).toNat
   omega
theorem BX {H : Heap} {v : Value} {zs : List Int} (hs : Sl H 1 v (ba zs)) : Triple PP ol [v] H [] (BB zs) := by
 refine (A9 hs).ghost ?_
 rintro r H' O' _ hc ⟨sl, rfl, ho⟩
 obtain ⟨H'', g, k, _⟩ := ho.freeze (X := []) (by simpa using hc)
 exact ⟨H'', [], by simpa using g, ⟨sl, rfl, k⟩, rfl⟩
deriving instance DecidableEq for Cp
theorem A6 (o p : Cp) : zQ PP (.eqv .neq an false) [.agg o.row.toArray, .agg p.row.toArray] = some (.bool (!(o == p))) := by
 have e : zQ PP (.eqv .neq an false) [.agg o.row.toArray, .agg p.row.toArray] = (wh [o.card == p.card, o.n == p.n]).map fun b => .bool (!b) := by kernel_rfl
 rw [e, rm]
 obtain ⟨a, b⟩ := o
 obtain ⟨c, d⟩ := p
 have : ((⟨a, b⟩ : Cp) == ⟨c, d⟩) = (a == c && b == d) := by
  rw [Bool.eq_iff_iff]; simp
 rw [this]
 simp
theorem yv {H : Heap} (O : Go.Sx.Own) {v v' : Value} {l l' : List Int} (h : Sl H 1 v (ba l)) (h' : Sl H 1 v' (ba l')) : RetO PP fm [v, v'] H O (.bool (decide (l = l'))) := by
 refine iJ (vs := [v, v']) (by kernel_rfl) ⟨h.one, h'.one, trivial⟩ ?_
 simp only [fh]
 have lo := h.len
 have lo' := h'.len
 have hB := h.lenB
 have e1 : (ba l).length = l.length := by simp [ba]
 have e2 : (ba l').length = l'.length := by simp [ba]
 rw [e1] at lo hB
 rw [e2] at lo'
 refine aa _ lo (aa _ lo' (aa _ (fw _ _) (aj (fun hb => af ⟨?_, rfl⟩) (fun hb => ?_))))
 ·rw [decide_eq_false]; rintro rfl; simp at hb
 have hll : l.length = l'.length := by simp at hb; omega
 refine bS l.length (fun i H' O' => O' = O ∧ Heap.le H H' ∧ l.take i = l'.take i) ⟨rfl, Heap.le_refl H, by simp⟩ ?_
 rintro i H4 O' hi - ⟨rfl, l4, hor⟩
 refine aa _ lo ?_
 refine aa _ (bm _ _) (aj (fun hb => ?_) (fun hb => ?_))
 ·have hlt : i < l.length := by simpa using hb
  have hlt' : i < l'.length := by omega
  obtain ⟨p, h1, h2, _, h3, h4⟩ := ((h.le l4).rsl O').idx .i64 i [iV l[i]] (by simp [ba, hlt])
  obtain ⟨q, k1, k2, _, k3, k4⟩ := ((h'.le l4).rsl O').idx .i64 i [iV l'[i]] (by simp [ba, hlt'])
  refine aa _ h1 (ao h2 h3 h4 ?_)
  refine aa _ k1 (ao k2 k3 k4 ?_)
  refine aa _ (fw _ _) (aj (fun hb => af ⟨?_, rfl⟩) (fun hb => ?_))
  ·have hne : l[i] ≠ l'[i] := by simpa using hb
   rw [decide_eq_false]; rintro rfl; exact hne rfl
  ·have he : l[i] = l'[i] := by simpa using hb
   refine aa _ (aW (by omega)) (bp (by simp [Eqs, E]) hlt ⟨rfl, l4, ?_⟩)
   rw [List.take_add_one, List.take_add_one, hor, List.getElem?_eq_getElem hlt, List.getElem?_eq_getElem hlt', he]
 ·have hge : l.length ≤ i := by simpa using hb
  rw [List.take_of_length_le hge, List.take_of_length_le (by omega)] at hor
  exact af ⟨by rw [decide_eq_true hor], rfl⟩
theorem vm {H : Heap} (O : Go.Sx.Own) {v v' : Value} {l l' : List Cp} (h : oo H v l) (h' : oo H v' l') : RetO PP fk [v, v'] H O (.bool (decide (l = l'))) := by
 refine iI (vs := [v, v']) (by kernel_rfl) ⟨h.one, h'.one, trivial⟩ ?_
 simp only [fg]
 obtain ⟨lo, hB⟩ := nH h
 obtain ⟨lo', _⟩ := nH h'
 refine aa _ lo (aa _ lo' (aa _ (fw _ _) (aj (fun hb => af ⟨?_, rfl⟩) (fun hb => ?_))))
 ·rw [decide_eq_false]; rintro rfl; simp at hb
 have hll : l.length = l'.length := by simp at hb; omega
 refine bS l.length (fun i H' O' => O' = O ∧ Heap.le H H' ∧ l.take i = l'.take i) ⟨rfl, Heap.le_refl H, by simp⟩ ?_
 rintro i H4 O' hi - ⟨rfl, l4, hor⟩
 refine aa _ lo ?_
 refine aa _ (bm _ _) (aj (fun hb => ?_) (fun hb => ?_))
 ·have hlt : i < l.length := by simpa using hb
  have hlt' : i < l'.length := by omega
  obtain ⟨p, h1, h2, _, _⟩ := vZ O' (h.le l4) hlt
  obtain ⟨q, k1, k2, _, _⟩ := vZ O' (h'.le l4) hlt'
  refine aa _ h1 (ao h2 rfl ⟨rfl, rfl, trivial⟩ ?_)
  refine aa _ k1 (ao k2 rfl ⟨rfl, rfl, trivial⟩ ?_)
  refine wV (A6 l[i] l'[i]) (aj (fun hb => af ⟨?_, rfl⟩) (fun hb => ?_))
  ·have hne : l[i] ≠ l'[i] := by simpa using hb
   rw [decide_eq_false]; rintro rfl; exact hne rfl
  ·have he : l[i] = l'[i] := by simpa using hb
   refine aa _ (aW (by omega)) (bp (by simp [Eqs, E]) hlt ⟨rfl, l4, ?_⟩)
   rw [List.take_add_one, List.take_add_one, hor, List.getElem?_eq_getElem hlt, List.getElem?_eq_getElem hlt', he]
 ·have hge : l.length ≤ i := by simpa using hb
  rw [List.take_of_length_le hge, List.take_of_length_le (by omega)] at hor
  exact af ⟨by rw [decide_eq_true hor], rfl⟩
theorem ye {H : Heap} {v v' : Value} {zs : List Int} {l : List Cp} (hs : Sl H 1 v (ba zs)) (h' : oo H v' l) (e : Int) : RetO PP dr [v, v', iV e] H [] (.bool (decide ((ofV zs).1 = l) && (ofV zs).2 == e)) := by
 refine iK (vs := [v, v', iV e]) (by kernel_rfl) ⟨hs.one, h'.one, rfl, trivial⟩ ?_
 simp only [fi]
 refine bA (BX hs) ?_
 rintro _ H1 _ ⟨⟨sl, rfl, h1⟩, rfl⟩ l1
 refine ⟨[sl, iV (ofV zs).2], rfl, ⟨h1.one, rfl, trivial⟩, ?_⟩
 refine al (vm _ h1 (h'.le l1)) rfl ⟨rfl, trivial⟩ fun H2 l2 => ?_
 refine ae (ae (aa _ (av _ _) (ae (aa _ (aJ _ _) ?_))))
 exact af ⟨rfl, rfl⟩
theorem xt {H : Heap} {p v : Value} {cs : List CdF} (hp : PoolF H p cs) (hG : GlobOk H) {s : List UInt8} (hs : s.length ≤ 1000) {l : List Cp} (h' : oo H v l) (m e : Int) : RetO PP cH [p, Str s, v, iV m, iV e] H [] (.bool ((decide ((cA cs s).1 = l) && (cA cs s).2.1 == m) && (cA cs s).2.2 == e)) := by
 refine gv (vs := [p, Str s, v, iV m, iV e]) (by kernel_rfl) ⟨hp.one, rfl, h'.one, rfl, rfl, trivial⟩ ?_
 simp only [ed]
 refine bA (zh hp hG s hs) ?_
 rintro _ H1 _ ⟨⟨sl, rfl, h1⟩, rfl⟩ l1
 refine ⟨[sl, iV (cA cs s).2.1, iV (cA cs s).2.2], rfl, ⟨h1.one, rfl, rfl, trivial⟩, ?_⟩
 refine al (vm _ h1 (h'.le l1)) rfl ⟨rfl, trivial⟩ fun H2 l2 => ?_
 refine ae (ae (aa _ (av _ _) (ae (aa _ (aJ _ _) (ae (ae (aa _ (av _ _) (ae (aa _ (aJ _ _) ?_)))))))))
 exact af ⟨rfl, rfl⟩
theorem vX {n : Nat} (h : n < 10) : Go.Lib.decDigits n = [UInt8.ofNat (48 + n)] := by rw [Go.Lib.decDigits, dif_pos h]
theorem yX {n : Nat} (h : ¬ n < 10) : Go.Lib.decDigits n = Go.Lib.decDigits (n / 10) ++ [UInt8.ofNat (48 + n % 10)] := by rw [Go.Lib.decDigits, dif_neg h]
theorem vY {n : Nat} (h : n < 100) : (Go.Lib.decDigits n).length ≤ 2 := by
 by_cases h1 : n < 10
 ·rw [vX h1]; simp
 ·rw [yX h1, vX (by omega)]; simp
theorem zk (n : Nat) (h : n < 100) (H : Heap) (O : Go.Sx.Own) : RetO PP 40 [iV n] H O (Str (Go.Lib.decDigits n)) := by
 refine d5 fun w F hm => ?_
 refine (Tryz.strconv_Itoa_small n h w).mono ?_
 rintro e w' ⟨rfl, rfl⟩
 exact ⟨rfl, fun _ _ => rfl, rfl⟩
def pX (cs : List CdF) (x : Cp) : List UInt8 := Go.Lib.decDigits x.n.toNat ++ [32] ++ (jE cs x.card).nm ++ [10]
def mM (cs : List CdF) (l : List Cp) : List UInt8 := l.flatMap (pX cs)
theorem xQ {c : CdF} (h : okN c) : 1 ≤ c.nm.length ∧ c.nm.length ≤ 32 := by
 have h := h.1
 simp only [iQ, wi, Bool.and_eq_true, decide_eq_true_eq] at h
 omega
theorem tI {cs : List CdF} {i : Int} (h : inP cs i) : jE cs i ∈ cs := by
 have hlt : i.toNat < cs.length := by have := h.1; have := h.2; omega
 rw [jE, if_pos h, List.getD_eq_getElem?_getD, List.getElem?_eq_getElem hlt]
 exact List.getElem_mem hlt
theorem xf {cs : List CdF} (hk : ∀ c ∈ cs, okN c) {x : Cp} (hx : lF cs x) : (pX cs x).length ≤ 36 ∧ 4 ≤ (pX cs x).length ∨ (pX cs x).length ≤ 36 := by
 right
 have h1 := (xQ (hk _ (tI hx.1))).2
 have h2 := vY (n := x.n.toNat) (by have := hx.2.1; have := hx.2.2.1; omega)
 simp only [pX, List.length_append, List.length_singleton]
 omega
theorem uR {cs : List CdF} {l : List Cp} {i : Nat} (hi : i < l.length) : mM cs (l.take (i + 1)) = mM cs (l.take i) ++ pX cs l[i] := by
 rw [List.take_add_one, List.getElem?_eq_getElem hi, Option.toList_some, mM, List.flatMap_append, List.flatMap_singleton]
 rfl
theorem js : ∀ {l r : List Int}, l.Pairwise (· < ·) → r.Pairwise (· < ·) → (∀ x, x ∈ l ↔ x ∈ r) → l = r
 | [], [], _, _, _ => rfl
 | [], b :: r, _, _, h => by have := (h b).2 (by simp); cases this
 | a :: l, [], _, _, h => by have := (h a).1 (by simp); cases this
 | a :: l, b :: r, hl, hr, h => by
  rw [List.pairwise_cons] at hl hr
  have e : a = b := by
   have h1 := (h a).1 (by simp)
   have h2 := (h b).2 (by simp)
   rcases List.mem_cons.1 h1 with e | h1
   ·exact e
   rcases List.mem_cons.1 h2 with e | h2
   ·exact e.symm
   have := hl.1 b h2
   have := hr.1 a h1
   omega
  subst e
  congr 1
  refine js hl.2 hr.2 fun x => ⟨fun hx => ?_, fun hx => ?_⟩
  ·rcases List.mem_cons.1 ((h x).1 (by simp [hx])) with e | h'
   ·have := hl.1 x hx; omega
   ·exact h'
  ·rcases List.mem_cons.1 ((h x).2 (by simp [hx])) with e | h'
   ·have := hr.1 x hx; omega
   ·exact h'
theorem q9 : ∀ {l : List Cp} {b : Int}, zW b l → (l.map (·.card)).Pairwise (· < ·) ∧ ∀ x ∈ l, b < x.card
 | [], _, _ => ⟨List.Pairwise.nil, fun x hx => (by cases hx)⟩
 | x :: l, b, h => by
  obtain ⟨h1, h2⟩ := q9 h.2
  refine ⟨?_, fun y hy => ?_⟩
  ·rw [List.map_cons, List.pairwise_cons]
   refine ⟨fun c hc => ?_, h1⟩
   obtain ⟨y, hy, rfl⟩ := List.mem_map.1 hc
   exact h2 y hy
  ·rcases List.mem_cons.1 hy with rfl | hy
   ·exact h.1
   ·have := h2 y hy
    have := h.1
    omega
theorem tV {l l' : List Cp} (hp : l'.Perm l) {b : Int} (hi : zW b l) : jT l' = l := by
 obtain ⟨h1, _⟩ := q9 hi
 have hnd : (l.map (·.card)).Nodup := h1.imp fun h e => by omega
 have hnd' : (l'.map (·.card)).Nodup := (hp.map _).nodup_iff.2 hnd
 have hz : bJ (l'.map (·.card)) = l.map (·.card) := by
  have hperm : (bJ (l'.map (·.card))).Perm (l'.map (·.card)) := List.mergeSort_perm _ _
  have hs : (bJ (l'.map (·.card))).Pairwise fun x y => decide (x ≤ y) = true := List.pairwise_mergeSort (fun a b c h1 h2 => by simp at *; omega) (fun a b => by simp; omega) _
  have hn := hperm.nodup_iff.2 hnd'
  refine js ?_ h1 fun x => ?_
  ·exact List.Pairwise.imp₂ (fun a b h1 h2 => by simp at h1; omega) hs hn
  ·rw [hperm.mem_iff, (hp.map _).mem_iff]
 rw [jT, hz, List.map_map]
 have : ∀ x ∈ l, ((fun c => (⟨c, sC l' c⟩ : Cp)) ∘ (·.card)) x = x := fun x hx => by
  show (⟨x.card, sC l' x.card⟩ : Cp) = x
  rw [rk hnd' (hp.mem_iff.2 hx)]
 rw [List.map_congr_left this, List.map_id']
end Go.Proofs.YtamgiojcbdbokaaGreatDoor
namespace Go.Sx
open Go Go.Proofs Go.Lib
set_option maxRecDepth 100000
set_option maxHeartbeats 1000000
def di (l : List UInt8) : List (List Value) := l.map fun b => [.int .u8 b.toNat]
theorem dh (l : List UInt8) : (di l).length = l.length := List.length_map _
theorem o8 (l : List UInt8) : (di l).flatten = strCells ⟨l.toArray⟩ := by
 have h : ∀ l : List UInt8, (di l).flatten = l.map fun b => Value.int .u8 b.toNat := fun l => by
  induction l with
  | nil => rfl
  | cons b l ih => simp only [di, List.map_cons, List.flatten_cons] at ih ⊢; rw [ih]; rfl
 rw [h, strCells]
theorem rD (l s : List UInt8) : di (l ++ s) = di l ++ di s := List.map_append
theorem dY {l : List UInt8} {row : List Value} (h : row ∈ di l) : row.length = 1 ∧ Ones row := by
 obtain ⟨b, _, rfl⟩ := List.mem_map.1 h
 exact ⟨rfl, rfl, trivial⟩
theorem uH {P : Program} {t u ty e : TypeId} {i : TypeInfo} (ht : P.underlying t = some (.slice e)) (hu : P.underlying u = some .string) (hi : P.info? e = some i) (hz : i.zero = some (.int .u8 0)) (hs1 : i.size = 1) (hby : i.bytes = 1)
  {v : Value} {l s : List UInt8} {H : Heap} {O1 : Go.Sx.Own} (h : OSl e 1 v (di l) O1) (hlen : l.length + s.length ≤ 100000000) :
  bE P ((PrimOp.bi .append #[t, u] ty).sem [v, Str s]) H O1 fun v' H' O' => H' = H ∧ OSl e 1 v' (di (l ++ s)) O' := by
 intro w F hm
 have hsz : (⟨s.toArray⟩ : ByteArray).size = s.length := by simp [ByteArray.size]
 have hsc : strCells ⟨s.toArray⟩ = (di s).flatten := (o8 s).symm
 have hsl : (di s).flatten.length = s.length := by rw [← hsc, strCells_length, hsz]
 have grown : ∀ (cap : Nat) (olds : List Value), olds = (di l).flatten → cap < l.length + s.length → ∀ O2, Models w H (O2 ++ F) →
   (Builtin.append_ #[t, u] ty #[v, .string ⟨s.toArray⟩]).run P w = .ok (.slice (some ⟨w.heap.size, 0, none⟩) (l.length + s.length) (grownCap w (l.length + s.length) cap e))
    (w.drew.alloc (.cells (olds.toArray ++ (strCells ⟨s.toArray⟩).toArray ++ Builtin.zeroCells (Value.int .u8 0).cells (grownCap w (l.length + s.length) cap e - (l.length + s.length))) e)) →
   ∃ r w' H' O', ((PrimOp.bi .append #[t, u] ty).sem [v, Str s]).run P w = .ok (.value r) w' ∧ (H' = H ∧ OSl e 1 r (di (l ++ s)) O') ∧ Heap.le H H' ∧ Models w' H' (O' ++ F) := by
  intro cap olds ho hc O2 hm2 hrun
  have hd : Models w.drew H (O2 ++ F) := Models.same hm2 rfl rfl
  have hol : olds.length = l.length := by rw [ho, az (size := 1) (fun r hr => (dY hr).1), dh, Nat.mul_one]
  have hge := grownCap_ge w (l.length + s.length) cap e
  have hcm : grownCap w (l.length + s.length) cap e ≤ maxLen := grownCap_le_maxLen w (l.length + s.length) cap e (by simp only [maxLen]; omega)
  generalize grownCap w (l.length + s.length) cap e = c2 at *
  have hp := hd.push (.cells (olds.toArray ++ (strCells ⟨s.toArray⟩).toArray ++ Builtin.zeroCells (Value.int .u8 0).cells (c2 - (l.length + s.length))) e (0, 0))
  have hcells : olds.toArray ++ (strCells ⟨s.toArray⟩).toArray ++ Builtin.zeroCells (Value.int .u8 0).cells (c2 - (l.length + s.length)) = ((di (l ++ s)).flatten ++ (Builtin.zeroCells (Value.int .u8 0).cells (c2 - (l.length + s.length))).toList).toArray := by
   apply Array.ext'
   rw [rD, List.flatten_append, ← ho, ← hsc]
   simp
  rw [hcells] at hrun hp
  refine ⟨.slice (some ⟨w.heap.size, 0, none⟩) (l.length + s.length) c2, w.drew.alloc (.cells ((di (l ++ s)).flatten ++ (Builtin.zeroCells (Value.int .u8 0).cells (c2 - (l.length + s.length))).toList).toArray e (0, 0)), H, [(w.heap.size, _)], ?_, ⟨rfl, .inr ⟨w.heap.size, (di (l ++ s)).flatten ++ (Builtin.zeroCells (Value.int .u8 0).cells (c2 - (l.length + s.length))).toList, c2, ?_, rfl, ?_, ?_, ?_, fun r hr => (dY hr).1, fun r hr => (dY hr).2, ?_⟩⟩, Heap.le_refl H, ?_⟩
  ·simp only [PrimOp.sem, builtin]
   rw [Sem.run_bind]
   show Result.andThen ((Builtin.append_ #[t, u] ty #[v, .string ⟨s.toArray⟩]).run P w) _ = _
   rw [hrun]
   rfl
  ·rw [dh, List.length_append]
  ·have h1 : (Builtin.zeroCells (Value.int .u8 0).cells (c2 - (l.length + s.length))).toList.length = c2 - (l.length + s.length) := by
    rw [Array.length_toList, size_zeroCells]
    show (c2 - (l.length + s.length)) * 1 = _
    omega
   have h2 : (di (l ++ s)).flatten.length = l.length + s.length := by rw [az (size := 1) (fun r hr => (dY hr).1), dh, List.length_append, Nat.mul_one]
   rw [List.length_append, h1, h2]
   omega
  ·rw [dh, List.length_append]; exact hge
  ·simp only [maxLen] at hcm; omega
  ·rw [← az (size := 1) (fun r hr => (dY hr).1), List.take_left]
  ·refine hp.sub ?_
   rw [List.singleton_append]
   exact (List.sublist_append_right O2 F).cons_cons _
 have hown := fun hne => h.ownsRow (w := w) (F := F) hne hm
 rcases h with ⟨⟨a, rfl⟩, hr, rfl⟩ | ⟨r, cs, cap, rfl, rfl, hcl, hlc, hcap, hl, ho, htk⟩
 ·have hl0 : l = [] := by simpa [di] using hr
  subst hl0
  by_cases hs0 : s = []
  ·subst hs0
   refine ⟨.slice a 0 0, w, H, [], ?_, ⟨rfl, .inl ⟨⟨a, rfl⟩, rfl, rfl⟩⟩, Heap.le_refl H, hm⟩
   simp only [PrimOp.sem, builtin]
   rw [Sem.run_bind]
   have : (Builtin.append_ #[t, u] ty #[.slice a 0 0, .string ⟨#[]⟩]).run P w = .ok (.slice a 0 0) w := by
    cases a <;> simp [Builtin.append_, run_underlying ht, run_underlying hu, sizeOf, typeInfo, hi, Builtin.lenOf, Builtin.firstCells, storeCells, ByteArray.size]
   show Result.andThen ((Builtin.append_ #[t, u] ty #[.slice a 0 0, .string ⟨#[]⟩]).run P w) _ = _
   rw [this]
   rfl
  ·have hpos : 0 < s.length := List.length_pos_iff.2 hs0
   refine grown 0 [] rfl (by simp; omega) [] hm ?_
   cases a with
   | none =>
    have hr := run_append_nil_string (P := P) w t u ty e i (.int .u8 0) ht hu hi hz ⟨s.toArray⟩ (by rw [hsz]; omega) (by rw [hsz]; omega) (by rw [hby, hsz]; omega)
    rw [hsz] at hr
    simp only [List.length_nil, Nat.zero_add, Array.empty_append]
    have e1 : ((⟨s.toArray⟩ : ByteArray).data.map fun b => Value.int .u8 b.toNat) = (strCells ⟨s.toArray⟩).toArray := by
     apply Array.ext'
     simp [strCells]
    rw [e1] at hr
    exact hr
   | some b =>
    have hr := run_append_grow_string (P := P) w t u ty e i (.int .u8 0) ht hu hi hz b 0 0 [] (by simp) (by simp) ⟨s.toArray⟩ (by rw [hsz]; omega) (by rw [hsz]; omega) (by rw [hby]; exact growslice_fits (by rw [hsz]; omega) (by rw [hsz]; omega))
    rw [hsz] at hr
    exact hr
 ·rw [dh] at hlc htk grown ⊢
  have hrow := (hm.own (r, .cells cs.toArray e (0, 0)) (by simp)).1
  have htk' : cs.take l.length = (di l).flatten := by simpa using htk
  by_cases hroom : l.length + s.length ≤ cap
  ·have hrun := run_append_room_string (P := P) w t u ty e i ht hu hi hs1 r l.length cap cs.toArray hrow ⟨s.toArray⟩ (by rw [hsz]; exact hroom) (by rw [hsz, List.size_toArray]; omega)
   rw [hsz] at hrun
   have hnew : cs.toArray.toList.take l.length ++ strCells ⟨s.toArray⟩ ++ cs.toArray.toList.drop (l.length + s.length) = (di (l ++ s)).flatten ++ cs.drop (l.length + s.length) := by
    rw [rD, List.flatten_append, ← htk', ← hsc]
   rw [hnew] at hrun
   have h2 : (di (l ++ s)).flatten.length = l.length + s.length := by rw [az (size := 1) (fun r hr => (dY hr).1), dh, List.length_append, Nat.mul_one]
   refine ⟨.slice (some ⟨r, 0, none⟩) (l.length + s.length) cap, w.setRow r ((di (l ++ s)).flatten ++ cs.drop (l.length + s.length)).toArray, H, [(r, .cells ((di (l ++ s)).flatten ++ cs.drop (l.length + s.length)).toArray e (0, 0))], ?_, ⟨rfl, .inr ⟨r, (di (l ++ s)).flatten ++ cs.drop (l.length + s.length), cap, ?_, rfl, ?_, ?_, hcap, fun r hr => (dY hr).1, fun r hr => (dY hr).2, ?_⟩⟩, Heap.le_refl H, ?_⟩
   ·simp only [PrimOp.sem, builtin]
    rw [Sem.run_bind]
    show Result.andThen ((Builtin.append_ #[t, u] ty #[.slice (some ⟨r, 0, none⟩) l.length cap, .string ⟨s.toArray⟩]).run P w) _ = _
    rw [hrun]
    rfl
   ·rw [dh, List.length_append]
   ·rw [List.length_append, h2, List.length_drop]; omega
   ·rw [dh, List.length_append]; exact hroom
   ·rw [← az (size := 1) (fun r hr => (dY hr).1), List.take_left]
   ·exact uk (vs := cs) hm
  ·refine grown cap (di l).flatten rfl (by omega) [(r, .cells cs.toArray e (0, 0))] hm ?_
   have hrun := run_append_grow_string (P := P) w t u ty e i (.int .u8 0) ht hu hi hz ⟨r, 0, none⟩ l.length cap (di l).flatten (by rw [az (size := 1) (fun r hr => (dY hr).1), dh, hs1]) (fun j u hj => ?_) ⟨s.toArray⟩ (by rw [hsz]; omega) (by rw [hsz]; omega) (by rw [hby]; exact growslice_fits (by rw [hsz]; omega) (by rw [hsz]; omega))
   ·rw [hsz] at hrun
    exact hrun
   ·exact (hown (by simp)).cells (g := r) rfl j u hj
end Go.Sx
