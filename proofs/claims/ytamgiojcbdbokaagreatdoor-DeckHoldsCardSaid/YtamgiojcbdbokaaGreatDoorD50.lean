/- DeckHolds is true. -/
import Derived.Test.YtamgiojcbdbokaaGreatDoorD24
import Derived.Test.YtamgiojcbdbokaaGreatDoorRows
import Derived.Test.YtamgiojcbdbokaaGreatDoorTie
import Derived.Test.YtamgiojcbdbokaaGreatDoorCards
import Derived.SevenTiedAt
import Derived.Carry
import Derived.Lay
import Derived.LaidMore
import Derived.ProofKit
import Derived.Stop.Joined
import Derived.Lib.LaidTab
import Derived.Shelf.Vars
namespace Go.Proofs.YtamgiojcbdbokaaGreatDoor
open Go Go.Sx
open Go.Sx (Own)
set_option maxRecDepth 100000
set_option maxHeartbeats 1000000
theorem vT {n : Int} : ∀ {l : List Cp} {b : Int}, xn b l → (∀ x ∈ l, x.card < n) → b < n → (l.length : Int) ≤ n - 1 - b
 | [], b, _, _, hb => by simp; omega
 | x :: l, b, h, hx, hb => by
  have := vT h.2 (fun y hy => hx y (List.mem_cons_of_mem _ hy)) (hx x List.mem_cons_self)
  have := h.1
  rw [List.length_cons]
  omega
theorem Bc {cs : List CdF} {l : List Cp} (h : Be cs l) : l.length ≤ cs.length := by
 have := vT (n := cs.length) h.2.1 (fun x hx => (h.1 x hx).1.2) (by omega)
 omega
theorem rk {cs : List CdF} (hk : ∀ c ∈ cs, okN c) : ∀ {l : List Cp}, (∀ x ∈ l, dz cs x) → (aR cs l).length ≤ 36 * l.length
 | [], _ => Nat.le_refl _
 | x :: l, h => by
  have h1 := vO hk (h x List.mem_cons_self)
  have h2 := rk hk (l := l) fun y hy => h y (List.mem_cons_of_mem _ hy)
  rw [jS, List.length_append, List.length_cons]
  omega
def AG (cs : List CdF) (l : List Cp) : Nat → Int
 | 0 => 0
 | j + 1 => AG cs l j + lP cs ((j + 1 : Nat) : Int) l
theorem uj {cs : List CdF} {l : List Cp} (h : Be cs l) : ∀ j, 0 ≤ AG cs l j ∧ AG cs l j ≤ 60 * j
 | 0 => ⟨Int.le_refl _, Int.le_refl _⟩
 | j + 1 => by
  have := uj h j
  have := uR (k := ((j + 1 : Nat) : Int)) h.1
  have := h.2.2.2
  rw [AG]
  omega
theorem EO {cs : List CdF} (hk : ∀ c ∈ cs, okN c) {l : List Cp} (h : Be cs l) : AG cs l 4 = lT l := by
 rw [← yT hk h.1]
 simp only [AG, Int.zero_add]
 rfl
theorem Fq {n m : Nat} (hn : n < 1000) (hm : 0 < m) : ah (.bin .rem .int) [iV n, iV m] = some (iV ((n % m : Nat) : Int)) := by
 have e : Int.tmod (n : Int) m = ((n % m : Nat) : Int) := by rw [Int.tmod_eq_emod_of_nonneg (by omega)]; rfl
 have h0 : ¬ (m : Int) = 0 := by omega
 simp [ah, b8, b7, e, h0]
 try omega
theorem Bz {s : List UInt8} {i : Nat} (h : i < s.length) : mM 0 (s.take (i + 1)) = mM 0 (s.take i) ++ if s[i] = 10 then [((i + 1 : Nat) : Int)] else [] := by
 have e : s.take (i + 1) = s.take i ++ [s[i]] := by rw [List.take_add_one, List.getElem?_eq_getElem h]; rfl
 rw [e, yl, List.length_take, Nat.min_eq_left (by omega)]
abbrev IK (cs : List CdF) (l : List Cp) (H0 : Heap) : List Value → Heap → Go.Sx.Own → Prop := fun vs H O => ∃ j : Nat, vs = [iV (AG cs l j), iV ((j + 1 : Nat) : Int)] ∧ j ≤ 4 ∧ O = [] ∧ Heap.le H0 H
abbrev MK : List Value → Heap → Go.Sx.Own → Nat := fun vs _ _ => match g vs 1 with | .int _ k => 5 - k.toNat | _ => 0
theorem tz {H : Heap} {cv v : Value} {cs : List CdF} {l : List Cp} (hG : GlobOk H) (hc : CardsF H cv cs) (hl : ol H v l) {t : Int} (ht0 : 0 ≤ t) (ht : t < 256) : Triple PP dV [cv, v, .int .u8 t] H [] Ep := by
 refine gC (vs := [cv, v, .int .u8 t]) (by kernel_rfl) ⟨hc.one, hl.one, rfl, trivial⟩ ?_
 simp only [dT]
 obtain ⟨vlen, _⟩ := lL hl
 refine bn (DT hc) ?_
 rintro _ H1 _ ⟨⟨p, rfl, hp, h20⟩ | ⟨p, rfl, hp1⟩, rfl⟩ l1
 ·refine ⟨[p, .bool true], rfl, ⟨hp.1.one, rfl, trivial⟩, ?_⟩
  have hG := hG.le l1
  have hl := hl.le l1
  refine aa _ (av _) ?_
  refine ab ?_
  refine aa _ vlen ?_
  refine ab ?_
  refine aa _ (cH _ _) ?_
  refine ab ?_
  refine aa _ (aw _ _) (ai (fun _ => mo hG) (fun hd => ?_))
  have hb : l.length ≤ 100 := Int.ofNat_le.1 (by simpa using hd)
  have hb6 : l.length ≤ 1000000 := by omega
  refine bn (Az hp.1 hl hb6) ?_
  rintro _ H2 _ ⟨⟨xv, rfl, hx⟩, rfl⟩ l2
  refine ⟨[xv, iV (eu cs l).2], rfl, ⟨hx.one, rfl, trivial⟩, ?_⟩
  have hG := hG.le l2
  have hl := hl.le l2
  have hp := hp.le l2
  refine ak (ni hp.1 hl hb6) rfl (vs := [iV (aE cs l).1, iV (aE cs l).2]) ⟨rfl, rfl, trivial⟩ fun H3 l3 => ?_
  have hG := hG.le l3
  have hl := hl.le l3
  have hp := hp.le l3
  have hx := hx.le l3
  have hee : (eu cs l).2 = (aE cs l).2 := by
   rw [eu]; split
   ·rename_i h; exact h.symm
   ·rfl
  refine aa _ (dl _ _) (ai (fun hd => by simp [hee] at hd) (fun _ => ?_))
  have xlen := hx.len
  rw [show (aO (eu cs l).1).length = (eu cs l).1.length by simp [aO]] at xlen
  refine aa _ (dl _ _) (ai (fun hd => ?_) (fun hd => ?_))
  ·have he : (aE cs l).2 ≠ 0 := by rw [← hee]; simpa using hd
   have h0 : (eu cs l).1 = [] := by rw [eu, if_neg he]
   rw [h0] at xlen
   refine aa _ xlen ?_
   refine aa _ (an _ _) (ai (fun _ => mo hG) (fun hd => by simp at hd))
  have he : (aE cs l).2 = 0 := by rw [← hee]; simpa using hd
  obtain ⟨hval, hch⟩ := tL he
  have hR : eu cs l = (b9 l, 0) := by rw [eu, if_pos he]
  rw [hR] at xlen hx
  have hR2 : (eu cs l).2 = 0 := by rw [hR]
  have hcl := kT hval.1
  have hll := (rj hval.1).2
  have h1 := hval.2.2.1
  have h2 := hval.2.2.2
  refine aa _ xlen ?_
  refine aa _ (aF _ _) ?_
  refine ab ?_
  refine aa _ xlen ?_
  refine ab ?_
  refine aa _ (cH _ _) ?_
  refine ab ?_
  refine aa _ (aw _ _) ?_
  refine ab ?_
  refine aa _ vlen ?_
  refine ab ?_
  refine aa _ xlen ?_
  refine ab (ab ?_)
  refine aa _ (cH _ _) ?_
  refine ab ?_
  refine aa _ (aw _ _) (ai (fun hd => ?_) (fun _ => ?_))
  ·exfalso
   simp only [Bool.or_eq_true, decide_eq_true_eq] at hd
   omega
  refine ak (A2 hx hl 0) rfl ⟨rfl, trivial⟩ fun H4 l4 => ?_
  have hof := zP hval
  refine aa _ (av _) (ai (fun hd => by rw [hof] at hd; simp at hd) (fun _ => ?_))
  have hG := hG.le l4
  have hl := hl.le l4
  have hp := hp.le l4
  refine aa _ xlen ?_
  refine ak (we hp.1 hl hb6 0 _ 0) rfl ⟨rfl, trivial⟩ fun H5 l5 => ?_
  refine aa _ (av _) (ai (fun hd => by rw [gn, if_pos he, yV, hcl] at hd; simp at hd) (fun _ => ?_))
  have hG := hG.le l5
  have hl := hl.le l5
  have hp := hp.le l5
  refine gR (IK cs l H5) MK ⟨0, rfl, by omega, rfl, Heap.le_refl _⟩ ?_
  rintro _ H6 _ _ _ - ⟨j, rfl, hj, rfl, l6⟩
  have hG := hG.le l6
  have hl := hl.le l6
  have hp := hp.le l6
  have hsb := uj hval j
  have hsb2 := uj hval (j + 1)
  refine aa _ (iG _ _) (ai (fun hd => ?_) (fun hd => ?_))
  ·have hj4 : j < 4 := by have := of_decide_eq_true hd; omega
   refine ak (y5 hp.1 hl hb6 _) rfl (vs := [iV (gn cs l ((j + 1 : Nat) : Int)).1, iV (gn cs l ((j + 1 : Nat) : Int)).2]) ⟨rfl, rfl, trivial⟩ fun H7 l7 => ?_
   have hcv : gn cs l ((j + 1 : Nat) : Int) = (lP cs ((j + 1 : Nat) : Int) l, 0) := by rw [gn, if_pos he]
   rw [hcv]
   refine aa _ (dl _ _) (ai (fun hd => by simp at hd) (fun _ => ?_))
   rw [AG] at hsb2
   refine aa _ (sE (by omega) (by omega)) ?_
   refine aa _ (aD (by omega)) (eL (by simp [Eqs, E]) ⟨j + 1, rfl, hj4, rfl, Heap.le_trans l6 l7⟩ ?_)
   show 5 - ((j + 1 + 1 : Nat) : Int).toNat < 5 - ((j + 1 : Nat) : Int).toNat
   omega
  have hj4 : j = 4 := by have := of_decide_eq_false hd; omega
  subst hj4
  have hn20 := Bc hval
  have htl := rk hp.2 hval.1
  have hnd : (cs.map (·.nm)).Nodup := by obtain ⟨_, _, _, _, _, _, _, _, h, _⟩ := hp.1; exact h
  have hTx := A4 hp hl hb6
  rw [show mQ cs l = (aR cs l, 0) by rw [mQ, if_pos he]] at hTx
  refine ak (r := .tuple #[Str (aR cs l), iV 0]) hTx rfl (vs := [Str (aR cs l), iV 0]) ⟨rfl, rfl, trivial⟩ fun H7 l7 => ?_
  have hG := hG.le l7
  have hl := hl.le l7
  have hp := hp.le l7
  refine aa _ xlen ?_
  refine aa _ (dl _ _) ?_
  refine ab ?_
  refine aa _ (dl _ _) ?_
  refine ab ?_
  refine aa _ (aw _ _) (ai (fun hd => by rw [EO hp.2 hval, hcl] at hd; simp at hd) (fun _ => ?_))
  refine ak (gU hp hG (by omega) hl (qP hp.2 hnd (List.Perm.refl l) he)) rfl ⟨rfl, trivial⟩ fun H8 l8 => ?_
  have hG := hG.le l8
  have hl := hl.le l8
  have hp := hp.le l8
  refine aa _ (av _) (ai (fun hd => by cases hd) (fun _ => ?_))
  refine fV (aR cs l).length (fun i x H' O' => OSl dR 1 x (aO (mM 0 ((aR cs l).take i))) O' ∧ Heap.le H8 H') ⟨OSl.nil _ _, Heap.le_refl _⟩ ?_
  rintro i x H9 O9 hi - ⟨hO, l9⟩
  have hl := hl.le l9
  have hp := hp.le l9
  have hG := hG.le l9
  refine aa _ (ia _) ?_
  refine aa _ (aF _ _) (ai (fun hlt => ?_) (fun hge => ?_))
  ·have hlt : i < (aR cs l).length := by have := of_decide_eq_true hlt; omega
   have hsn := Bz hlt
   have hbd := yn ((aR cs l).take i) 0
   rw [List.length_take] at hbd
   refine aa _ (lu _ _ hlt) ?_
   refine aa _ (q5 _ _) (ai (fun hd => ?_) (fun hd => ?_))
   ·have h10 : (aR cs l)[i] = 10 := by
     have : ((aR cs l)[i].toNat : Int) = 10 := by simpa using hd
     exact UInt8.toNat.inj (by simpa using (by omega : (aR cs l)[i].toNat = 10))
    rw [if_pos h10] at hsn
    refine aa _ (aD (by omega)) (aj fun r0 => ?_)
    have e1 : (aO (mM 0 ((aR cs l).take i))).length = (mM 0 ((aR cs l).take i)).length := by simp [aO]
    refine cB (rows := aO (mM 0 ((aR cs l).take i))) (news := aO [((i + 1 : Nat) : Int)]) (O1 := O9) (O2 := []) (e := dR) (size := 1) (bytes := 8) (by kernel_rfl) (by simp) hO (fun Hf _ hf => rR _ rfl (hf _ List.mem_cons_self) (by simp)) (by rw [e1]; simp [aO]; omega) (by rw [e1]; simp [aO]; omega) ?_
    intro v' O1' HA lA hO'
    refine aa _ (aD (by omega)) (bO (by simp [Eqs, E]) hlt ⟨?_, Heap.le_trans l9 lA⟩)
    rw [hsn, List.append_nil, show aO (mM 0 ((aR cs l).take i) ++ [((i + 1 : Nat) : Int)]) = aO (mM 0 ((aR cs l).take i)) ++ aO [((i + 1 : Nat) : Int)] from by simp [aO]]
    exact hO'
   ·have h10 : (aR cs l)[i] ≠ 10 := by
     intro e
     rw [e] at hd
     simp at hd
    rw [if_neg h10, List.append_nil] at hsn
    refine aa _ (aD (by omega)) (bO (by simp [Eqs, E]) hlt ⟨?_, l9⟩)
    rw [hsn]; exact hO
  ·have hge : (aR cs l).length ≤ i := by have := of_decide_eq_false hge; omega
   rw [List.take_of_length_le hge] at hO
   have hnl := AO hp.2 l 0 hval.1
   have alen := hO.len
   rw [show (aO (mM 0 (aR cs l))).length = l.length by simp [aO, hnl]] at alen
   have hlpos : 0 < l.length := by
    cases l with
    | nil => exact absurd h1 (by decide)
    | cons x l => simp
   obtain ⟨m, rfl⟩ : ∃ m : Nat, t = (m : Int) := ⟨t.toNat, by omega⟩
   have hcv : ah (.conv .i64) [.int .u8 (m : Int)] = some (iV m) := by
    show some (Value.int .i64 (IntKind.i64.wrap (m : Int))) = _
    rw [iQ (by omega) (by omega)]
   refine aa _ hcv ?_
   refine aa _ alen ?_
   have hk : m % l.length < l.length := Nat.mod_lt _ hlpos
   refine aa _ (Fq (by omega) hlpos) ?_
   have hat := DF hp.2 l 0 (m % l.length) hval.1 hk
   rw [Nat.zero_add] at hat
   generalize m % l.length = k at *
   have hrow : (aO (mM 0 (aR cs l)))[k]? = some [iV (((aR cs l |>.take 0).length + (aR cs (l.take (k + 1))).length : Nat) : Int)] := by
    rw [aO, List.getElem?_map, hat]
    simp
   rw [List.take_zero, List.length_nil, Nat.zero_add] at hrow
   obtain ⟨a, k1, _, k3, _⟩ := hO.idx (fun _ h => h) H9 (k := .i64) hrow
   refine aa _ k1 ?_
   refine ao k3 rfl ⟨rfl, trivial⟩ ?_
   have hle : (aR cs (l.take (k + 1))).length ≤ (aR cs l).length := by
    conv => rhs; rw [← List.take_append_drop (k + 1) l, rl, List.length_append]
    omega
   refine aa _ (zz _ _ hle) ?_
   refine aa _ (zy _ _ hle) ?_
   refine aa _ (rn (by rw [List.length_drop, List.length_take]; omega)) ?_
   rw [Ak]
   refine pW hO fun HB lB _ => ?_
   refine ak (gU (hp.le lB) (hG.le lB) ?_ (hl.le lB) (qP hp.2 hnd (si l (k + 1)) he)) rfl ⟨rfl, trivial⟩ fun HC lC => ?_
   ·have := rk hp.2 (l := l.drop (k + 1) ++ l.take (k + 1)) fun y hy => hval.1 y ((si l (k + 1)).mem_iff.1 hy)
    rw [(si l (k + 1)).length_eq] at this
    omega
   exact ai (fun _ => mo ((hG.le lB).le lC)) (fun hd => by cases hd)
 ·refine ⟨[p, .bool false], rfl, ⟨hp1, rfl, trivial⟩, ?_⟩
  refine aa _ (av _) ?_
  refine ab ?_
  refine aa _ vlen ?_
  refine ab ?_
  refine aa _ (cH _ _) ?_
  refine ab ?_
  exact aa _ (aw _ _) (ai (fun _ => mo (hG.le l1)) (fun hd => by simp at hd))
end Go.Proofs.YtamgiojcbdbokaaGreatDoor
namespace Go.Proofs.YtamgiojcbdbokaaGreatDoor
open Go Go.Sx Go.ChangeShapes Go.WideShapes Go.ChangeAt Go.RowKit
set_option maxRecDepth 100000
set_option maxHeartbeats 1000000
theorem own : ownKnob Tryz.prog.godebug = none := by kernel_rfl
theorem BM : laidOutB Tryz.prog = true := by kernel_rfl
theorem sOk : dt Tryz.prog = true := by kernel_rfl
abbrev DG : Value := .slice none 0 0
abbrev uJ : List (String × DataW Unit) := [("math/bits.deBruijn32tab", Rows.laid_math_bits_deBruijn32tab), ("math/bits.deBruijn64tab", Rows.laid_math_bits_deBruijn64tab), ("internal/strconv.uint64pow10", Rows.laid_internal_strconv_uint64pow10), ("unicode/utf8.acceptRanges", Rows.laid_unicode_utf8_acceptRanges), ("strconv.ErrRange", Rows.laid_strconv_ErrRange), ("strconv.ErrSyntax", Rows.laid_strconv_ErrSyntax), ("unicode/utf8.first", Rows.laid_unicode_utf8_first)]
theorem uI {P : Program} {w : World} {n : String} {d : DataW Unit} : ∀ {l : List (String × DataW Unit)} {ps : List MemPlace}, DataW.LaidVars P w l ps → (n, d) ∈ l →
  ∃ g t cs fuel p, P.globalNamed n = some g ∧ (P.globals[g]?).map (·.type) = some t ∧ w.var? P n = some cs ∧ DataW.trod (fun _ => ()) P w 0 (fun _ => true) false fuel t cs.toList = some (d, p)
 | [], _, _, h => by cases h
 | (n', d') :: l, ps, h, hm => by
  obtain ⟨g, t, cs, fuel, p, q, h1, h2, h3, h4, h5, _⟩ := h
  rcases List.mem_cons.1 hm with e | hm
  ·cases e; exact ⟨g, t, cs, fuel, p, h1, h2, h3, h4⟩
  ·exact uI h5 hm
theorem rS {P : Program} {w : World} {fuel : Nat} {t : TypeId} {cs : List Value} {x : DataW Unit × List MemPlace} {m : Array (String × TypeId)} (ht : P.underlying t = some (.interface m)) (h : DataW.trod (fun _ => ()) P w 0 (fun _ => true) false fuel t cs = some x) :
  cs = [.nilIface] ∨ ∃ u v, cs = [.iface u v] := by
 cases fuel with
 | zero => simp [DataW.trod] at h
 | succ fuel =>
  unfold DataW.trod at h
  rw [ht] at h
  split at h <;> simp_all
theorem pU {W w : World} {O : Go.Sx.Own} (hm : Models w (nA W) O) {a : Addr} {v : Value} (h : W.cell? a = some v) : w.cell? a = some v := by
 unfold World.cell? at h ⊢
 cases hb : W.heap[a.block]? with
 | none => rw [hb] at h; cases h
 | some o =>
  have := hm.pers a.block o hb
  rw [this]; rw [hb] at h; exact h
theorem zo {P : Program} {W w : World} {O : Go.Sx.Own} (hm : Models w (nA W) O) {n : String} {cs : Array Value} (h : W.var? P n = some cs) : w.var? P n = some cs := by
 unfold World.var? at h ⊢
 cases hg : P.globalNamed n with
 | none => rw [hg] at h; cases h
 | some g =>
  rw [hg] at h
  simp only [Option.bind_some] at h ⊢
  cases hb : W.heap[g]? with
  | none => rw [hb] at h; cases h
  | some o =>
   have := hm.pers g o hb
   rw [this]; rw [hb] at h; exact h
theorem vW {W : World} {n : String} {g : Nat} {t : TypeId} {d : DataW Unit} {m : Array (String × TypeId)} (hg : Tryz.prog.globalNamed n = some g) (ht : (Tryz.prog.globals[g]?).map (·.type) = some t) (hu : Tryz.prog.underlying t = some (.interface m)) {ps : List MemPlace} (h : DataW.LaidVars Tryz.prog W uJ ps) (hm : (n, d) ∈ uJ) :
  ∃ ev, W.cell? ⟨g, 0, none⟩ = some ev ∧ (ev = .nilIface ∨ ∃ te pe, ev = .iface te pe) := by
 obtain ⟨g', t', cs, fuel, p, h1, h2, h3, h4⟩ := uI h hm
 obtain rfl := Option.some.inj (hg.symm.trans h1)
 obtain rfl := Option.some.inj (ht.symm.trans h2)
 have hc := World.var?_cell hg h3 0
 rcases rS hu h4 with e | ⟨u, v, e⟩
 ·have : cs[0]? = some .nilIface := by rw [← Array.getElem?_toList, e]; rfl
  exact ⟨_, hc.trans this, .inl rfl⟩
 ·have : cs[0]? = some (.iface u v) := by rw [← Array.getElem?_toList, e]; rfl
  exact ⟨_, hc.trans this, .inr ⟨u, v, rfl⟩⟩
theorem BQ {W : World} (h : laidMetH Tryz.prog uJ W) (hs : W.ShapedOpen Tryz.prog) : GlobOk (nA W) := by
 rw [MakeChecks.laidMetH_plain _ _ _ (by kernel_rfl)] at h
 obtain ⟨ps, hl, _, _⟩ := h
 obtain ⟨g, t, cs, fuel, p, h1, h2, h3, h4⟩ := uI (n := "internal/strconv.uint64pow10") (d := Rows.laid_internal_strconv_uint64pow10) hl (by simp)
 obtain rfl := Option.some.inj ((show Tryz.prog.globalNamed "internal/strconv.uint64pow10" = some 0 by kernel_rfl).symm.trans h1)
 have h4' : cs.toList = Go.Lib.pow10Tab.map fun z => Value.int .u64 z := by
  refine Go.Lib.cells_of_tab (e := 156) (n := 20) ?_ (by kernel_rfl) (by kernel_rfl) ?_ h4
  ·obtain rfl := Option.some.inj ((show (Tryz.prog.globals[0]?).map (·.type) = some 220 by kernel_rfl).symm.trans h2)
   kernel_rfl
  ·obtain rfl := Option.some.inj ((show (Tryz.prog.globals[0]?).map (·.type) = some 220 by kernel_rfl).symm.trans h2)
   kernel_rfl
 have ht : Go.Lib.TabIs Tryz.prog W "internal/strconv.uint64pow10" .u64 Go.Lib.pow10Tab := by
  unfold Go.Lib.TabIs
  rw [h3, ← h4', Array.toArray_toList]
 obtain ⟨m, hmx⟩ := cell_of_shapedOpen_int (g := 1) (t := 3) (zero := #[.int .i64 0]) (k := .i64) hs (Nat.le_of_ble_eq_true (by kernel_rfl)) (by kernel_rfl) rfl (by kernel_rfl) (by kernel_rfl) (by kernel_rfl)
 obtain ⟨e2, a2, b2⟩ := vW (n := "strconv.ErrSyntax") (g := 2) (t := 96) (d := Rows.laid_strconv_ErrSyntax) (by kernel_rfl) (by kernel_rfl) Tryz.underlying96 hl (by simp)
 obtain ⟨e3, a3, b3⟩ := vW (n := "strconv.ErrRange") (g := 3) (t := 96) (d := Rows.laid_strconv_ErrRange) (by kernel_rfl) (by kernel_rfl) Tryz.underlying96 hl (by simp)
 intro w O hm
 exact ⟨zo hm ht, ⟨m, pU hm hmx⟩, ⟨e2, pU hm a2, b2⟩, ⟨e3, pU hm a3, b3⟩⟩
theorem EW {r : List Value} {i : Nat} {c : Value} (h : r[i]? = some c) : c = g r i := by rw [Ae h]
theorem bE {H : Heap} {k : Nat} {t : TypeId} {ds : List Value} {ls : List TypeId} {n : Nat} (hl : jw PP n t = some ls) (hw : Wf PP H k t ds) (i : Nat) (l : TypeId) (hi : ls[i]? = some l) : Leaf PP H l (g ds i) := by
 obtain ⟨c, h1, h2⟩ := rP hl hw i l hi
 rw [← EW h1]; exact h2
theorem dF {H : Heap} {c : Value} (h : Leaf PP H 3 c) : ∃ x, c = iV x := let ⟨x, e, _⟩ := h.int Tryz.underlying3; ⟨x, e⟩
theorem vo {H : Heap} {size : Nat} {v : Value} {rows : List (List Value)} (h : Sl H size v rows) {r : List Value} (hr : r ∈ rows) : r.length = size := by
 obtain ⟨i, hlt, rfl⟩ := List.getElem_of_mem hr
 obtain ⟨_, _, _, h3, _⟩ := h.idx (k := .i64) (List.getElem?_eq_getElem hlt)
 exact h3
theorem yv {α : Type} {f : α → List Value} : ∀ {rows : List (List Value)}, (∀ r ∈ rows, ∃ x, r = f x) → ∃ l : List α, rows = l.map f
 | [], _ => ⟨[], rfl⟩
 | r :: rs, h => by
  obtain ⟨l, hl⟩ := yv (rows := rs) fun x hx => h x (by simp [hx])
  obtain ⟨x, rfl⟩ := h r (by simp)
  exact ⟨x :: l, by rw [hl]; rfl⟩
theorem oW {α : Type} {R : List Value → α → Prop} : ∀ {rows : List (List Value)}, (∀ r ∈ rows, ∃ x, R r x) → ∃ l : List α, rows.length = l.length ∧ ∀ (i : Nat) (r : List Value) (x : α), rows[i]? = some r → l[i]? = some x → R r x
 | [], _ => ⟨[], rfl, fun i r k h => by simp at h⟩
 | r :: rs, key => by
  obtain ⟨ks, e1, e2⟩ := oW (rows := rs) fun x hx => key x (by simp [hx])
  obtain ⟨k, e3⟩ := key r (by simp)
  refine ⟨k :: ks, by simp [e1], fun i r' k' f1 f2 => ?_⟩
  cases i with
  | zero => simp at f1 f2; subst f1; subst f2; exact e3
  | succ i => exact e2 i r' k' (by simpa using f1) (by simpa using f2)
theorem qL {T : Type} {enc : TypeId × Value → T} {P : Program} {w : World} {base : Nat} {sp : Nat → Bool} {held : Bool} {t e : TypeId} {r : Reach} {v : Value} {d : DataW T} {p : List MemPlace} (hu : P.underlying t = some (.slice e)) (hsk : dt P = true) (htl : Nat.blt t P.types.size = true)
  (hv : Value.okWide P w r base t v) (h : DataW.Trod enc P w 0 sp held t v d p) : Leaf P (nA w) t v := by
 obtain ⟨a, len, cap, rfl⟩ := okWide_slice hu hv
 obtain ⟨fuel, hf⟩ := h
 exact ⟨fuel, kF hsk (Nat.le_of_ble_eq_true htl) hf⟩
theorem Ds {n : Int} (h : (Lit.int .u8 n).wf = true) : 0 ≤ n ∧ n ≤ 255 := by
 simp only [Lit.wf, Bool.and_eq_true, decide_eq_true_eq] at h
 exact h
theorem vQ : jw PP 5 77 = some [3, 3] := by kernel_rfl
theorem xX {H : Heap} {v : Value} (h : Leaf PP H 23 v) : ∃ l, ol H v l := by
 obtain ⟨rows, hs, n, hw⟩ := h.slice Tryz.underlying23
 have hc : PP.cellsOf 77 = 2 := by kernel_rfl
 rw [hc] at hs
 obtain ⟨l, rfl⟩ := yv (f := Cp.row) (rows := rows) fun r hr => by
  have hl := vo hs hr
  obtain ⟨x0, e0⟩ := dF (bE vQ (hw r hr) 0 3 rfl)
  obtain ⟨x1, e1⟩ := dF (bE vQ (hw r hr) 1 3 rfl)
  match r, hl with
  | [_, _], _ =>
   refine ⟨⟨x0, x1⟩, ?_⟩
   simp only [g, List.getD_cons_zero, List.getD_cons_succ] at e0 e1
   rw [e0, e1]; rfl
 exact ⟨l, hs⟩
theorem ke : jw PP 5 110 = some [107, 108, 3, 3, 63] := by kernel_rfl
theorem sW {H : Heap} {v : Value} (h : Leaf PP H 65 v) : ∃ l, Sl H 5 v (bS l) := by
 obtain ⟨rows, hs, n, hw⟩ := h.slice Tryz.underlying65
 have hc : PP.cellsOf 110 = 5 := by kernel_rfl
 rw [hc] at hs
 obtain ⟨l, rfl⟩ := yv (f := Eff.row) (rows := rows) fun r hr => by
  have hl := vo hs hr
  obtain ⟨x0, e0, _⟩ := (bE ke (hw r hr) 0 _ rfl).int Tryz.underlying107
  obtain ⟨x1, e1, _⟩ := (bE ke (hw r hr) 1 _ rfl).int Tryz.underlying108
  obtain ⟨x2, e2⟩ := dF (bE ke (hw r hr) 2 3 rfl)
  obtain ⟨x3, e3⟩ := dF (bE ke (hw r hr) 3 3 rfl)
  obtain ⟨x4, e4, _⟩ := (bE ke (hw r hr) 4 _ rfl).int Tryz.underlying63
  match r, hl with
  | [_, _, _, _, _], _ =>
   refine ⟨⟨x0, x1, x2, x3, x4⟩, ?_⟩
   simp only [g, List.getD_cons_zero, List.getD_cons_succ] at e0 e1 e2 e3 e4
   rw [e0, e1, e2, e3, e4]; rfl
 exact ⟨l, hs⟩
theorem vP : jw PP 5 71 = some [69, 65] := by kernel_rfl
theorem xT {H : Heap} {v : Value} (h : Leaf PP H 66 v) : ∃ l, TrsF H v l := by
 obtain ⟨rows, hs, n, hw⟩ := h.slice Tryz.underlying66
 have hc : PP.cellsOf 71 = 2 := by kernel_rfl
 rw [hc] at hs
 obtain ⟨l, e1, e2⟩ := oW (R := fun r (t : Int × List Eff) => TrR H r t) (rows := rows) fun r hr => by
  have hl := vo hs hr
  obtain ⟨x0, e0, _⟩ := (bE vP (hw r hr) 0 _ rfl).int Tryz.underlying69
  obtain ⟨es, he⟩ := sW (bE vP (hw r hr) 1 _ rfl)
  match r, hl with
  | [_, s], _ =>
   simp only [g, List.getD_cons_zero, List.getD_cons_succ] at e0 he
   exact ⟨(x0, es), s, by rw [e0], he⟩
 exact ⟨l, rows, hs, e1, e2⟩
theorem cQ : jw PP 8 68 = some [9, 43, 3, 3, 3, 3, 3, 63, 3, 3, 64, 65, 66, 3] := by kernel_rfl
theorem uz {H : Heap} {v : Value} (h : Leaf PP H 22 v) : ∃ cs, CardsF H v cs := by
 obtain ⟨rows, hs, n, hw⟩ := h.slice Tryz.underlying22
 have hc : PP.cellsOf 68 = 14 := by kernel_rfl
 rw [hc] at hs
 obtain ⟨l, e1, e2⟩ := oW (R := fun r (c : CdF) => CdRF H r c) (rows := rows) fun r hr => by
  have hl := vo hs hr
  have hw := hw r hr
  obtain ⟨x0, e0, _⟩ := (bE cQ hw 0 _ rfl).str Tryz.underlying9
  obtain ⟨x1, e1, _⟩ := (bE cQ hw 1 _ rfl).int Tryz.underlying43
  obtain ⟨x2, e2⟩ := dF (bE cQ hw 2 3 rfl)
  obtain ⟨x3, e3⟩ := dF (bE cQ hw 3 3 rfl)
  obtain ⟨x4, e4⟩ := dF (bE cQ hw 4 3 rfl)
  obtain ⟨x5, e5⟩ := dF (bE cQ hw 5 3 rfl)
  obtain ⟨x6, e6⟩ := dF (bE cQ hw 6 3 rfl)
  obtain ⟨x7, e7, _⟩ := (bE cQ hw 7 _ rfl).int Tryz.underlying63
  obtain ⟨x8, e8⟩ := dF (bE cQ hw 8 3 rfl)
  obtain ⟨x9, e9⟩ := dF (bE cQ hw 9 3 rfl)
  obtain ⟨x10, e10, _⟩ := (bE cQ hw 10 _ rfl).int Tryz.underlying64
  obtain ⟨es, he⟩ := sW (bE cQ hw 11 _ rfl)
  obtain ⟨ts, ht⟩ := xT (bE cQ hw 12 _ rfl)
  obtain ⟨x13, e13⟩ := dF (bE cQ hw 13 3 rfl)
  match r, hl with
  | [_, _, _, _, _, _, _, _, _, _, _, sv, tv, _], _ =>
   simp only [g, List.getD_cons_zero, List.getD_cons_succ] at e0 e1 e2 e3 e4 e5 e6 e7 e8 e9 e10 e13 he ht
   refine ⟨⟨x0, x1, x2, x3, x4, x5, x6, x7, x8, x9, x10, es, ts, x13⟩, sv, tv, ?_, he, ht⟩
   rw [e0, e1, e2, e3, e4, e5, e6, e7, e8, e9, e10, e13]; rfl
 exact ⟨l, rows, hs, e1, e2⟩
theorem xE (s : ByteArray) : (Value.string s) = Str s.data.toList := by
 obtain ⟨d⟩ := s
 rfl
section
variable {H : Type} {enc : TypeId × Value → H}
theorem qE {a : Assume} {C : Checked} {os : Os} {f : FuncId} {fn : Func} {s : ChangeSpec} {conds : List PathCond} {apart fresh handsOn again : Bool} {X : World → Array Value → Prop}
  (hX : ∀ (w w' : World) (args : Array Value), w.heap = w'.heap → X w args → X w' args)
  (own : ownKnob C.prog.godebug = none) (started : os.Started) (noInit : C.prog.inits.idxOf? f = none) (hfn : C.prog.funcs[f]? = some fn)
  (witness : ∃ (w : World) (tape : Tape) (i : Input), w.os = os ∧ (w.forCall tape i).Shaped C.prog ∧ i.vars = [] ∧ Input.okWide C.prog (w.forCall tape i) .any w.heap.size f i ∧
   ((s.pre enc C.prog fn conds apart (w.forCall tape i).memory i.args ∧ X (w.forCall tape i).memory i.args) ∧ sizedMet enc C.prog fn (OpenSpec.ofChange s) apart (w.forCall tape i).memory i.args) ∧ a.holds C.prog (lone (Frame.enter C.prog f i.args .normal) [] (w.forCall tape i)))
  (contract : ∀ (W : World) (base : Nat) (args : Array Value) (ds gs : List (DataW H)) (before : List MemPlace),
   (∀ (j : Nat) t v, fn.params[j]? = some t → args[j]? = some v → Value.okWide C.prog W .any base t v) →
   DataW.Whole enc C.prog fn.params.toList s.vars apart W args.toList ds gs before → X W args → W.ShapedOpen C.prog →
   Calls C.prog f args W fun e W' => ∃ v, e = .returned v ∧ s.post enc C.prog fn apart fresh handsOn again W args v W') :
  ReturnsInHanded a C os f .any (fun w args => (s.pre enc C.prog fn conds apart w args ∧ X w args) ∧ sizedMet enc C.prog fn (OpenSpec.ofChange s) apart w args) (s.post enc C.prog fn apart fresh handsOn again) := by
 refine returnsInHanded_of_calls own started noInit witness ?_
 intro w tape i _ hsh _ hok hpre _
 obtain ⟨_, _, _, fn', hfn', _, _, _, _, hval⟩ := hok
 have e : fn' = fn := Option.some.inj (hfn'.symm.trans hfn)
 subst e
 obtain ⟨⟨⟨ds, gs, before, hw, _⟩, hx⟩, _⟩ := hpre
 refine (contract (w.forCall tape i) w.heap.size i.args ds gs before hval (DataW.Whole.of_heap (w' := w.forCall tape i) (by rfl) hw) (hX _ _ _ (by rfl) hx) hsh).mono fun e W' ⟨v, he, hp⟩ => ?_
 subst he
 exact ChangeSpec.post_blind hp
end
end Go.Proofs.YtamgiojcbdbokaaGreatDoor
