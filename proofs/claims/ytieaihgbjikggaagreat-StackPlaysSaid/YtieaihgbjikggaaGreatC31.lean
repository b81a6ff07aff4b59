/- Boards in which an object has moved, or is removed: the program's. -/
import Derived.Test.YtieaihgbjikggaaGreatM17
import Derived.Test.YtieaihgbjikggaaGreatC20
import Derived.Test.YtieaihgbjikggaaGreatC1
import Derived.Test.YtieaihgbjikggaaGreatFw3
namespace Go.Proofs.YtieaihgbjikggaaGreat
open Go Go.Sx
set_option maxRecDepth 100000
set_option maxHeartbeats 1000000
def Ku (o : Ob) : Ob := { o with dmg := 0, pp := 0, pt := 0 }
theorem NN (o : Ob) (H : Heap) (O : Own) : RetO PP wa [.agg o.row.toArray] H O (.agg (Ku o).row.toArray) := by
 refine y5 (vs := o.row) (by kernel_rfl) (cO o) ?_
 simp only [qi]
 refine ah fun r0 => ah fun r1 => ?_
 repeat (first | refine ae ?_ | refine af ?_)
 exact ai ⟨rfl, rfl⟩
theorem FJ (o : Ob) (z : Int) (H : Heap) (O : Own) : RetO PP t8 [.agg o.row.toArray, iV z] H O (.agg (bD o z).row.toArray) := by
 refine xW (vs := o.row ++ [iV z]) (by kernel_rfl) (aL (cO o) ⟨rfl, trivial⟩) ?_
 simp only [nW]
 refine ah fun r0 => ah fun r1 => ?_
 refine ae ?_
 refine aj (NN o H O) rfl (vs := (Ku o).row) (cO _) fun H1 l1 => ah fun r2 => ?_
 refine ae ?_
 refine ab _ (aH _ _) ?_
 repeat (first | refine ae ?_ | refine af ?_)
 exact ai ⟨rfl, rfl⟩
theorem Lw {b : Bd} (h : bdB b) (id : Int) : bdB (nb b id) := by
 obtain ⟨b1, ⟨b2, b3, b4, b5⟩, ⟨b6, b7, b8, b9⟩, ⟨b10, b10'⟩, b11, b12, b13⟩ := h
 have hw : ∀ {l : List Int}, l.length ≤ 1000000 → (bS l id).length ≤ 1000000 := fun h => Nat.le_trans (List.length_filter_le _ _) h
 exact ⟨b1, ⟨hw b2, hw b3, hw b4, hw b5⟩, ⟨hw b6, hw b7, hw b8, hw b9⟩, ⟨Nat.le_trans (List.length_filter_le _ _) b10, fun x hx => b10' x (List.mem_filter.1 hx).1⟩, b11, hw b12, Nat.le_trans (List.length_filter_le _ _) b13⟩
def hP (b : Bd) (id z : Int) : Bd × Int :=
 if (bt b id == 2 || !aw z 0 3) = true then (zBd, 2) else if (bt b id != 0) = true then (zBd, bt b id) else (gq b (fL b id).toNat (bD (Dj b id) z) z, 0)
theorem LL {H : Heap} {v : dG} {b : Bd} (h : BdS H v b) (hB : bdB b) {id : Int} (hid : i64 id) (z : Int) : Triple PP xN [.agg (aq v b).toArray, iV id, iV z] H [] fun r _ O' => ∃ w, r = .tuple #[.agg (aq w (hP b id z).1).toArray, iV (hP b id z).2] ∧ OwnB tys w (hP b id z).1 O' := by
 refine AT (vs := aq v b ++ [iV id, iV z]) (by kernel_rfl) (aL (au (h.r [])) ⟨rfl, rfl, trivial⟩) ?_
 simp only [sN]
 refine ah fun r0 => ah fun r1 => ?_
 refine ae ?_
 refine aj (FH (h.r []) hid) rfl ⟨rfl, rfl, trivial⟩ fun H1 l1 => ab _ (aH _ _) (ak (fun hb => ?_) (fun hb2 => ?_))
 ·have e : hP b id z = (zBd, 2) := by rw [hP, if_pos (by rw [show (bt b id == 2) = true from hb]; rfl)]
  refine ae (ae ?_)
  exact ai ⟨un, by rw [e]; rfl, by rw [e]; exact OwnB.zero tys⟩
 replace h := h.le l1
 refine aj (dl z 0 3 H1 []) rfl ⟨rfl, trivial⟩ fun H2 l2 => ab _ (aI _) (ak (fun hb => ?_) (fun hb => ?_))
 ·have e : hP b id z = (zBd, 2) := by rw [hP, if_pos (by rw [show aw z 0 3 = false from zH hb]; simp)]
  refine ae (ae ?_)
  exact ai ⟨un, by rw [e]; rfl, by rw [e]; exact OwnB.zero tys⟩
 have hz : aw z 0 3 = true := vq hb
 have hcond : ¬ ((bt b id == 2 || !aw z 0 3) = true) := by rw [show (bt b id == 2) = false from hb2, hz]; simp
 replace h := h.le l2
 refine ab _ (bG _ _) (ak (fun hb => ?_) (fun hb => ?_))
 ·have e : hP b id z = (zBd, bt b id) := by rw [hP, if_neg hcond, if_pos hb]
  refine ae (ae ?_)
  exact ai ⟨un, by rw [e]; rfl, by rw [e]; exact OwnB.zero tys⟩
 obtain ⟨hval, k, o, e1, e2, e3, e4⟩ := jh hb
 have hfo := th hb e1 e3
 have hown := (cH (aN hval).1 e1).2.2.2
 have e : hP b id z = (gq b k (bD o z) z, 0) := by rw [hP, if_neg hcond, if_neg (by rw [hb]; simp), hfo, e3]; rfl
 rw [e, e4]
 have hlens := Lw hB id
 refine ae ?_
 refine ay (Ol h hB id) ?_
 rintro _ H3 O3 ⟨w, rfl, ho⟩ l3
 refine ⟨aq w (nb b id), rfl, cz H3 ho, ?_⟩
 rw [List.append_nil]
 have e1' : (nb b id).objs[k]? = some o := e1
 refine ae (ae ?_)
 obtain ⟨a, h1, h2, _, h3, h4⟩ := (ho.r (fun p hp => hp) H3).objs.idx .i64 k (Ob.row o) (by rw [List.getElem?_map, e1']; rfl)
 refine ab _ h1 (ap h2 h3 h4 ?_)
 refine aj (FJ o z H3 O3) rfl (vs := (bD o z).row) (cO _) fun H4 l4 => ah fun r2 => ?_
 obtain ⟨a', q1, O1, q2, O2, q3, q4⟩ := OwnB.store_ob ho (X := []) (O' := O3) (by simp) e1' (bD o z)
 rw [List.append_nil] at q3
 refine ae (ae (ae ?_))
 refine ab _ q1 ?_
 refine aD rfl ?_
 refine ⟨_, q2, ?_⟩
 have ho2 := OwnB.perm q4 q3
 have hm : gq b k (bD o z) z = oS (dD (nb b id) k (bD o z)) o.owner z id := by
  show oS (dD (nb b o.id) k (bD o z)) o.owner z o.id = _
  rw [e2]
 rw [hm]
 clear hm hcond e hfo
 have hz4 : z = 0 ∨ z = 1 ∨ z = 2 ∨ z = 3 := by
  simp only [aw, decide_eq_true_eq] at hz; omega
 have el : g (bD o z).row 2 = iV o.owner := rfl
 refine ae ?_
 rw [el]
 obtain ⟨m1, ⟨m2, m3, m4, m5⟩, ⟨m6, m7, m8, m9⟩, _⟩ := hlens
 rcases hown with hown | hown
 ·rw [hown]
  refine ⟨.i64, 0, rfl, fun _ => ?_, fun e => absurd rfl e⟩
  refine aj (nH r0 1 _ _) rfl ⟨rfl, rfl, rfl, rfl, trivial⟩ fun H5 l5 => ?_
  refine af (af (af (af ?_)))
  rcases hz4 with rfl | rfl | rfl | rfl
  ·refine ⟨.i64, 0, rfl, fun _ => ?_, fun e => absurd rfl e⟩
   refine ae ?_
   refine ah fun r3 => ?_
   obtain ⟨A, R, hp, hA, back⟩ := OwnB.pick_l0 ho2
   refine aA (rows := aG (nb b id).s0.lib) (news := [[iV id]]) (O1 := A) (O2 := R) (e := aK) (size := 1) (bytes := 8) (by kernel_rfl) hp hA (fun Hf _ hf => Sl.block1 (hf _ List.mem_cons_self) rfl ⟨rfl, trivial⟩) (by simp [aG]; omega) (by simp [aG]; omega) ?_
   intro v' A' H6 l6 hA'
   have hA2 : OSl aK 1 v' (aG ((nb b id).s0.lib ++ [id])) A' := by rw [aG, List.map_append]; exact hA'
   have hfin := back _ _ _ hA2
   refine ae (ae (ae (ae ?_)))
   exact ai ⟨_, rfl, hfin⟩
  ·refine ⟨.i64, 1, rfl, fun e => absurd e (by omega), fun _ => ?_⟩
   refine ⟨.i64, 1, rfl, fun _ => ?_, fun e => absurd rfl e⟩
   refine ae ?_
   refine ah fun r3 => ?_
   obtain ⟨A, R, hp, hA, back⟩ := OwnB.pick_h0 ho2
   refine aA (rows := aG (nb b id).s0.hand) (news := [[iV id]]) (O1 := A) (O2 := R) (e := aK) (size := 1) (bytes := 8) (by kernel_rfl) hp hA (fun Hf _ hf => Sl.block1 (hf _ List.mem_cons_self) rfl ⟨rfl, trivial⟩) (by simp [aG]; omega) (by simp [aG]; omega) ?_
   intro v' A' H6 l6 hA'
   have hA2 : OSl aK 1 v' (aG ((nb b id).s0.hand ++ [id])) A' := by rw [aG, List.map_append]; exact hA'
   have hfin := back _ _ _ hA2
   refine ae (ae (ae (ae ?_)))
   exact ai ⟨_, rfl, hfin⟩
  ·refine ⟨.i64, 2, rfl, fun e => absurd e (by omega), fun _ => ?_⟩
   refine ⟨.i64, 2, rfl, fun e => absurd e (by omega), fun _ => ?_⟩
   refine ⟨.i64, 2, rfl, fun _ => ?_, fun e => absurd rfl e⟩
   refine ae ?_
   refine ah fun r3 => ?_
   obtain ⟨A, R, hp, hA, back⟩ := OwnB.pick_f0 ho2
   refine aA (rows := aG (nb b id).s0.field) (news := [[iV id]]) (O1 := A) (O2 := R) (e := aK) (size := 1) (bytes := 8) (by kernel_rfl) hp hA (fun Hf _ hf => Sl.block1 (hf _ List.mem_cons_self) rfl ⟨rfl, trivial⟩) (by simp [aG]; omega) (by simp [aG]; omega) ?_
   intro v' A' H6 l6 hA'
   have hA2 : OSl aK 1 v' (aG ((nb b id).s0.field ++ [id])) A' := by rw [aG, List.map_append]; exact hA'
   have hfin := back _ _ _ hA2
   refine ae (ae (ae (ae ?_)))
   exact ai ⟨_, rfl, hfin⟩
  ·refine ⟨.i64, 3, rfl, fun e => absurd e (by omega), fun _ => ?_⟩
   refine ⟨.i64, 3, rfl, fun e => absurd e (by omega), fun _ => ?_⟩
   refine ⟨.i64, 3, rfl, fun e => absurd e (by omega), fun _ => ?_⟩
   refine ⟨.i64, 3, rfl, fun _ => ?_, fun e => absurd rfl e⟩
   refine ae ?_
   refine ah fun r3 => ?_
   obtain ⟨A, R, hp, hA, back⟩ := OwnB.pick_g0 ho2
   refine aA (rows := aG (nb b id).s0.grave) (news := [[iV id]]) (O1 := A) (O2 := R) (e := aK) (size := 1) (bytes := 8) (by kernel_rfl) hp hA (fun Hf _ hf => Sl.block1 (hf _ List.mem_cons_self) rfl ⟨rfl, trivial⟩) (by simp [aG]; omega) (by simp [aG]; omega) ?_
   intro v' A' H6 l6 hA'
   have hA2 : OSl aK 1 v' (aG ((nb b id).s0.grave ++ [id])) A' := by rw [aG, List.map_append]; exact hA'
   have hfin := back _ _ _ hA2
   refine ae (ae (ae (ae ?_)))
   exact ai ⟨_, rfl, hfin⟩

 ·rw [hown]
  refine ⟨.i64, 1, rfl, fun e => absurd e (by omega), fun _ => ⟨.i64, 1, rfl, fun _ => ?_, fun e => absurd rfl e⟩⟩
  refine aj (nH r0 15 _ _) rfl ⟨rfl, rfl, rfl, rfl, trivial⟩ fun H5 l5 => ?_
  refine af (af (af (af ?_)))
  rcases hz4 with rfl | rfl | rfl | rfl
  ·refine ⟨.i64, 0, rfl, fun _ => ?_, fun e => absurd rfl e⟩
   refine ae ?_
   refine ah fun r3 => ?_
   obtain ⟨A, R, hp, hA, back⟩ := OwnB.pick_l1 ho2
   refine aA (rows := aG (nb b id).s1.lib) (news := [[iV id]]) (O1 := A) (O2 := R) (e := aK) (size := 1) (bytes := 8) (by kernel_rfl) hp hA (fun Hf _ hf => Sl.block1 (hf _ List.mem_cons_self) rfl ⟨rfl, trivial⟩) (by simp [aG]; omega) (by simp [aG]; omega) ?_
   intro v' A' H6 l6 hA'
   have hA2 : OSl aK 1 v' (aG ((nb b id).s1.lib ++ [id])) A' := by rw [aG, List.map_append]; exact hA'
   have hfin := back _ _ _ hA2
   refine ae (ae (ae (ae ?_)))
   exact ai ⟨_, rfl, hfin⟩
  ·refine ⟨.i64, 1, rfl, fun e => absurd e (by omega), fun _ => ?_⟩
   refine ⟨.i64, 1, rfl, fun _ => ?_, fun e => absurd rfl e⟩
   refine ae ?_
   refine ah fun r3 => ?_
   obtain ⟨A, R, hp, hA, back⟩ := OwnB.pick_h1 ho2
   refine aA (rows := aG (nb b id).s1.hand) (news := [[iV id]]) (O1 := A) (O2 := R) (e := aK) (size := 1) (bytes := 8) (by kernel_rfl) hp hA (fun Hf _ hf => Sl.block1 (hf _ List.mem_cons_self) rfl ⟨rfl, trivial⟩) (by simp [aG]; omega) (by simp [aG]; omega) ?_
   intro v' A' H6 l6 hA'
   have hA2 : OSl aK 1 v' (aG ((nb b id).s1.hand ++ [id])) A' := by rw [aG, List.map_append]; exact hA'
   have hfin := back _ _ _ hA2
   refine ae (ae (ae (ae ?_)))
   exact ai ⟨_, rfl, hfin⟩
  ·refine ⟨.i64, 2, rfl, fun e => absurd e (by omega), fun _ => ?_⟩
   refine ⟨.i64, 2, rfl, fun e => absurd e (by omega), fun _ => ?_⟩
   refine ⟨.i64, 2, rfl, fun _ => ?_, fun e => absurd rfl e⟩
   refine ae ?_
   refine ah fun r3 => ?_
   obtain ⟨A, R, hp, hA, back⟩ := OwnB.pick_f1 ho2
   refine aA (rows := aG (nb b id).s1.field) (news := [[iV id]]) (O1 := A) (O2 := R) (e := aK) (size := 1) (bytes := 8) (by kernel_rfl) hp hA (fun Hf _ hf => Sl.block1 (hf _ List.mem_cons_self) rfl ⟨rfl, trivial⟩) (by simp [aG]; omega) (by simp [aG]; omega) ?_
   intro v' A' H6 l6 hA'
   have hA2 : OSl aK 1 v' (aG ((nb b id).s1.field ++ [id])) A' := by rw [aG, List.map_append]; exact hA'
   have hfin := back _ _ _ hA2
   refine ae (ae (ae (ae ?_)))
   exact ai ⟨_, rfl, hfin⟩
  ·refine ⟨.i64, 3, rfl, fun e => absurd e (by omega), fun _ => ?_⟩
   refine ⟨.i64, 3, rfl, fun e => absurd e (by omega), fun _ => ?_⟩
   refine ⟨.i64, 3, rfl, fun e => absurd e (by omega), fun _ => ?_⟩
   refine ⟨.i64, 3, rfl, fun _ => ?_, fun e => absurd rfl e⟩
   refine ae ?_
   refine ah fun r3 => ?_
   obtain ⟨A, R, hp, hA, back⟩ := OwnB.pick_g1 ho2
   refine aA (rows := aG (nb b id).s1.grave) (news := [[iV id]]) (O1 := A) (O2 := R) (e := aK) (size := 1) (bytes := 8) (by kernel_rfl) hp hA (fun Hf _ hf => Sl.block1 (hf _ List.mem_cons_self) rfl ⟨rfl, trivial⟩) (by simp [aG]; omega) (by simp [aG]; omega) ?_
   intro v' A' H6 l6 hA'
   have hA2 : OSl aK 1 v' (aG ((nb b id).s1.grave ++ [id])) A' := by rw [aG, List.map_append]; exact hA'
   have hfin := back _ _ _ hA2
   refine ae (ae (ae (ae ?_)))
   exact ai ⟨_, rfl, hfin⟩
theorem sk {α β : Type} (f : α → β) : ∀ (l : List α) (k : Nat), (l.map f).eraseIdx k = (l.eraseIdx k).map f
 | [], _ => rfl
 | _ :: _, 0 => rfl
 | a :: l, k + 1 => by simp [sk f l k]
end Go.Proofs.YtieaihgbjikggaaGreat
namespace Go.Proofs.YtieaihgbjikggaaGreat
open Go Go.Sx
set_option maxRecDepth 100000
set_option maxHeartbeats 1000000
end Go.Proofs.YtieaihgbjikggaaGreat
namespace Go.Sx
open Go
abbrev Mem := List (Nat × Option Bx)
abbrev Dec (α : Type) := List At → Option (List Ck × α)
def dI : At → Option Int
 | .k (.int .i64 n) => some n
 | _ => none
def dB : At → Option Bool
 | .k (.bool b) => some b
 | _ => none
theorem fV {a : At} {n : Int} (h : dI a = some n) : a = .k (iV n) := by
 unfold dI at h
 split at h
 ·cases h; rfl
 ·cases h
theorem Dp {a : At} {n : Bool} (h : dB a = some n) : a = .k (.bool n) := by
 unfold dB at h
 split at h
 ·cases h; rfl
 ·cases h
def II {α : Type} (size : Nat) (dec : Dec α) : Nat → List At → Option (List Ck × List α)
 | 0, _ => some ([], [])
 | n + 1, cs =>
  match dec (cs.take size) with
  | none => none
  | some (k, a) => match II size dec n (cs.drop size) with
   | none => none
   | some (k', l) => some (k ++ k', a :: l)
def slD {α : Type} (mem : Mem) (size : Nat) (dec : Dec α) : At → Option (List Ck × List α)
 | .k (.slice none 0 0) => some ([], [])
 | .sl n r off len _ =>
  match gC mem n with
  | some (some b) => if (Nat.ble (off + len * size) b.cs.length && Nat.blt len 4611686018427387904) = true then
    match II size dec len (b.cs.drop off) with
    | some (k, l) => some (.eqN r b.r :: k, l)
    | none => none
   else none
  | _ => none
 | _ => none
def DH {α : Type} (size : Nat) (dec : Dec α) (Rl : List Value → α → Prop) : Prop :=
 ∀ cs k a, dec cs = some (k, a) → AllCk k → cs.length = size ∧ cs.all At.known = true ∧ Rl (cs.map At.den) a ∧ Ones (cs.map At.den)
theorem F8 {α : Type} {size : Nat} {dec : Dec α} {Rl : List Value → α → Prop} (hd : DH size dec Rl) : ∀ {n : Nat} {cs : List At} {vs : List Value} {k : List Ck} {l : List α}, II size dec n cs = some (k, l) → AllCk k → CellsRel cs vs →
  l.length = n ∧ ∀ (i : Nat) (a : α), l[i]? = some a → Rl ((vs.drop (i * size)).take size) a ∧ Ones ((vs.drop (i * size)).take size) ∧ ((vs.drop (i * size)).take size).length = size
 | 0, cs, vs, k, l, h, _, _ => by
  simp only [II, Option.some.injEq, Prod.mk.injEq] at h
  obtain ⟨_, rfl⟩ := h
  exact ⟨rfl, fun i a h => by simp at h⟩
 | n + 1, cs, vs, k, l, h, hk, hr => by
  simp only [II] at h
  split at h
  ·cases h
  ·rename_i k1 a h1
   split at h
   ·cases h
   ·rename_i k2 l' h2
    simp only [Option.some.injEq, Prod.mk.injEq] at h
    obtain ⟨rfl, rfl⟩ := h
    rw [AllCk.append] at hk
    obtain ⟨d1, d2, d3, d4⟩ := hd _ _ _ h1 hk.1
    have e : vs.take size = (cs.take size).map At.den := (hr.take size).known d2
    obtain ⟨i1, i2⟩ := F8 hd h2 hk.2 (hr.drop size)
    refine ⟨by simp [i1], fun i a' hi => ?_⟩
    cases i with
    | zero =>
     simp only [List.getElem?_cons_zero, Option.some.injEq] at hi
     subst hi
     rw [Nat.zero_mul, List.drop_zero, e]
     exact ⟨d3, d4, by rw [List.length_map, d1]⟩
    | succ i =>
     have := i2 i a' (by simpa using hi)
     rw [List.drop_drop] at this
     rw [show (i + 1) * size = size + i * size by rw [Nat.add_mul]; omega]
     exact this
theorem Iz {α : Type} {mem : Mem} {size : Nat} {dec : Dec α} {Rl : List Value → α → Prop} (hd : DH size dec Rl) {x : At} {k : List Ck} {l : List α} (h : slD mem size dec x = some (k, l)) (hk : AllCk k) {L : Own} (hB : Boxes (fun n => (gC mem n).getD none) L) (H : Heap) :
  x.known = true ∧ ∃ rows, RSl H L size x.den rows ∧ rows.length = l.length ∧ ∀ (i : Nat) (r : List Value) (a : α), rows[i]? = some r → l[i]? = some a → Rl r a := by
 unfold slD at h
 split at h
 ·simp only [Option.some.injEq, Prod.mk.injEq] at h
  obtain ⟨_, rfl⟩ := h
  exact ⟨rfl, [], (Sl.nil H size).rsl L, rfl, fun i r a h => by simp at h⟩
 ·rename_i n r off len cap
  split at h
  ·rename_i b hb
   split at h
   ·rename_i hc
    split at h
    ·rename_i k' l' hrow
     simp only [Option.some.injEq, Prod.mk.injEq] at h
     obtain ⟨rfl, rfl⟩ := h
     obtain ⟨hr, hk'⟩ := hk
     have hr : r = b.r := hr
     subst hr
     rw [Bool.and_eq_true] at hc
     have hfit : off + len * size ≤ b.cs.length := Nat.le_of_ble_eq_true hc.1
     have hlen : len < 4611686018427387904 := Nat.le_of_ble_eq_true hc.2
     obtain ⟨vs, L', hrel, hp, _⟩ := hB.take (n := n) (b := b) (by simp [hb])
     have hvl := hrel.length
     obtain ⟨l1, l2⟩ := F8 hd hrow hk' (hrel.drop off)
     refine ⟨rfl, (List.range len).map fun i => ((vs.drop off).drop (i * size)).take size, ⟨rfl, ?_, ?_, ?_⟩, by simp [l1], ?_⟩
     ·simp [At.den, al, goInt]
     ·simp; omega
     ·intro kd i row hi
      have hlt : i < len := by
       have := (List.getElem?_eq_some_iff.1 hi).1
       simpa using this
      have hrowi : ((vs.drop off).drop (i * size)).take size = row := by
       rw [List.getElem?_map, List.getElem?_range hlt] at hi
       simpa using hi
      have hli : l'[i]? = some l'[i] := List.getElem?_eq_getElem (by omega)
      obtain ⟨q1, q2, q3⟩ := l2 i _ hli
      rw [hrowi] at q1 q2 q3
      have hmem : (b.r, Obj.cells vs.toArray b.T (0, 0)) ∈ L := hp.mem_iff.2 (by simp)
      refine ⟨⟨b.r, off + i * size, none⟩, ?_, .inr ⟨_, vs.toArray, b.T, rfl, rfl, hmem, ?_, q3⟩, fun o m hle => .inr ⟨⟨b.r, off + i * size + o, none⟩, vs.toArray, b.T, ?_, rfl, hmem, ?_, ?_⟩, q3, q2⟩
      ·simp only [At.den, al, pz]
       rw [if_pos ⟨by omega, by omega⟩, cB]
       simp
      ·rw [← hrowi, List.drop_drop]
      ·show Value.pointer (some ((⟨b.r, off + i * size, none⟩ : Addr).add o)) = _
       rw [cB]
      ·rw [← hrowi, List.drop_drop, List.drop_take, List.take_take, Nat.min_eq_left (by omega), List.drop_drop]
      ·rw [List.length_take, List.length_drop, q3]; omega
     ·intro i r a hi ha
      have hlt : i < len := by
       have := (List.getElem?_eq_some_iff.1 hi).1
       simpa using this
      rw [List.getElem?_map, List.getElem?_range hlt] at hi
      have hi : ((vs.drop off).drop (i * size)).take size = r := by simpa using hi
      rw [← hi]
      exact (l2 i a ha).1
    ·cases h
   ·cases h
  ·cases h
 ·cases h
theorem kG {α : Type} {mem : Mem} {size : Nat} {dec : Dec α} {row : α → List Value} (hd : DH size dec fun r a => r = row a) {x : At} {k : List Ck} {l : List α} (h : slD mem size dec x = some (k, l)) (hk : AllCk k) {L : Own} (hB : Boxes (fun n => (gC mem n).getD none) L) (H : Heap) :
  RSl H L size x.den (l.map row) := by
 obtain ⟨_, rows, h1, h2, h3⟩ := Iz hd h hk hB H
 have : rows = l.map row := by
  refine List.ext_getElem (by simp [h2]) fun i a b => ?_
  have := h3 i rows[i] l[i] (List.getElem?_eq_getElem a) (List.getElem?_eq_getElem (by omega))
  rw [this]; simp
 rw [← this]; exact h1
def sr : Dec Int
 | [a] => match dI a with | some n => some ([], n) | none => none
 | _ => none
theorem jl : DH 1 sr fun r n => r = [iV n] := by
 intro cs k a h _
 unfold sr at h
 split at h
 ·split at h
  ·rename_i n hn
   simp only [Option.some.injEq, Prod.mk.injEq] at h
   obtain ⟨_, rfl⟩ := h
   obtain rfl := fV hn
   exact ⟨rfl, rfl, rfl, rfl, trivial⟩
  ·cases h
 ·cases h
def Cf {α : Type} (f : Int → Int → α) : Dec α
 | [a, b] => match dI a, dI b with | some n, some m => some ([], f n m) | _, _ => none
 | _ => none
theorem EM {α : Type} {f : Int → Int → α} {row : α → List Value} (hf : ∀ n m, row (f n m) = [iV n, iV m]) : DH 2 (Cf f) fun r a => r = row a := by
 intro cs k a h _
 unfold Cf at h
 split at h
 ·split at h
  ·rename_i n m hn hm
   simp only [Option.some.injEq, Prod.mk.injEq] at h
   obtain ⟨_, rfl⟩ := h
   obtain rfl := fV hn
   obtain rfl := fV hm
   exact ⟨rfl, rfl, (hf n m).symm, rfl, rfl, trivial⟩
  ·cases h
 ·cases h
def Mw : Dec Ob
 | [a0, a1, a2, a3, a4, a5, a6, a7, a8, b0, b1, b2] =>
  (dI a0).bind fun n0 => (dI a1).bind fun n1 => (dI a2).bind fun n2 => (dI a3).bind fun n3 => (dI a4).bind fun n4 => (dI a5).bind fun n5 => (dI a6).bind fun n6 => (dI a7).bind fun n7 => (dI a8).bind fun n8 => (dB b0).bind fun m0 => (dB b1).bind fun m1 => (dB b2).bind fun m2 => some ([], ⟨n0, n1, n2, n3, n4, n5, n6, n7, n8, m0, m1, m2⟩)
 | _ => none
theorem KU : DH 12 Mw fun r o => r = Ob.row o := by
 intro cs k a h _
 unfold Mw at h
 split at h
 ·simp only [Option.bind_eq_some_iff, Option.some.injEq, Prod.mk.injEq] at h
  obtain ⟨n0, e0, n1, e1, n2, e2, n3, e3, n4, e4, n5, e5, n6, e6, n7, e7, n8, e8, m0, f0, m1, f1, m2, f2, _, rfl⟩ := h
  obtain rfl := fV e0
  obtain rfl := fV e1
  obtain rfl := fV e2
  obtain rfl := fV e3
  obtain rfl := fV e4
  obtain rfl := fV e5
  obtain rfl := fV e6
  obtain rfl := fV e7
  obtain rfl := fV e8
  obtain rfl := Dp f0
  obtain rfl := Dp f1
  obtain rfl := Dp f2
  exact ⟨rfl, rfl, rfl, rfl, rfl, rfl, rfl, rfl, rfl, rfl, rfl, rfl, rfl, rfl, rfl, trivial⟩
 ·cases h
def JH (mem : Mem) : Dec It
 | [a0, a1, a2, a3, s] => (dI a0).bind fun n0 => (dI a1).bind fun n1 => (dI a2).bind fun n2 => (dI a3).bind fun n3 => (slD mem 2 (Cf Tg.mk) s).bind fun t => some (t.1, ⟨n0, n1, n2, n3, t.2⟩)
 | _ => none
theorem GB : DH 2 (Cf Tg.mk) fun r t => r = Tg.row t := EM fun _ _ => rfl
theorem KW : DH 2 (Cf Bl.mk) fun r t => r = Bl.row t := EM fun _ _ => rfl
theorem KV {mem : Mem} {L : Own} (hB : Boxes (fun n => (gC mem n).getD none) L) (H : Heap) : DH 5 (JH mem) fun r x => ItR H L r x := by
 intro cs k a h hk
 unfold JH at h
 split at h
 ·simp only [Option.bind_eq_some_iff, Option.some.injEq, Prod.mk.injEq] at h
  obtain ⟨n0, e0, n1, e1, n2, e2, n3, e3, t, e4, rfl, rfl⟩ := h
  obtain rfl := fV e0
  obtain rfl := fV e1
  obtain rfl := fV e2
  obtain rfl := fV e3
  have hs := kG GB e4 hk hB H
  have hkn := (Iz GB e4 hk hB H).1
  exact ⟨rfl, by rw [List.all_cons, List.all_cons, List.all_cons, List.all_cons, List.all_cons, hkn]; rfl, ⟨_, rfl, hs⟩, rfl, rfl, rfl, rfl, hs.one, trivial⟩
 ·cases h
theorem IA {mem : Mem} {x : At} {k : List Ck} {l : List It} (h : slD mem 5 (JH mem) x = some (k, l)) (hk : AllCk k) {L : Own} (hB : Boxes (fun n => (gC mem n).getD none) L) (H : Heap) : ItsR H L x.den l := by
 obtain ⟨_, rows, h1, h2, h3⟩ := Iz (KV hB H) h hk hB H
 exact ⟨rows, h1, h2, h3⟩
def dBd (mem : Mem) : List At → Option (List Ck × dG × Bd)
 | a0 :: a1 :: a2 :: a3 :: a4 :: a5 :: a6 :: a7 :: a8 :: a9 :: a10 :: a11 :: a12 :: a13 :: a14 :: a15 :: a16 :: a17 :: a18 :: a19 :: a20 :: a21 :: a22 :: a23 :: a24 :: a25 :: a26 :: a27 :: a28 :: a29 :: a30 :: a31 :: a32 :: a33 :: a34 :: a35 :: a36 :: a37 :: [] =>
  (slD mem 12 Mw a0).bind fun n0 => (dI a1).bind fun n1 => (dI a2).bind fun n2 => (dI a3).bind fun n3 => (dI a4).bind fun n4 => (dI a5).bind fun n5 => (slD mem 1 sr a6).bind fun n6 => (slD mem 1 sr a7).bind fun n7 => (slD mem 1 sr a8).bind fun n8 => (slD mem 1 sr a9).bind fun n9 => (dB a10).bind fun n10 => (dB a11).bind fun n11 => (dB a12).bind fun n12 => (dI a13).bind fun n13 => (dI a14).bind fun n14 => (dI a15).bind fun n15 => (dI a16).bind fun n16 => (dI a17).bind fun n17 => (dI a18).bind fun n18 => (dI a19).bind fun n19 => (slD mem 1 sr a20).bind fun n20 => (slD mem 1 sr a21).bind fun n21 => (slD mem 1 sr a22).bind fun n22 => (slD mem 1 sr a23).bind fun n23 => (dB a24).bind fun n24 => (dB a25).bind fun n25 => (dB a26).bind fun n26 => (dI a27).bind fun n27 => (dI a28).bind fun n28 => (slD mem 5 (JH mem) a29).bind fun n29 => (slD mem 5 (JH mem) a30).bind fun n30 => (slD mem 1 sr a31).bind fun n31 => (slD mem 2 (Cf Bl.mk) a32).bind fun n32 => (dI a33).bind fun n33 => (dI a34).bind fun n34 => (dI a35).bind fun n35 => (dI a36).bind fun n36 => (dI a37).bind fun n37 => 
   some (n0.1 ++ (n6.1 ++ (n7.1 ++ (n8.1 ++ (n9.1 ++ (n20.1 ++ (n21.1 ++ (n22.1 ++ (n23.1 ++ (n29.1 ++ (n30.1 ++ (n31.1 ++ (n32.1)))))))))))), ⟨a0.den, a6.den, a7.den, a8.den, a9.den, a20.den, a21.den, a22.den, a23.den, a29.den, a30.den, a31.den, a32.den⟩, ⟨n0.2, ⟨n1, n2, n3, n4, n5, n6.2, n7.2, n8.2, n9.2, n10, n11, n12, n13, n14⟩, ⟨n15, n16, n17, n18, n19, n20.2, n21.2, n22.2, n23.2, n24, n25, n26, n27, n28⟩, n29.2, n30.2, n31.2, n32.2, n33, n34, n35, n36, n37⟩)
 | _ => none
theorem NG {mem : Mem} {l : List At} {k : List Ck} {v : dG} {b : Bd} (h : dBd mem l = some (k, v, b)) (hk : AllCk k) {L : Own} (hB : Boxes (fun n => (gC mem n).getD none) L) (H : Heap) : l.map At.den = aq v b ∧ BdR H L v b := by
 unfold dBd at h
 split at h
 ·simp only [Option.bind_eq_some_iff, Option.some.injEq, Prod.mk.injEq] at h
  obtain ⟨n0, e0, n1, e1, n2, e2, n3, e3, n4, e4, n5, e5, n6, e6, n7, e7, n8, e8, n9, e9, n10, e10, n11, e11, n12, e12, n13, e13, n14, e14, n15, e15, n16, e16, n17, e17, n18, e18, n19, e19, n20, e20, n21, e21, n22, e22, n23, e23, n24, e24, n25, e25, n26, e26, n27, e27, n28, e28, n29, e29, n30, e30, n31, e31, n32, e32, n33, e33, n34, e34, n35, e35, n36, e36, n37, e37, rfl, rfl, rfl⟩ := h
  simp only [AllCk.append] at hk
  obtain ⟨c0, c6, c7, c8, c9, c20, c21, c22, c23, c29, c30, c31, c32⟩ := hk
  obtain rfl := fV e1
  obtain rfl := fV e2
  obtain rfl := fV e3
  obtain rfl := fV e4
  obtain rfl := fV e5
  obtain rfl := Dp e10
  obtain rfl := Dp e11
  obtain rfl := Dp e12
  obtain rfl := fV e13
  obtain rfl := fV e14
  obtain rfl := fV e15
  obtain rfl := fV e16
  obtain rfl := fV e17
  obtain rfl := fV e18
  obtain rfl := fV e19
  obtain rfl := Dp e24
  obtain rfl := Dp e25
  obtain rfl := Dp e26
  obtain rfl := fV e27
  obtain rfl := fV e28
  obtain rfl := fV e33
  obtain rfl := fV e34
  obtain rfl := fV e35
  obtain rfl := fV e36
  obtain rfl := fV e37
  exact ⟨rfl, ⟨kG KU e0 c0 hB H, ⟨kG jl e6 c6 hB H, kG jl e7 c7 hB H, kG jl e8 c8 hB H, kG jl e9 c9 hB H⟩, ⟨kG jl e20 c20 hB H, kG jl e21 c21 hB H, kG jl e22 c22 hB H, kG jl e23 c23 hB H⟩, IA e29 c29 hB H, IA e30 c30 hB H, kG jl e31 c31 hB H, kG KW e32 c32 hB H⟩⟩
 ·cases h
def N8 (fv : Nat) (val : Bd → Bool) : J9 := fun f args mem _ =>
 if Nat.beq f fv = true then
  match args with
  | [.agg l] => match dBd mem l with
   | some (k, _, b) => some (k, .s (.at (.k (.bool (val b)))))
   | none => none
  | _ => none
 else none
theorem LX {P : Program} {ok : FuncId → Bool} {fv : Nat} {val : Bd → Bool} (hc : ∀ (H : Heap) (O : Own) (v : dG) (b : Bd), BdR H O v b → RetO P fv [.agg (aq v b).toArray] H O (.bool (val b))) (H : Heap) : J2 P ok H (N8 fv val) := by
 intro f args mem h cs sv _ hs hck
 unfold N8 at hs
 split at hs
 ·rename_i hf
  have hf : f = fv := Nat.eq_of_beq_eq_true hf
  subst hf
  split at hs
  ·rename_i l
   split at hs
   ·rename_i k v b hd
    simp only [Option.some.injEq, Prod.mk.injEq] at hs
    obtain ⟨rfl, rfl⟩ := hs
    refine ⟨DI _, fun F w next _ hm => ?_⟩
    obtain ⟨L, O, hB, hok, hM, hmod, hfr⟩ := hm
    obtain ⟨h1, h2⟩ := NG hd hck hB H
    have hret := Triple.frame (hc H L v b h2) O
    have e : (([S1.agg l] : List S1).map S1.den).toArray = [Value.agg (aq v b).toArray].toArray := by simp [S1.den, h1]
    rw [e]
    refine (hret w F (by simpa using hmod)).mono ?_
    rintro e' w' ⟨v', H', O', he, ⟨O'', q1, q2, q3⟩, hle, hm'⟩
    rw [q1, q3] at hm'
    exact ⟨v', he, q2, L, O, hB, hok, hM, by simpa using hm'.less hle, hfr⟩
   ·cases hs
  ·cases hs
 ·cases hs
end Go.Sx
