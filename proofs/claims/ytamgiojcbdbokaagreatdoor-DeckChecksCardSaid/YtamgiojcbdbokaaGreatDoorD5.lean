/- effect.Valid. -/
import Derived.Test.YtamgiojcbdbokaaGreatDoorM
namespace Go.Proofs.YtamgiojcbdbokaaGreatDoor
open Go Go.Sx
set_option maxRecDepth 100000
set_option maxHeartbeats 1000000
abbrev I (n : Int) : Value := .int .i64 n
theorem zW (x y : Int) : ah .min2 [iV x, iV y] = some (iV (min x y)) := by
 simp only [ah]; congr 2; omega
theorem Aa (x y : Int) : ah .max2 [iV x, iV y] = some (iV (max x y)) := by
 simp only [ah]; congr 2; omega
def Ci (l : List Int) (e : Eff) : Bool := ((l.contains e.target && e.n == 0) && e.m == 0) && e.colour == 0
def inR (n lo hi : Int) : Bool := decide (n ≥ lo) && max 0 (min n hi) == n
def BB (l : List Int) (most : Int) (e : Eff) : Bool := inR e.n 1 most && Ci l { e with n := 0 }
def BA (l : List Int) (yP : Int) (e : Eff) : Bool := ((inR e.n 0 9 && inR e.m yP 9) && decide (e.n + e.m > 0)) && Ci l { e with n := 0, m := 0 }
def Cf (l : List Int) (most : Int) (e : Eff) : Bool := inR e.colour 0 3 && BB l most { e with colour := 0 }
inductive Rl where
 | no
 | bare (l : List Int)
 | cnt (l : List Int) (m : Int)
 | par (l : List Int) (m : Int)
 | col (l : List Int) (m : Int)
def mQ (c : Int) : Rl :=
 if c = 1 then .cnt [1, 2, 3, 4, 5] 99 else if c = 2 then .cnt [0, 4] 7 else if c = 3 ∨ c = 4 then .cnt [0, 4] 99
 else if c = 5 ∨ c = 6 ∨ c = 11 then .bare [1, 2, 3] else if c = 7 then .bare [6] else if c = 8 then .par [1, 2, 3, 0] 0
 else if c = 9 then .cnt [1, 2, 3, 0] 9 else if c = 10 then .par [0] 1 else if c = 12 then .col [0] 9 else .no
def Rl.fits : Rl → Eff → Bool
 | .no, _ => false
 | .bare l, e => Ci l e
 | .cnt l m, e => BB l m e
 | .par l m, e => BA l m e
 | .col l m, e => Cf l m e
def Cm (e : Eff) : Bool := (mQ e.code).fits e
def yR : List Int → Int → Int → Int
 | [], _, _ => -1
 | a :: r, x, i => if x == a then i else yR r x (i + 1)
theorem xx : ∀ (l : List Int) (x i : Int), 0 ≤ i → (decide (0 ≤ yR l x i) = l.contains x)
 | [], x, i, _ => by simp [yR]
 | a :: r, x, i, h => by
  simp only [yR, List.contains_cons]
  by_cases hx : x = a
  ·simp [hx, h]
  ·simp only [beq_iff_eq, hx, if_false]
   rw [xx r x (i + 1) (by omega)]
   simp [hx]
theorem eU {P : Program} {t ty e : TypeId} {size : Nat} (ha : vt P t e size = true) {ad : Addr} {rows news : List (List Value)} {x : Value} {H : Heap} {O : Go.Sx.Own} {frz : List BV} {K : List Value → List (List Value) → Heap → Go.Sx.Own → Prop}
  (hr : Sl H size (.slice (some ad) rows.length rows.length) rows) (hx : ∀ Hf, Heap.le H Hf → (∀ b ∈ frz, Hf b.r = some b.obj.2) → Sl Hf size x news)
  (hb : (rows.length + news.length) * jg P e ≤ 140737488355328) (h63 : rows.length + news.length < 2 ^ 63) (hk : ∀ v' H', Heap.le H H' → Sl H' size v' (rows ++ news) → K [v'] [] H' O) :
  cX (fun H1 O1 R => bJ P ((PrimOp.bi .append #[t, t] ty).sem [.slice (some ad) rows.length rows.length, x]) H1 O1 R) false frz [] .one K H O := by
 intro hc
 have hf := eA hc
 have hl := Heap.le_insAll frz H
 refine ⟨H.insAll frz, [], O, _, Ghost.refl _ _, by simpa using wv (ty := ty) ha (hr.le hl) (hx _ hl hf) hb h63, ?_⟩
 rintro v' H' O' ⟨rfl, hle, hs⟩ _
 exact ⟨[v'], [], [], rfl, ⟨hs.one, trivial⟩, trivial, rfl, hk v' H' (Heap.le_trans hl hle) hs⟩
theorem fO {P : Program} {t : TypeId} {d : TypeDesc} (hu : P.underlying t = some d) (hni : ∀ m, d ≠ .interface m) {b : Bool} {args : List Value} {x : Value} (hx : (b = true ∧ x = .agg args.toArray) ∨ (b = false ∧ args = [x])) {frz : List BV} {H : Heap} {O : Go.Sx.Own}
  {K : List Value → List (List Value) → Heap → Go.Sx.Own → Prop} (hk : ∀ H', Heap.le H H' → (∀ b ∈ frz, H' b.r = some b.obj.2) → K [.iface t x] [] H' O) :
  cX (fun H1 O1 R => bJ P ((PrimOp.mkIface t b).sem args) H1 O1 R) false frz [] .one K H O := by
 intro hc
 have hf := eA hc
 have hl := Heap.le_insAll frz H
 have hrun : ∀ w, ((PrimOp.mkIface t b).sem args).run P w = .ok (.value (.iface t x)) w := fun w => by
  rcases hx with ⟨rfl, rfl⟩ | ⟨rfl, rfl⟩
  ·simp only [PrimOp.sem, Instr.makeInterface, Sem.run_bind, ak hu, Result.andThen_ok]
   cases d <;> first | rfl | exact absurd rfl (hni _)
  ·simp only [PrimOp.sem, Instr.makeInterface, Sem.run_bind, ak hu, Result.andThen_ok]
   cases d <;> first | rfl | exact absurd rfl (hni _)
 refine ⟨H.insAll frz, [], O, fun v H' O' => v = .iface t x ∧ H' = H.insAll frz ∧ O' = [], Ghost.refl _ _, fun w F hm => ⟨_, w, H.insAll frz, [], hrun w, ⟨rfl, rfl, rfl⟩, Heap.le_refl _, by simpa using hm⟩, ?_⟩
 rintro v' H' O' ⟨rfl, rfl, rfl⟩ _
 exact ⟨[_], [], [], rfl, ⟨rfl, trivial⟩, trivial, rfl, hk _ hl hf⟩
theorem uo (r : Nat) (H : Heap) : Ret PP be [.slice (some ⟨r, 0, none⟩) 3 3] H (.slice (some ⟨r, 0, none⟩) 3 3) := by
 refine cu (vs := [.slice (some ⟨r, 0, none⟩) 3 3]) (by kernel_rfl) ⟨rfl, trivial⟩ ?_
 simp only [ba]
 exact aa (iV 3) rfl (aa (iV 3) rfl (aa (.slice (some ⟨r, 0, none⟩) 3 3) rfl (af ⟨rfl, rfl⟩)))
def B7 (H : Heap) : Rl → Value → Prop
 | .no, r => r = .nilIface
 | .bare l, r => ∃ s, r = .iface 228 s ∧ Sl H 1 s (bK l)
 | .cnt l m, r => ∃ s, r = .iface 231 (.agg #[s, iV m]) ∧ Sl H 1 s (bK l)
 | .par l m, r => ∃ s, r = .iface 233 (.agg #[s, iV m]) ∧ Sl H 1 s (bK l)
 | .col l m, r => ∃ s, r = .iface 235 (.agg #[s, iV m]) ∧ Sl H 1 s (bK l)
def OfQ (c : Int) (r : Value) (H' : Heap) (O' : Go.Sx.Own) : Prop := B7 H' (mQ c) r ∧ O' = []
theorem CB {H : Heap} {r : Nat} {T : TypeId} (h : H r = some (.cells [iV 1, iV 2, iV 3].toArray T (0, 0))) : Sl H 1 (.slice (some ⟨r, 0, none⟩) 3 3) (bK [1, 2, 3]) := Sl.block h ⟨rfl, rfl, rfl, trivial⟩ rfl (by decide)
theorem Dk {H : Heap} {r : Nat} {T : TypeId} {a b : Int} (h : H r = some (.cells [iV a, iV b].toArray T (0, 0))) : Sl H 1 (.slice (some ⟨r, 0, none⟩) 2 2) (bK [a, b]) := Sl.block h ⟨rfl, rfl, trivial⟩ rfl (by decide)
theorem BY {H : Heap} {r : Nat} {T : TypeId} {a : Int} (h : H r = some (.cells [iV a].toArray T (0, 0))) : Sl H 1 (.slice (some ⟨r, 0, none⟩) 1 1) (bK [a]) := Sl.block h ⟨rfl, trivial⟩ rfl (by decide)
def yI : Option TypeDesc → Bool
 | none => false
 | some (.interface _) => false
 | some _ => true
theorem fC {o : Option TypeDesc} (h : yI o = true) : ∃ d, o = some d ∧ ∀ m, d ≠ .interface m := by
 cases o with
 | none => cases h
 | some d => exact ⟨d, rfl, fun m e => by rw [e] at h; cases h⟩
theorem Dl : ∃ d, PP.underlying 228 = some d ∧ ∀ m, d ≠ .interface m := fC (by kernel_rfl)
theorem Dw : ∃ d, PP.underlying 231 = some d ∧ ∀ m, d ≠ .interface m := fC (by kernel_rfl)
theorem DF : ∃ d, PP.underlying 233 = some d ∧ ∀ m, d ≠ .interface m := fC (by kernel_rfl)
theorem DW : ∃ d, PP.underlying 235 = some d ∧ ∀ m, d ≠ .interface m := fC (by kernel_rfl)
theorem CV {c : Int} {k : Bool} {r2 r0 : Nat} {H : Heap} (h1 : k = true → c = 5 ∨ c = 6 ∨ c = 11) (h2 : k = false → ¬ (c = 1 ∨ c = 2 ∨ c = 3 ∨ c = 4 ∨ c = 5 ∨ c = 6 ∨ c = 11)) : (dY (.bool k) r2 [iV c] r0).den PP (OfQ c) H [] := by
 simp only [dY]
 obtain ⟨d1, u1, n1⟩ := Dl
 obtain ⟨d3, u3, n3⟩ := DF
 obtain ⟨d4, u4, n4⟩ := DW
 refine ai (fun hk => ?_) (fun hk => ?_)
 ·refine fO u1 n1 (.inr ⟨rfl, rfl⟩) fun H1 l1 hf => ?_
  refine af ⟨?_, rfl⟩
  rw [mQ, if_neg (by have := h1 hk; omega), if_neg (by have := h1 hk; omega), if_neg (by have := h1 hk; omega), if_pos (h1 hk)]
  exact ⟨_, rfl, CB (hf _ List.mem_cons_self)⟩
 have hn := h2 hk
 refine aa _ (an _ _) (ai (fun h => ?_) (fun h => ?_))
 ·have h : c = 7 := by simpa using h
  subst h
  refine aj fun r4 => ?_
  refine fO u1 n1 (.inr ⟨rfl, rfl⟩) fun H1 l1 hf => ?_
  exact af ⟨⟨_, rfl, BY (hf _ List.mem_cons_self)⟩, rfl⟩
 have n7 : c ≠ 7 := by simpa using h
 refine aa _ (an _ _) (ai (fun h => ?_) (fun h => ?_))
 ·have h : c = 8 := by simpa using h
  subst h
  refine po _ (fun Hf _ _ => uo r2 Hf) rfl ⟨rfl, trivial⟩ fun H1 l1 hf => ?_
  refine aj fun r5 => ?_
  refine eU (ad := ⟨r2, 0, none⟩) (rows := bK [1, 2, 3]) (news := bK [0]) (size := 1) (e := 108) (by kernel_rfl) (CB (hf _ List.mem_cons_self)) (fun Hf _ hf2 => BY (hf2 _ List.mem_cons_self)) (by rw [show jg PP 108 = 8 by kernel_rfl]; decide) (by decide) fun v' H2 l2 hs => ?_
  exact af ⟨⟨_, rfl, hs⟩, rfl⟩
 have n8 : c ≠ 8 := by simpa using h
 refine aa _ (an _ _) (ai (fun h => ?_) (fun h => ?_))
 ·have h : c = 9 := by simpa using h
  subst h
  refine po _ (fun Hf _ _ => uo r2 Hf) rfl ⟨rfl, trivial⟩ fun H1 l1 hf => ?_
  refine aj fun r5 => ?_
  refine eU (ad := ⟨r2, 0, none⟩) (rows := bK [1, 2, 3]) (news := bK [0]) (size := 1) (e := 108) (by kernel_rfl) (CB (hf _ List.mem_cons_self)) (fun Hf _ hf2 => BY (hf2 _ List.mem_cons_self)) (by rw [show jg PP 108 = 8 by kernel_rfl]; decide) (by decide) fun v' H2 l2 hs => ?_
  exact af ⟨⟨_, rfl, hs⟩, rfl⟩
 have n9 : c ≠ 9 := by simpa using h
 refine aa _ (an _ _) (ai (fun h => ?_) (fun h => ?_))
 ·have h : c = 10 := by simpa using h
  subst h
  refine fO u3 n3 (.inl ⟨rfl, rfl⟩) fun H1 l1 hf => ?_
  exact af ⟨⟨_, rfl, BY (hf _ List.mem_cons_self)⟩, rfl⟩
 have n10 : c ≠ 10 := by simpa using h
 refine aa _ (an _ _) (ai (fun h => ?_) (fun h => ?_))
 ·have h : c = 12 := by simpa using h
  subst h
  refine fO u4 n4 (.inl ⟨rfl, rfl⟩) fun H1 l1 hf => ?_
  exact af ⟨⟨_, rfl, BY (hf _ List.mem_cons_self)⟩, rfl⟩
 have n12 : c ≠ 12 := by simpa using h
 refine af ⟨?_, rfl⟩
 rw [mQ, if_neg (by omega), if_neg (by omega), if_neg (by omega), if_neg (by omega), if_neg n7, if_neg n8, if_neg n9, if_neg n10, if_neg n12]
 rfl
theorem Dv {c : Int} {k : Bool} {r1 r2 r0 : Nat} {H : Heap} (h1 : k = true → c = 3 ∨ c = 4) (h2 : k = false → ¬ (c = 1 ∨ c = 2 ∨ c = 3 ∨ c = 4)) : (fK (.bool k) r1 [iV c] r2 r0).den PP (OfQ c) H [] := by
 simp only [fK]
 obtain ⟨d2, u2, n2⟩ := Dw
 refine ai (fun hk => ?_) (fun hk => ?_)
 ·refine fO u2 n2 (.inl ⟨rfl, rfl⟩) fun H1 l1 hf => ?_
  refine af ⟨?_, rfl⟩
  rw [mQ, if_neg (by have := h1 hk; omega), if_neg (by have := h1 hk; omega), if_pos (h1 hk)]
  exact ⟨_, rfl, Dk (hf _ List.mem_cons_self)⟩
 have hn := h2 hk
 refine aa _ (an _ _) (ai (fun h => ?_) (fun h => ?_))
 ·have h' : c = 5 := by simpa using h
  exact CV (fun _ => .inl h') (fun e => by rw [h] at e; cases e)
 have n5 : c ≠ 5 := by simpa using h
 refine aa _ (an _ _) (ai (fun h => ?_) (fun h => ?_))
 ·have h' : c = 6 := by simpa using h
  exact CV (fun _ => .inr (.inl h')) (fun e => by rw [h] at e; cases e)
 have n6 : c ≠ 6 := by simpa using h
 refine aa _ (an _ _) ?_
 exact CV (fun e => .inr (.inr (by simpa using e))) (fun e => by have : c ≠ 11 := (by simpa using e); omega)
theorem DX (c : Int) (H : Heap) : Triple PP pT [iV c] H [] (OfQ c) := by
 refine qX (vs := [iV c]) (by kernel_rfl) ⟨rfl, trivial⟩ ?_
 simp only [pB]
 obtain ⟨d2, u2, n2⟩ := Dw
 refine aj fun r0 => aj fun r1 => aj fun r2 => ?_
 refine aa _ (an _ _) (ai (fun h => ?_) (fun h => ?_))
 ·have h : c = 1 := by simpa using h
  subst h
  refine po _ (fun Hf _ _ => uo r2 Hf) rfl ⟨rfl, trivial⟩ fun H1 l1 hf => ?_
  refine aj fun r5 => ?_
  refine eU (ad := ⟨r2, 0, none⟩) (rows := bK [1, 2, 3]) (news := bK [4, 5]) (size := 1) (e := 108) (by kernel_rfl) (CB (hf _ List.mem_cons_self)) (fun Hf _ hf2 => Dk (hf2 _ List.mem_cons_self)) (by rw [show jg PP 108 = 8 by kernel_rfl]; decide) (by decide) fun v' H2 l2 hs => ?_
  exact af ⟨⟨_, rfl, hs⟩, rfl⟩
 have n1 : c ≠ 1 := by simpa using h
 refine aa _ (an _ _) (ai (fun h => ?_) (fun h => ?_))
 ·have h : c = 2 := by simpa using h
  subst h
  refine fO u2 n2 (.inl ⟨rfl, rfl⟩) fun H1 l1 hf => ?_
  exact af ⟨⟨_, rfl, Dk (hf _ List.mem_cons_self)⟩, rfl⟩
 have n2' : c ≠ 2 := by simpa using h
 refine aa _ (an _ _) (ai (fun h => ?_) (fun h => ?_))
 ·have h' : c = 3 := by simpa using h
  exact Dv (fun _ => .inl h') (fun e => by rw [h] at e; cases e)
 have n3 : c ≠ 3 := by simpa using h
 refine aa _ (an _ _) ?_
 exact Dv (fun e => .inr (by simpa using e)) (fun e => by have : c ≠ 4 := (by simpa using e); omega)
theorem y0 {H : Heap} {O : Go.Sx.Own} {v : Value} {l : List Int} (h : RSl H O 1 v (l.map fun n => [I n])) (x : Int) : RetO PP a6 [v, I x] H O (I (yR l x 0)) := by
 refine ce (vs := [v, I x]) (by kernel_rfl) ⟨h.one, rfl, trivial⟩ ?_
 simp only [aZ]
 refine aa _ h.len ?_
 refine aK l.length (fun i H' O' => O' = O ∧ Heap.le H H' ∧ yR l x 0 = yR (l.drop i) x i) ⟨rfl, Heap.le_refl H, by simp⟩ ?_
 rintro i H' O' hi - ⟨rfl, hle, hor⟩
 refine aa _ (aC _ _) (ai (fun hb => ?_) (fun hb => ?_))
 ·have hlt : i < l.length := by simpa using hb
  obtain ⟨a, h1, h2, _, h3, h4⟩ := (h.le hle).idx .i64 i [I l[i]] (by simp [hlt])
  refine aa _ h1 (ao h2 h3 h4 (aa _ (an _ _) (ai (fun hb => ?_) (fun hb => ?_))))
  ·refine af ⟨?_, rfl⟩
   rw [hor, List.drop_eq_getElem_cons hlt, yR, if_pos hb]; rfl
  ·refine aa _ (aG (by have := h.lenB; simp at this; omega)) (ay (by simp [Eqs, E]) hlt ⟨rfl, hle, ?_⟩)
   rw [hor, List.drop_eq_getElem_cons hlt, yR, if_neg (by rw [hb]; simp)]; rfl
 ·have hge : l.length ≤ i := by simpa using hb
  refine af ⟨?_, rfl⟩
  rw [hor, List.drop_of_length_le hge]; rfl
theorem ul {H : Heap} {O : Go.Sx.Own} {v : Value} {l : List Int} (h : RSl H O 1 v (l.map fun n => [I n])) (x : Int) : RetO PP aO [v, I x] H O (.bool (l.contains x)) := by
 refine bQ (vs := [v, I x]) (by kernel_rfl) ⟨h.one, rfl, trivial⟩ ?_
 simp only [aN]
 refine al (y0 h x) rfl ⟨rfl, trivial⟩ fun H1 _ => aa _ (gB _ _) (af ⟨?_, rfl⟩)
 rw [← xx l x 0 (by omega)]
theorem AN {H : Heap} {O : Go.Sx.Own} (p m : Int) : RetO PP pR [iV p, iV m] H O (iV (max 0 (min p m))) := by
 refine qV (vs := [iV p, iV m]) (by kernel_rfl) ⟨rfl, rfl, trivial⟩ ?_
 simp only [pz]
 exact aa _ (zW _ _) (aa _ (Aa _ _) (af ⟨rfl, rfl⟩))
theorem mc (n lo hi : Int) (H : Heap) (O : Go.Sx.Own) : RetO PP km [iV n, iV lo, iV hi] H O (.bool (inR n lo hi)) := by
 refine mz (vs := [iV n, iV lo, iV hi]) (by kernel_rfl) ⟨rfl, rfl, rfl, trivial⟩ ?_
 simp only [ki]
 refine aa _ (gB _ _) (ai (fun h => ?_) (fun h => ?_))
 ·refine al (AN n hi) rfl ⟨rfl, trivial⟩ fun H1 _ => aa _ (an _ _) (af ⟨?_, rfl⟩)
  rw [inR, h, Bool.true_and]
 ·refine af ⟨?_, rfl⟩
  rw [inR, h, Bool.false_and]
theorem mK {H : Heap} {O : Go.Sx.Own} {s : Value} {l : List Int} (h : RSl H O 1 s (bK l)) (e : Eff) : RetO PP d5 [s, .agg e.row.toArray] H O (.bool (Ci l e)) := by
 refine kM (vs := s :: e.row) (by kernel_rfl) ⟨h.one, hN e⟩ ?_
 simp only [gU]
 refine aj fun r0 => ?_
 refine ae ?_
 refine al (ul h e.target) rfl ⟨rfl, trivial⟩ fun H1 _ => ?_
 refine ae (ab (ab ?_))
 refine aa _ (an _ _) ?_
 refine ab ?_
 refine aa _ (ap _ _) ?_
 refine ae (ab (ab ?_))
 refine aa _ (an _ _) ?_
 refine ab ?_
 refine aa _ (ap _ _) ?_
 refine ae (ab (ab ?_))
 refine aa _ (an _ _) ?_
 refine ab ?_
 refine aa _ (ap _ _) ?_
 exact af ⟨rfl, rfl⟩
theorem s6 {H : Heap} {O : Go.Sx.Own} {s : Value} {l : List Int} (h : RSl H O 1 s (bK l)) (m : Int) (e : Eff) : RetO PP cV [.agg #[s, iV m], .agg e.row.toArray] H O (.bool (BB l m e)) := by
 refine iL (vs := s :: iV m :: e.row) (by kernel_rfl) ⟨h.one, rfl, hN e⟩ ?_
 simp only [eN]
 refine aj fun r0 => aj fun r1 => ?_
 refine ae (ae (ae ?_))
 refine al (mc e.n 1 m _ _) rfl ⟨rfl, trivial⟩ fun H1 l1 => ai (fun hb => ?_) (fun hb => ?_)
 ·refine ae (ae ?_)
  refine al (mK (h.le l1) { e with n := 0 }) rfl ⟨rfl, trivial⟩ fun H2 _ => af ⟨?_, rfl⟩
  rw [BB, hb, Bool.true_and]; rfl
 ·refine af ⟨?_, rfl⟩
  rw [BB, hb, Bool.false_and]
theorem xW {H : Heap} {O : Go.Sx.Own} {s : Value} {l : List Int} (h : RSl H O 1 s (bK l)) {m : Int} (hm : 0 ≤ m) (e : Eff) : RetO PP dk [.agg #[s, iV m], .agg e.row.toArray] H O (.bool (BA l m e)) := by
 refine jE (vs := s :: iV m :: e.row) (by kernel_rfl) ⟨h.one, rfl, hN e⟩ ?_
 simp only [fi]
 refine aj fun r0 => aj fun r1 => ?_
 refine ae (ae (ae (ae ?_)))
 refine al (mc e.n 0 9 _ _) rfl ⟨rfl, trivial⟩ fun H1 l1 => ai (fun hb => ?_) (fun hb => ?_)
 rotate_left
 ·refine af ⟨?_, rfl⟩
  rw [BA, hb]; rfl
 refine ae ?_
 refine al (mc e.m m 9 _ _) rfl ⟨rfl, trivial⟩ fun H2 l2 => ?_
 refine ab (ab ?_)
 have hw : ∃ z, ah (.bin .add .int) [iV e.n, iV e.m] = some (iV z) ∧ (inR e.m m 9 = true → z = e.n + e.m) := by
  refine ⟨IntKind.i64.wrap (e.n + e.m), rfl, fun hm9 => ?_⟩
  simp only [inR, Bool.and_eq_true, decide_eq_true_eq, beq_iff_eq] at hb hm9
  exact li (by omega) (by omega)
 obtain ⟨z, hz, hze⟩ := hw
 refine aa _ hz ?_
 refine ab ?_
 refine aa _ (bW _ _) ?_
 refine ab ?_
 refine aa _ (ap _ _) (ai (fun hc => ?_) (fun hc => ?_))
 ·rw [Bool.and_eq_true] at hc
  refine ae (ae ?_)
  refine al (mK (h.le (Heap.le_trans l1 l2)) { e with n := 0, m := 0 }) rfl ⟨rfl, trivial⟩ fun H3 _ => af ⟨?_, rfl⟩
  rw [BA, hb, hc.1, ← hze hc.1, hc.2]; rfl
 ·refine af ⟨?_, rfl⟩
  rw [BA, hb, Bool.true_and]
  by_cases hm9 : inR e.m m 9 = true
  ·rw [hm9, Bool.true_and] at hc
   rw [hm9, ← hze hm9, Bool.true_and, hc]; rfl
  ·rw [show inR e.m m 9 = false by simpa using hm9]; rfl
theorem xX {H : Heap} {O : Go.Sx.Own} {s : Value} {l : List Int} (h : RSl H O 1 s (bK l)) (m : Int) (e : Eff) : RetO PP cE [.agg #[s, iV m], .agg e.row.toArray] H O (.bool (Cf l m e)) := by
 refine ik (vs := s :: iV m :: e.row) (by kernel_rfl) ⟨h.one, rfl, hN e⟩ ?_
 simp only [eh]
 refine aj fun r0 => aj fun r1 => ?_
 refine ae (ae ?_)
 refine al (mc e.colour 0 3 _ _) rfl ⟨rfl, trivial⟩ fun H1 l1 => ai (fun hb => ?_) (fun hb => ?_)
 ·refine ae (ae ?_)
  refine al (s6 (h.le l1) m { e with colour := 0 }) rfl ⟨rfl, trivial⟩ fun H2 _ => af ⟨?_, rfl⟩
  rw [Cf, hb, Bool.true_and]; rfl
 ·refine af ⟨?_, rfl⟩
  rw [Cf, hb, Bool.false_and]
theorem uT {t : TypeId} {v : Value} : ∀ w, ((PrimOp.eqv .neq 195 true).sem [.iface t v, .nilIface]).run PP w = .ok (.value (.bool true)) w := fun w => by kernel_rfl
theorem zU : ∀ w, ((PrimOp.eqv .neq 195 true).sem [.nilIface, .nilIface]).run PP w = .ok (.value (.bool false)) w := fun w => by kernel_rfl
theorem yL (v : Value) : nA PP "zeitnot/effect.fits" (.iface 228 v) d5 v := ⟨_, _, rfl, fun w => by kernel_rfl⟩
theorem zZ (v : Value) : nA PP "zeitnot/effect.fits" (.iface 231 v) cV v := ⟨_, _, rfl, fun w => by kernel_rfl⟩
theorem zX (v : Value) : nA PP "zeitnot/effect.fits" (.iface 233 v) dk v := ⟨_, _, rfl, fun w => by kernel_rfl⟩
theorem zY (v : Value) : nA PP "zeitnot/effect.fits" (.iface 235 v) cE v := ⟨_, _, rfl, fun w => by kernel_rfl⟩
theorem wS {H : Heap} {R : Rl} {r : Value} (h : B7 H R r) : r.oneCell' = true := by
 cases R with
 | no => rw [show r = .nilIface from h]; rfl
 | bare l => obtain ⟨s, rfl, _⟩ := h; rfl
 | cnt l m => obtain ⟨s, rfl, _⟩ := h; rfl
 | par l m => obtain ⟨s, rfl, _⟩ := h; rfl
 | col l m => obtain ⟨s, rfl, _⟩ := h; rfl
theorem zQ {c : Int} {l : List Int} {m : Int} (h : mQ c = .par l m) : 0 ≤ m := by
 rw [mQ] at h
 repeat' (split at h)
 all_goals first | (injection h with h1 h2; omega) | cases h
theorem wn (e : Eff) (H : Heap) : RetO PP lc [.agg e.row.toArray] H [] (.bool (Cm e)) := by
 refine nJ (vs := e.row) (by kernel_rfl) (hN e) ?_
 simp only [kW]
 refine aj fun r0 => ?_
 refine ae ?_
 refine bn (DX e.code H) ?_
 rintro r H1 _ ⟨hr, rfl⟩ l1
 refine ⟨[r], rfl, ⟨wS hr, trivial⟩, ?_⟩
 have hpp := @zQ e.code
 rw [Cm]
 generalize mQ e.code = R at hr hpp
 cases R with
 | no =>
  rw [show r = .nilIface from hr]
  refine ⟨_, fun _ => zU, rfl, ai (fun hd => by cases hd) (fun _ => ?_)⟩
  exact af ⟨rfl, rfl⟩
 | bare l =>
  obtain ⟨s, rfl, hs⟩ := hr
  refine ⟨_, fun _ => uT, rfl, ai (fun _ => ?_) (fun hd => by cases hd)⟩
  refine ae ?_
  exact mb (yL s) (hD jj (by decide)) (mK (hs.rsl []) e) rfl ⟨rfl, trivial⟩ fun H2 l2 => af ⟨rfl, rfl⟩
 | cnt l m =>
  obtain ⟨s, rfl, hs⟩ := hr
  refine ⟨_, fun _ => uT, rfl, ai (fun _ => ?_) (fun hd => by cases hd)⟩
  refine ae ?_
  exact mb (zZ _) (hD jj (by decide)) (s6 (hs.rsl []) m e) rfl ⟨rfl, trivial⟩ fun H2 l2 => af ⟨rfl, rfl⟩
 | par l m =>
  obtain ⟨s, rfl, hs⟩ := hr
  refine ⟨_, fun _ => uT, rfl, ai (fun _ => ?_) (fun hd => by cases hd)⟩
  refine ae ?_
  exact mb (zX _) (hD jj (by decide)) (xW (hs.rsl []) (hpp rfl) e) rfl ⟨rfl, trivial⟩ fun H2 l2 => af ⟨rfl, rfl⟩
 | col l m =>
  obtain ⟨s, rfl, hs⟩ := hr
  refine ⟨_, fun _ => uT, rfl, ai (fun _ => ?_) (fun hd => by cases hd)⟩
  refine ae ?_
  exact mb (zY _) (hD jj (by decide)) (xX (hs.rsl []) m e) rfl ⟨rfl, trivial⟩ fun H2 l2 => af ⟨rfl, rfl⟩
end Go.Proofs.YtamgiojcbdbokaaGreatDoor
