/- resolve.happen, resolve.Effect. -/
import Derived.Test.YtdhobpmnkfmcfaaGreatDoorM13
import Derived.Test.YtdhobpmnkfmcfaaGreatDoorC51
import Derived.Test.YtdhobpmnkfmcfaaGreatDoorC32
namespace Go.Proofs.YtdhobpmnkfmcfaaGreatDoor
open Go Go.Sx
set_option maxRecDepth 100000
set_option maxHeartbeats 1000000
theorem gR {P : Program} {f : FuncId} {args : List Value} {H : Heap} {O : Own} {tt : Tys} {w : dr} {b : Bd} {R : Value → Heap → Own → Prop} {shp : Shp} {K : List Value → List (List Value) → Heap → Own → Prop}
  (ho : OwnB tt w b O) (h : ∀ Hf, Heap.le H Hf → BdS Hf w b → Triple P f args Hf [] R) (hk : ∀ v H' O1, R v H' O1 → Heap.le H H' → ∃ vs, shp.open v = some vs ∧ Ones vs ∧ K vs [] H' O1) :
  dG (fun H1 O1 R => Triple P f args H1 O1 R) false [] [] shp K H O := by
 intro hc
 obtain ⟨Hf, g, k, lf⟩ := ho.freeze (X := []) (by simpa using hc)
 refine ⟨Hf, [], [], R, (by rw [List.append_nil] at g; exact g : Ghost H O Hf []), h Hf lf k, fun v H' O' hr hle => ?_⟩
 obtain ⟨vs, h1, h2, h3⟩ := hk v H' O' hr (Heap.le_trans lf hle)
 exact ⟨vs, [], O', h1, h2, trivial, rfl, by rw [List.append_nil]; exact h3⟩
theorem y6 {P : Program} {f : FuncId} {args : List Value} {H : Heap} {O : Own} {tt : Tys} {w : dr} {b : Bd} {R : Value → Heap → Own → Prop} {bv : BV} (hbv : Ones bv.vs) {shp : Shp} {K : List Value → List (List Value) → Heap → Own → Prop}
  (ho : OwnB tt w b O) (h : ∀ Hf, Heap.le H Hf → BdS Hf w b → Triple P f args Hf [bv.obj] fun r H' O' => ∃ X, O' = bv.obj :: X ∧ R r H' X) (hk : ∀ v H' O1, R v H' O1 → Heap.le H H' → ∃ vs, shp.open v = some vs ∧ Ones vs ∧ K vs [bv.vs] H' O1) :
  dG (fun H1 O1 R => Triple P f args H1 O1 R) false [] [bv] shp K H O := by
 intro hc
 have hc : Cons H ([bv.obj] ++ O) := hc
 have hcO : Cons H (O ++ []) := by
  obtain ⟨w0, F, hm⟩ := hc
  exact ⟨w0, F, hm.sub (by rw [List.append_nil]; exact (List.sublist_append_right [bv.obj] O).append_right F)⟩
 obtain ⟨Hf, g, k, lf⟩ := ho.freeze (X := []) hcO
 refine ⟨Hf, [], [], _, (by rw [List.append_nil] at g; exact g : Ghost H O Hf []), h Hf lf k, ?_⟩
 rintro v H' O' ⟨X, rfl, hr⟩ hle
 obtain ⟨vs, h1, h2, h3⟩ := hk v H' X hr (Heap.le_trans lf hle)
 exact ⟨vs, [bv.vs], X, h1, h2, ⟨rfl, hbv, trivial⟩, rfl, by rw [List.append_nil]; exact h3⟩
theorem f9 {v : dr} {b : Bd} {O : Own} (ho : OwnB tys v b O) {q : Int} {s : St} (h1 : s.lib = (au b q).lib) (h2 : s.hand = (au b q).hand) (h3 : s.field = (au b q).field) (h4 : s.grave = (au b q).grave) : OwnB tys v (aW b q s) O := by
 obtain ⟨Oo, A0, B0, C0, D0, A1, B1, C1, D1, Os, Oq, Oa, Obk, hp, h⟩ := ho
 refine ⟨Oo, A0, B0, C0, D0, A1, B1, C1, D1, Os, Oq, Oa, Obk, hp, ?_⟩
 by_cases hq : q = 0
 ·rw [au, if_pos hq] at h1 h2 h3 h4
  rw [aW, if_pos hq]
  exact ⟨h.objs, by rw [h1]; exact h.l0, by rw [h2]; exact h.h0, by rw [h3]; exact h.f0, by rw [h4]; exact h.g0, h.l1, h.h1, h.f1, h.g1, h.stack, h.queue, h.att, h.blocks⟩
 ·rw [au, if_neg hq] at h1 h2 h3 h4
  rw [aW, if_neg hq]
  exact ⟨h.objs, h.l0, h.h0, h.f0, h.g0, by rw [h1]; exact h.l1, by rw [h2]; exact h.h1, by rw [h3]; exact h.f1, by rw [h4]; exact h.g1, h.stack, h.queue, h.att, h.blocks⟩
def LS (x : Bd) (r : Value) (_ : Heap) (O' : Own) : Prop := ∃ w, r = .agg (am w x).toArray ∧ OwnB tys w x O'
theorem BQ {H : Heap} {O : Own} {cv : Value} {v : dr} {b : Bd} (ho : OwnB tys v b O) (hv : al b = true) {p src most : Int} {e : Eff} {t : Tg} (hev : uw e = true) {l : List Value} (hl : l = (cv :: (am v b ++ (iV p :: iV src :: (e.row ++ (t.row ++ [iV most])))))) {ra rb rc : Nat} :
  (eW ra rb l rc).den PP (LS (lF b 0 (dd ((au b 0).life - e.n) 9999))) H O := by
 obtain ⟨n0, n99, m0, m99, c0, c3⟩ := ky hev
 simp only [eW]
 subst hl
 refine aa (aa ?_)
 refine ai (E6 (a := (au b 0).life) (b := e.n) (by have := nC hv 0; constructor <;> omega) (by constructor <;> omega) 9999) rfl ⟨rfl, trivial⟩ fun H1 l1 => ?_
 refine aa (aa (aa (aa ?_)))
 exact ah ⟨v, rfl, f9 ho rfl rfl rfl rfl⟩
theorem BP {H : Heap} {O : Own} {cv : Value} {v : dr} {b : Bd} (ho : OwnB tys v b O) (hv : al b = true) {p src most : Int} {e : Eff} {t : Tg} (hev : uw e = true) {l : List Value} (hl : l = (cv :: (am v b ++ (iV p :: iV src :: (e.row ++ (t.row ++ [iV most])))))) {ra rb rc : Nat} :
  (eD ra rb l rc).den PP (LS (lF b 1 (dd ((au b 1).life - e.n) 9999))) H O := by
 obtain ⟨n0, n99, m0, m99, c0, c3⟩ := ky hev
 simp only [eD]
 subst hl
 refine aa (aa ?_)
 refine ai (E6 (a := (au b 1).life) (b := e.n) (by have := nC hv 1; constructor <;> omega) (by constructor <;> omega) 9999) rfl ⟨rfl, trivial⟩ fun H1 l1 => ?_
 refine aa (aa (aa (aa ?_)))
 exact ah ⟨v, rfl, f9 ho rfl rfl rfl rfl⟩
theorem IL {H : Heap} {O : Own} {cv : Value} {v : dr} {b : Bd} (ho : OwnB tys v b O) (hB : bdB b) {p src most : Int} {e : Eff} {t : Tg} (hev : uw e = true) {l : List Value} (hl : l = (cv :: (am v b ++ (iV p :: iV src :: (e.row ++ (t.row ++ [iV most])))))) {ra rb rc m : Nat} {id : Int} (qm : g l m = iV id) (hid : i64 id) (hi : aU b id = 0) :
  (e9 ra l m rb rc).den PP (LS (dA b id fun o => { o with dmg := vt o.dmg e.n })) H O := by
 obtain ⟨n0, n99, m0, m99, c0, c3⟩ := ky hev
 obtain ⟨k, f1, f2, f3, f4, f5⟩ := mC hi
 have q5 : G5 l 41 = e.row := by rw [hl]; rfl
 have q38 : ag (G38 l 1) = .agg (am v b).toArray := by rw [hl]; rfl
 simp only [e9]
 rw [qm, q5, q38]
 generalize hg : (fun o : Ob => { o with dmg := vt o.dmg e.n }) = gg
 have g1 : ∀ o, (gg o).id = o.id ∧ (gg o).card = o.card ∧ (gg o).owner = o.owner := fun o => by rw [← hg]; exact ⟨rfl, rfl, rfl⟩
 have g2 : aP (gg (eR b id)) = true := by rw [← hg]; exact B5 f4 _
 have g3 : ∀ H', RetO PP hJ [.agg (eR b id).row.toArray, .pointer (some ⟨rb, 0, none⟩)] H' [(Jp rb e).obj] (.agg (gg (eR b id)).row.toArray) := fun H' => by
  rw [← hg]; exact OU (AB f4) (by constructor <;> omega) rb
 clear hg
 refine aa ?_
 refine y6 (bv := Jp rb e) (R := fun r _ X => ∃ w, r = .agg (am w (dA b id gg)).toArray ∧ OwnB tys w (dA b id gg) X) (iM e) ho (fun Hf lf hf => E7 hf hB hid (gm iP (by decide)) g3 (by rw [(g1 _).1, f2]; exact hid) (by rw [Et hi ((g1 _).1.trans f2) (g1 _).2.1 (g1 _).2.2 g2])) ?_
 rintro _ H2 O2 ⟨w2, rfl, h2⟩ l2
 refine ⟨am w2 _, rfl, aT H2 h2, ?_⟩
 refine aa (aa ?_)
 exact ah ⟨w2, rfl, h2⟩
theorem IP {H : Heap} {O : Own} {cv : Value} {cs : List CdX} (hk : CardsX H cv cs) {v : dr} {b : Bd} (ho : OwnB tys v b O) (hB : bdB b) {p src most : Int} {e : Eff} {t : Tg} (hev : uw e = true) {l : List Value} (hl : l = (cv :: (am v b ++ (iV p :: iV src :: (e.row ++ (t.row ++ [iV most])))))) {ra rb rc m : Nat} {id : Int} (qm : g l m = iV id) (hid : i64 id) :
  (fe ra l m rc rb).den PP (LS (if onB cs b id = true then dA b id (zf e) else b)) H O := by
 obtain ⟨n0, n99, m0, m99, c0, c3⟩ := ky hev
 have q5 : G5 l 41 = e.row := by rw [hl]; rfl
 have q38 : ag (G38 l 1) = .agg (am v b).toArray := by rw [hl]; rfl
 have q0 : g l 0 = cv := by rw [hl]; rfl
 simp only [fe]
 rw [qm, q5, q38, q0]
 refine aa ?_
 refine ai (QR hk (ho.r (fun p hp => hp) H) hid) rfl ⟨rfl, trivial⟩ fun H1 l1 => ?_
 refine ab _ (aB _) (ak (fun h => ?_) (fun h => ?_))
 ·have h : onB cs b id = false := rG h
  rw [if_neg (by rw [h]; simp)]
  refine aa (aa (aa ?_))
  exact ah ⟨v, rfl, ho⟩
 have h : onB cs b id = true := sO h
 rw [if_pos h]
 have hi : aU b id = 0 := by
  rw [onB, Bool.and_eq_true] at h
  simpa using h.1
 obtain ⟨k, f1, f2, f3, f4, f5⟩ := mC hi
 obtain ⟨a1, a2, a3⟩ := CP e (eR b id)
 refine aa ?_
 refine y6 (bv := Jp rb e) (R := fun r _ X => ∃ w, r = .agg (am w (dA b id (zf e))).toArray ∧ OwnB tys w (dA b id (zf e)) X) (iM e) ho (fun Hf lf hf => E7 hf hB hid (gm iP (by decide)) (fun H' => OT (AB f4) (by constructor <;> omega) (by constructor <;> omega) rb) (by rw [a1, f2]; exact hid) (by rw [Et hi (a1.trans f2) a2 a3 (CO f4)])) ?_
 rintro _ H2 O2 ⟨w2, rfl, h2⟩ l2
 refine ⟨am w2 _, rfl, aT H2 h2, ?_⟩
 refine aa (aa ?_)
 exact ah ⟨w2, rfl, h2⟩
section
variable {H : Heap} {O : Own} {cv : Value} {cs : List CdX} (hgl : GlobOk tC H) (hk : CardsX H cv cs) {v : dr} {b : Bd} (ho : OwnB tys v b O) (hv : al b = true) (hB : bdB b) {p src most : Int} {e : Eff} {t : Tg} (hev : uw e = true) {l : List Value} (hl : l = (cv :: (am v b ++ (iV p :: iV src :: (e.row ++ (t.row ++ [iV most]))))))
 {r1 r0 r3 n m : Nat} {who id : Int}
include hgl hk ho hv hB hev hl
theorem IN (hw : who = 0) (qn : g l n = iV who) (qm : g l m = iV id) (hid : i64 id) (hD : e.code = 1 → id > 0 → aU b id = 0) :
  (bS l n r1 m r0 r3).den PP (LS (aR cs b p who id e most)) H O := by
 obtain ⟨n0, n99, m0, m99, c0, c3⟩ := ky hev
 have nsm : sm e.n := by constructor <;> omega
 have msm : sm e.m := by constructor <;> omega
 have lsm : sm (au b 0).life := by have := nC hv 0; constructor <;> omega
 have q41 : g l 41 = iV e.code := by rw [hl]; rfl
 simp only [bS]
 refine ⟨.i64, who, qn, fun _ => ?_, fun h => absurd hw h⟩
 subst hw
 refine aa ?_
 rw [q41, qm]
 refine ab _ (aA _ _) (ak (fun h => ?_) (fun h => ?_))
 ·have hc : e.code = 1 := by simpa using h
  refine ab _ (eJ _ _) (ak (fun hp => ?_) (fun hp => ?_))
  ·have hp : id > 0 := of_decide_eq_true hp
   have ec : aR cs b p 0 id e most = dA b id fun o => { o with dmg := vt o.dmg e.n } := by rw [aR, if_pos hc, if_pos hp]
   rw [ec]
   exact IL ho hB hev hl qm hid (hD hc hp)
  ·have ec : aR cs b p 0 id e most = lF b 0 (dd ((au b 0).life - e.n) 9999) := by rw [aR, if_pos hc, if_neg (of_decide_eq_false hp)]
   rw [ec]
   exact BQ ho hv hev hl
 have k1 : e.code ≠ 1 := by simpa using h
 refine ab _ (aA _ _) (ak (fun h => ?_) (fun h => ?_))
 ·have hc : e.code = 2 := by simpa using h
  have ec : aR cs b p 0 id e most = (kX b 0 e.n).1 := by rw [aR, if_neg k1, if_pos hc]
  rw [ec]
  simp only [eZ]
  rw [qn]
  subst hl
  refine aa (aa ?_)
  refine gR ho (fun Hf lf hf => LR hf hB 0 e.n (by omega)) ?_
  rintro _ H2 O2 ⟨w2, rfl, h2⟩ l2
  refine ⟨am w2 (kX b 0 e.n).1 ++ [iV (kX b 0 e.n).2], rfl, ar (aT H2 h2) ⟨rfl, trivial⟩, ?_⟩
  refine aa (aa (aa (aa ?_)))
  exact ah ⟨w2, rfl, h2⟩
 have k2 : e.code ≠ 2 := by simpa using h
 refine ab _ (aA _ _) (ak (fun h => ?_) (fun h => ?_))
 ·have hc : e.code = 3 := by simpa using h
  have ec : aR cs b p 0 id e most = lF b 0 (dd ((au b 0).life + e.n) 9999) := by rw [aR, if_neg k1, if_neg k2, if_pos hc]
  rw [ec]
  subst hl
  refine aa (aa ?_)
  refine ai (gh lsm nsm 9999) rfl ⟨rfl, trivial⟩ fun H1 l1 => ?_
  refine aa (aa (aa (aa ?_)))
  exact ah ⟨v, rfl, f9 ho rfl rfl rfl rfl⟩
 have k3 : e.code ≠ 3 := by simpa using h
 refine ab _ (aA _ _) (ak (fun h => ?_) (fun h => ?_))
 ·have hc : e.code = 4 := by simpa using h
  have ec : aR cs b p 0 id e most = lF b 0 (dd ((au b 0).life - e.n) 9999) := by rw [aR, if_neg k1, if_neg k2, if_neg k3, if_pos hc]
  rw [ec]
  exact BQ ho hv hev hl
 have k4 : e.code ≠ 4 := by simpa using h
 refine ab _ (aA _ _) (ak (fun h => ?_) (fun h => ?_))
 ·have hc : e.code = 6 := by simpa using h
  have ec : aR cs b p 0 id e most = (dJ b id 1).1 := by rw [aR, if_neg k1, if_neg k2, if_neg k3, if_neg k4, if_pos hc]
  rw [ec]
  simp only [eY]
  rw [qm]
  subst hl
  refine aa ?_
  refine gR ho (fun Hf lf hf => CB hf hB hid 1) ?_
  rintro _ H2 O2 ⟨w2, rfl, h2⟩ l2
  refine ⟨am w2 (dJ b id 1).1 ++ [iV (dJ b id 1).2], rfl, ar (aT H2 h2) ⟨rfl, trivial⟩, ?_⟩
  refine aa (aa (aa (aa ?_)))
  exact ah ⟨w2, rfl, h2⟩
 have k6 : e.code ≠ 6 := by simpa using h
 refine ab _ (aA _ _) (ak (fun h => ?_) (fun h => ?_))
 ·have hc : e.code = 7 := by simpa using h
  have ec : aR cs b p 0 id e most = (cJ b id).1 := by rw [aR, if_neg k1, if_neg k2, if_neg k3, if_neg k4, if_neg k6, if_pos hc]
  rw [ec]
  simp only [eX]
  rw [qm]
  subst hl
  refine aa ?_
  refine gR ho (fun Hf lf hf => CG hf hB hid) ?_
  rintro _ H2 O2 ⟨w2, rfl, h2⟩ l2
  refine ⟨am w2 (cJ b id).1 ++ [iV (cJ b id).2], rfl, ar (aT H2 h2) ⟨rfl, trivial⟩, ?_⟩
  refine aa (aa (aa (aa ?_)))
  exact ah ⟨w2, rfl, h2⟩
 have k7 : e.code ≠ 7 := by simpa using h
 refine ab _ (aA _ _) (ak (fun h => ?_) (fun h => ?_))
 ·have hc : e.code = 10 := by simpa using h
  have ec : aR cs b p 0 id e most = (sT b p e.n e.m most).1 := by rw [aR, if_neg k1, if_neg k2, if_neg k3, if_neg k4, if_neg k6, if_neg k7, if_pos hc]
  rw [ec]
  simp only [fc]
  subst hl
  refine aa (aa (aa ?_))
  refine gR ho (fun Hf lf hf => Jm (hgl.le lf) hf hB (p := p) (pw := e.n) (tn := e.m) (most := most) (by omega) (by omega)) ?_
  rintro _ H2 O2 ⟨w2, OB, X, hp2, rfl, h2⟩ l2
  refine ⟨am w2 (sT b p e.n e.m most).1 ++ [iV (sT b p e.n e.m most).2.1, iV (sT b p e.n e.m most).2.2], rfl, ar (aT H2 h2) ⟨rfl, rfl, trivial⟩, ?_⟩
  refine aa (aa (aa (aa ?_)))
  exact tj hp2 ⟨w2, rfl, h2⟩
 have k10 : e.code ≠ 10 := by simpa using h
 refine ab _ (aA _ _) (ak (fun h => ?_) (fun h => ?_))
 ·have hc : e.code = 12 := by simpa using h
  have ec : aR cs b p 0 id e most = aW b 0 (gz (au b 0) e.colour e.n) := by rw [aR, if_neg k1, if_neg k2, if_neg k3, if_neg k4, if_neg k6, if_neg k7, if_neg k10, if_pos hc]
  rw [ec]
  subst hl
  refine aa (aa ?_)
  obtain hc | hc | hc | hc : e.colour = 0 ∨ e.colour = 1 ∨ e.colour = 2 ∨ e.colour = 3 := by omega
  ·refine ⟨.i64, e.colour, rfl, fun _ => ?_, fun h => absurd hc h⟩
   refine aa (aa ?_)
   refine ai (gh (iz hv 0).1 nsm 99) rfl ⟨rfl, trivial⟩ fun H1 l1 => ?_
   simp only [aL]
   refine ⟨.i64, e.colour, rfl, fun _ => ?_, fun h => absurd hc h⟩
   refine aa (aa (aa (aa ?_)))
   refine ah ⟨v, ?_, ?_⟩
   ·rw [gz, if_pos hc]; rfl
   ·rw [gz, if_pos hc]; exact f9 ho rfl rfl rfl rfl
  ·refine ⟨.i64, e.colour, rfl, fun h => absurd (hc.symm.trans h) (by omega), fun _ => ⟨.i64, e.colour, rfl, fun _ => ?_, fun h => absurd hc h⟩⟩
   refine aa (aa ?_)
   refine ai (gh (iz hv 0).2.1 nsm 99) rfl ⟨rfl, trivial⟩ fun H1 l1 => ?_
   simp only [aL]
   refine ⟨.i64, e.colour, rfl, fun h => absurd (hc.symm.trans h) (by omega), fun _ => ⟨.i64, e.colour, rfl, fun _ => ?_, fun h => absurd hc h⟩⟩
   refine aa (aa (aa (aa ?_)))
   refine ah ⟨v, ?_, ?_⟩
   ·rw [gz, if_neg (by omega), if_pos hc]; rfl
   ·rw [gz, if_neg (by omega), if_pos hc]; exact f9 ho rfl rfl rfl rfl
  ·refine ⟨.i64, e.colour, rfl, fun h => absurd (hc.symm.trans h) (by omega), fun _ => ⟨.i64, e.colour, rfl, fun h => absurd (hc.symm.trans h) (by omega), fun _ => ⟨.i64, e.colour, rfl, fun _ => ?_, fun h => absurd hc h⟩⟩⟩
   refine aa (aa ?_)
   refine ai (gh (iz hv 0).2.2.1 nsm 99) rfl ⟨rfl, trivial⟩ fun H1 l1 => ?_
   simp only [aL]
   refine ⟨.i64, e.colour, rfl, fun h => absurd (hc.symm.trans h) (by omega), fun _ => ⟨.i64, e.colour, rfl, fun h => absurd (hc.symm.trans h) (by omega), fun _ => ⟨.i64, e.colour, rfl, fun _ => ?_, fun h => absurd hc h⟩⟩⟩
   refine aa (aa (aa (aa ?_)))
   refine ah ⟨v, ?_, ?_⟩
   ·rw [gz, if_neg (by omega), if_neg (by omega), if_pos hc]; rfl
   ·rw [gz, if_neg (by omega), if_neg (by omega), if_pos hc]; exact f9 ho rfl rfl rfl rfl
  ·refine ⟨.i64, e.colour, rfl, fun h => absurd (hc.symm.trans h) (by omega), fun _ => ⟨.i64, e.colour, rfl, fun h => absurd (hc.symm.trans h) (by omega), fun _ => ⟨.i64, e.colour, rfl, fun h => absurd (hc.symm.trans h) (by omega), fun _ => ⟨.i64, e.colour, rfl, fun _ => ?_, fun h => absurd hc h⟩⟩⟩⟩
   refine aa (aa ?_)
   refine ai (gh (iz hv 0).2.2.2 nsm 99) rfl ⟨rfl, trivial⟩ fun H1 l1 => ?_
   simp only [aL]
   refine ⟨.i64, e.colour, rfl, fun h => absurd (hc.symm.trans h) (by omega), fun _ => ⟨.i64, e.colour, rfl, fun h => absurd (hc.symm.trans h) (by omega), fun _ => ⟨.i64, e.colour, rfl, fun h => absurd (hc.symm.trans h) (by omega), fun _ => ⟨.i64, e.colour, rfl, fun _ => ?_, fun h => absurd hc h⟩⟩⟩⟩
   refine aa (aa (aa (aa ?_)))
   refine ah ⟨v, ?_, ?_⟩
   ·rw [gz, if_neg (by omega), if_neg (by omega), if_neg (by omega)]; rfl
   ·rw [gz, if_neg (by omega), if_neg (by omega), if_neg (by omega)]; exact f9 ho rfl rfl rfl rfl
 have k12 : e.code ≠ 12 := by simpa using h
 have ec : aR cs b p 0 id e most = if onB cs b id = true then dA b id (zf e) else b := by rw [aR, if_neg k1, if_neg k2, if_neg k3, if_neg k4, if_neg k6, if_neg k7, if_neg k10, if_neg k12]
 rw [ec]
 exact IP hk ho hB hev hl qm hid
include hgl hk ho hv hB hev hl
theorem IM (hw : who = 1) (qn : g l n = iV who) (qm : g l m = iV id) (hid : i64 id) (hD : e.code = 1 → id > 0 → aU b id = 0) :
  (bS l n r1 m r0 r3).den PP (LS (aR cs b p who id e most)) H O := by
 obtain ⟨n0, n99, m0, m99, c0, c3⟩ := ky hev
 have nsm : sm e.n := by constructor <;> omega
 have msm : sm e.m := by constructor <;> omega
 have lsm : sm (au b 1).life := by have := nC hv 1; constructor <;> omega
 have q41 : g l 41 = iV e.code := by rw [hl]; rfl
 simp only [bS]
 refine ⟨.i64, who, qn, fun h => absurd (hw.symm.trans h) (by omega), fun _ => ⟨.i64, who, qn, fun _ => ?_, fun h => absurd hw h⟩⟩
 subst hw
 refine aa ?_
 rw [q41, qm]
 refine ab _ (aA _ _) (ak (fun h => ?_) (fun h => ?_))
 ·have hc : e.code = 1 := by simpa using h
  refine ab _ (eJ _ _) (ak (fun hp => ?_) (fun hp => ?_))
  ·have hp : id > 0 := of_decide_eq_true hp
   have ec : aR cs b p 1 id e most = dA b id fun o => { o with dmg := vt o.dmg e.n } := by rw [aR, if_pos hc, if_pos hp]
   rw [ec]
   exact IL ho hB hev hl qm hid (hD hc hp)
  ·have ec : aR cs b p 1 id e most = lF b 1 (dd ((au b 1).life - e.n) 9999) := by rw [aR, if_pos hc, if_neg (of_decide_eq_false hp)]
   rw [ec]
   exact BP ho hv hev hl
 have k1 : e.code ≠ 1 := by simpa using h
 refine ab _ (aA _ _) (ak (fun h => ?_) (fun h => ?_))
 ·have hc : e.code = 2 := by simpa using h
  have ec : aR cs b p 1 id e most = (kX b 1 e.n).1 := by rw [aR, if_neg k1, if_pos hc]
  rw [ec]
  simp only [eZ]
  rw [qn]
  subst hl
  refine aa (aa ?_)
  refine gR ho (fun Hf lf hf => LR hf hB 1 e.n (by omega)) ?_
  rintro _ H2 O2 ⟨w2, rfl, h2⟩ l2
  refine ⟨am w2 (kX b 1 e.n).1 ++ [iV (kX b 1 e.n).2], rfl, ar (aT H2 h2) ⟨rfl, trivial⟩, ?_⟩
  refine aa (aa (aa (aa ?_)))
  exact ah ⟨w2, rfl, h2⟩
 have k2 : e.code ≠ 2 := by simpa using h
 refine ab _ (aA _ _) (ak (fun h => ?_) (fun h => ?_))
 ·have hc : e.code = 3 := by simpa using h
  have ec : aR cs b p 1 id e most = lF b 1 (dd ((au b 1).life + e.n) 9999) := by rw [aR, if_neg k1, if_neg k2, if_pos hc]
  rw [ec]
  subst hl
  refine aa (aa ?_)
  refine ai (gh lsm nsm 9999) rfl ⟨rfl, trivial⟩ fun H1 l1 => ?_
  refine aa (aa (aa (aa ?_)))
  exact ah ⟨v, rfl, f9 ho rfl rfl rfl rfl⟩
 have k3 : e.code ≠ 3 := by simpa using h
 refine ab _ (aA _ _) (ak (fun h => ?_) (fun h => ?_))
 ·have hc : e.code = 4 := by simpa using h
  have ec : aR cs b p 1 id e most = lF b 1 (dd ((au b 1).life - e.n) 9999) := by rw [aR, if_neg k1, if_neg k2, if_neg k3, if_pos hc]
  rw [ec]
  exact BP ho hv hev hl
 have k4 : e.code ≠ 4 := by simpa using h
 refine ab _ (aA _ _) (ak (fun h => ?_) (fun h => ?_))
 ·have hc : e.code = 6 := by simpa using h
  have ec : aR cs b p 1 id e most = (dJ b id 1).1 := by rw [aR, if_neg k1, if_neg k2, if_neg k3, if_neg k4, if_pos hc]
  rw [ec]
  simp only [eY]
  rw [qm]
  subst hl
  refine aa ?_
  refine gR ho (fun Hf lf hf => CB hf hB hid 1) ?_
  rintro _ H2 O2 ⟨w2, rfl, h2⟩ l2
  refine ⟨am w2 (dJ b id 1).1 ++ [iV (dJ b id 1).2], rfl, ar (aT H2 h2) ⟨rfl, trivial⟩, ?_⟩
  refine aa (aa (aa (aa ?_)))
  exact ah ⟨w2, rfl, h2⟩
 have k6 : e.code ≠ 6 := by simpa using h
 refine ab _ (aA _ _) (ak (fun h => ?_) (fun h => ?_))
 ·have hc : e.code = 7 := by simpa using h
  have ec : aR cs b p 1 id e most = (cJ b id).1 := by rw [aR, if_neg k1, if_neg k2, if_neg k3, if_neg k4, if_neg k6, if_pos hc]
  rw [ec]
  simp only [eX]
  rw [qm]
  subst hl
  refine aa ?_
  refine gR ho (fun Hf lf hf => CG hf hB hid) ?_
  rintro _ H2 O2 ⟨w2, rfl, h2⟩ l2
  refine ⟨am w2 (cJ b id).1 ++ [iV (cJ b id).2], rfl, ar (aT H2 h2) ⟨rfl, trivial⟩, ?_⟩
  refine aa (aa (aa (aa ?_)))
  exact ah ⟨w2, rfl, h2⟩
 have k7 : e.code ≠ 7 := by simpa using h
 refine ab _ (aA _ _) (ak (fun h => ?_) (fun h => ?_))
 ·have hc : e.code = 10 := by simpa using h
  have ec : aR cs b p 1 id e most = (sT b p e.n e.m most).1 := by rw [aR, if_neg k1, if_neg k2, if_neg k3, if_neg k4, if_neg k6, if_neg k7, if_pos hc]
  rw [ec]
  simp only [fc]
  subst hl
  refine aa (aa (aa ?_))
  refine gR ho (fun Hf lf hf => Jm (hgl.le lf) hf hB (p := p) (pw := e.n) (tn := e.m) (most := most) (by omega) (by omega)) ?_
  rintro _ H2 O2 ⟨w2, OB, X, hp2, rfl, h2⟩ l2
  refine ⟨am w2 (sT b p e.n e.m most).1 ++ [iV (sT b p e.n e.m most).2.1, iV (sT b p e.n e.m most).2.2], rfl, ar (aT H2 h2) ⟨rfl, rfl, trivial⟩, ?_⟩
  refine aa (aa (aa (aa ?_)))
  exact tj hp2 ⟨w2, rfl, h2⟩
 have k10 : e.code ≠ 10 := by simpa using h
 refine ab _ (aA _ _) (ak (fun h => ?_) (fun h => ?_))
 ·have hc : e.code = 12 := by simpa using h
  have ec : aR cs b p 1 id e most = aW b 1 (gz (au b 1) e.colour e.n) := by rw [aR, if_neg k1, if_neg k2, if_neg k3, if_neg k4, if_neg k6, if_neg k7, if_neg k10, if_pos hc]
  rw [ec]
  subst hl
  refine aa (aa ?_)
  obtain hc | hc | hc | hc : e.colour = 0 ∨ e.colour = 1 ∨ e.colour = 2 ∨ e.colour = 3 := by omega
  ·refine ⟨.i64, e.colour, rfl, fun _ => ?_, fun h => absurd hc h⟩
   refine aa (aa ?_)
   refine ai (gh (iz hv 1).1 nsm 99) rfl ⟨rfl, trivial⟩ fun H1 l1 => ?_
   simp only [aL]
   refine ⟨.i64, e.colour, rfl, fun _ => ?_, fun h => absurd hc h⟩
   refine aa (aa (aa (aa ?_)))
   refine ah ⟨v, ?_, ?_⟩
   ·rw [gz, if_pos hc]; rfl
   ·rw [gz, if_pos hc]; exact f9 ho rfl rfl rfl rfl
  ·refine ⟨.i64, e.colour, rfl, fun h => absurd (hc.symm.trans h) (by omega), fun _ => ⟨.i64, e.colour, rfl, fun _ => ?_, fun h => absurd hc h⟩⟩
   refine aa (aa ?_)
   refine ai (gh (iz hv 1).2.1 nsm 99) rfl ⟨rfl, trivial⟩ fun H1 l1 => ?_
   simp only [aL]
   refine ⟨.i64, e.colour, rfl, fun h => absurd (hc.symm.trans h) (by omega), fun _ => ⟨.i64, e.colour, rfl, fun _ => ?_, fun h => absurd hc h⟩⟩
   refine aa (aa (aa (aa ?_)))
   refine ah ⟨v, ?_, ?_⟩
   ·rw [gz, if_neg (by omega), if_pos hc]; rfl
   ·rw [gz, if_neg (by omega), if_pos hc]; exact f9 ho rfl rfl rfl rfl
  ·refine ⟨.i64, e.colour, rfl, fun h => absurd (hc.symm.trans h) (by omega), fun _ => ⟨.i64, e.colour, rfl, fun h => absurd (hc.symm.trans h) (by omega), fun _ => ⟨.i64, e.colour, rfl, fun _ => ?_, fun h => absurd hc h⟩⟩⟩
   refine aa (aa ?_)
   refine ai (gh (iz hv 1).2.2.1 nsm 99) rfl ⟨rfl, trivial⟩ fun H1 l1 => ?_
   simp only [aL]
   refine ⟨.i64, e.colour, rfl, fun h => absurd (hc.symm.trans h) (by omega), fun _ => ⟨.i64, e.colour, rfl, fun h => absurd (hc.symm.trans h) (by omega), fun _ => ⟨.i64, e.colour, rfl, fun _ => ?_, fun h => absurd hc h⟩⟩⟩
   refine aa (aa (aa (aa ?_)))
   refine ah ⟨v, ?_, ?_⟩
   ·rw [gz, if_neg (by omega), if_neg (by omega), if_pos hc]; rfl
   ·rw [gz, if_neg (by omega), if_neg (by omega), if_pos hc]; exact f9 ho rfl rfl rfl rfl
  ·refine ⟨.i64, e.colour, rfl, fun h => absurd (hc.symm.trans h) (by omega), fun _ => ⟨.i64, e.colour, rfl, fun h => absurd (hc.symm.trans h) (by omega), fun _ => ⟨.i64, e.colour, rfl, fun h => absurd (hc.symm.trans h) (by omega), fun _ => ⟨.i64, e.colour, rfl, fun _ => ?_, fun h => absurd hc h⟩⟩⟩⟩
   refine aa (aa ?_)
   refine ai (gh (iz hv 1).2.2.2 nsm 99) rfl ⟨rfl, trivial⟩ fun H1 l1 => ?_
   simp only [aL]
   refine ⟨.i64, e.colour, rfl, fun h => absurd (hc.symm.trans h) (by omega), fun _ => ⟨.i64, e.colour, rfl, fun h => absurd (hc.symm.trans h) (by omega), fun _ => ⟨.i64, e.colour, rfl, fun h => absurd (hc.symm.trans h) (by omega), fun _ => ⟨.i64, e.colour, rfl, fun _ => ?_, fun h => absurd hc h⟩⟩⟩⟩
   refine aa (aa (aa (aa ?_)))
   refine ah ⟨v, ?_, ?_⟩
   ·rw [gz, if_neg (by omega), if_neg (by omega), if_neg (by omega)]; rfl
   ·rw [gz, if_neg (by omega), if_neg (by omega), if_neg (by omega)]; exact f9 ho rfl rfl rfl rfl
 have k12 : e.code ≠ 12 := by simpa using h
 have ec : aR cs b p 1 id e most = if onB cs b id = true then dA b id (zf e) else b := by rw [aR, if_neg k1, if_neg k2, if_neg k3, if_neg k4, if_neg k6, if_neg k7, if_neg k10, if_neg k12]
 rw [ec]
 exact IP hk ho hB hev hl qm hid
end
theorem J6 {b : Bd} (hv : al b = true) {k : Nat} {o : Ob} (hk : b.objs[k]? = some o) : aU b o.id = 0 ∧ eR b o.id = o ∧ oh b o.id = (k : Nat) := by
 have e3 := (dN (aJ hv).1 hk).2.2.1
 have hE0 : aU b o.id = 0 := by
  have : ¬ oh b o.id < 0 := by omega
  simp [aU, hv, this]
 exact ⟨hE0, mD (by rw [hE0]; rfl) hk e3, e3⟩
theorem EK {cs : List CdX} {b : Bd} (hv : al b = true) {q x : Int} (hq : q = 0 ∨ q = 1) (h : x ∈ vy (cs.map CdX.base) b q) : onB cs b x = true := by
 obtain ⟨o, ho, rfl, ho2, hc, hf⟩ := (Ih hv hq).1 h
 obtain ⟨k, hk⟩ := List.mem_iff_getElem?.1 ho
 obtain ⟨h1, h2, _⟩ := J6 hv hk
 rw [onB, h1, h2, ho2]
 have hc : rO (Pz cs) o = true := hc
 rw [hc]
 simpa using hf
theorem Jq {cs : List CdX} {b : Bd} (hv : al b = true) {q x : Int} (hq : q = 0 ∨ q = 1) (h : x ∈ yy (cs.map CdX.base) b q) : onB cs b x = true := by
 rcases Lc.1 h with h | h
 ·exact EK hv hq h
 ·exact EK hv (by omega) h
theorem HQ {cs : List CdX} {b : Bd} {x : Int} (h : onB cs b x = true) : 1 ≤ x ∧ x ≤ 500 ∧ aU b x = 0 := by
 have hi : aU b x = 0 := by
  rw [onB, Bool.and_eq_true] at h
  simpa using h.1
 obtain ⟨k, f1, f2, f3, f4, f5⟩ := mC hi
 have := rh f4
 rw [f2] at this
 exact ⟨this.1, this.2, hi⟩
theorem yS {cs : List CdX} {b : Bd} {p k : Int} {t : Tg} (h : wT (cs.map CdX.base) b p k t = true) : (p = 0 ∨ p = 1) ∧ al b = true ∧ (t.player = 0 ∨ t.player = 1) ∧
  ((k ≠ 6 ∧ t.player = 0 ∧ onB cs b t.id = true ∧ k ≠ 4) ∨ (t.id = 0 ∧ (k = 4 ∨ k = 5)) ∨ (k = 6 ∧ t.player = 0 ∧ ∃ x ∈ b.stack, x.id = t.id ∧ x.trig < 0)) := by
 obtain ⟨y, hy, he⟩ := List.any_eq_true.1 h
 have hty : t = y := by simpa using he
 subst hty
 rw [Ee] at hy
 split at hy
 case isFalse => cases hy
 rename_i hc
 rw [Bool.and_eq_true] at hc
 obtain ⟨hw, hv⟩ := hc
 have hp : p = 0 ∨ p = 1 := by simp only [ap, decide_eq_true_eq] at hw; omega
 refine ⟨hp, hv, ?_⟩
 have htg : ∀ {l : List Int}, t ∈ tgs l → t.player = 0 ∧ t.id ∈ l := fun hm => by
  obtain ⟨x, hx, rfl⟩ := List.mem_map.1 hm
  exact ⟨rfl, hx⟩
 have hpl : t ∈ plT p → t.id = 0 ∧ (t.player = 0 ∨ t.player = 1) := fun hm => by
  simp only [plT, List.mem_cons, List.not_mem_nil, or_false] at hm
  rcases hm with rfl | rfl
  ·exact ⟨rfl, by show 1 - p = 0 ∨ 1 - p = 1; omega⟩
  ·exact ⟨rfl, hp⟩
 rw [Im] at hy
 split at hy
 ·obtain ⟨a, c⟩ := htg hy
  exact ⟨.inl a, .inl ⟨by omega, a, Jq hv hp c, by omega⟩⟩
 split at hy
 ·obtain ⟨a, c⟩ := htg hy
  exact ⟨.inl a, .inl ⟨by omega, a, EK hv (by omega) c, by omega⟩⟩
 split at hy
 ·obtain ⟨a, c⟩ := htg hy
  exact ⟨.inl a, .inl ⟨by omega, a, EK hv hp c, by omega⟩⟩
 split at hy
 ·obtain ⟨a, c⟩ := hpl hy
  exact ⟨c, .inr (.inl ⟨a, .inl (by assumption)⟩)⟩
 split at hy
 ·rcases List.mem_append.1 hy with hy | hy
  ·obtain ⟨a, c⟩ := hpl hy
   exact ⟨c, .inr (.inl ⟨a, .inr (by assumption)⟩)⟩
  ·obtain ⟨a, c⟩ := htg hy
   exact ⟨.inl a, .inl ⟨by omega, a, Jq hv hp c, by omega⟩⟩
 split at hy
 ·obtain ⟨a, c⟩ := htg hy
  obtain ⟨x, hx, hxe⟩ := List.mem_map.1 c
  obtain ⟨hx1, hx2⟩ := List.mem_filter.1 hx
  refine ⟨.inl a, .inr (.inr ⟨by assumption, a, x, List.mem_reverse.1 hx1, hxe, ?_⟩)⟩
  simp only [lj, Bool.and_eq_true, decide_eq_true_eq] at hx2
  omega
 ·cases hy
theorem xk {e : Eff} (h : uw e = true) : (e.code = 1 → e.target = 1 ∨ e.target = 2 ∨ e.target = 3 ∨ e.target = 4 ∨ e.target = 5) ∧ (e.code = 2 ∨ e.code = 3 ∨ e.code = 4 → e.target = 0 ∨ e.target = 4) ∧
  (e.code = 5 ∨ e.code = 6 ∨ e.code = 11 → e.target = 1 ∨ e.target = 2 ∨ e.target = 3) ∧ (e.code = 7 → e.target = 6) ∧ (e.code = 8 ∨ e.code = 9 → e.target = 0 ∨ e.target = 1 ∨ e.target = 2 ∨ e.target = 3) ∧ (e.code = 10 ∨ e.code = 12 → e.target = 0) ∧ 1 ≤ e.code ∧ e.code ≤ 12 := by
 have hB : ∀ {l : List Int} {e : Eff}, LH l e = true → e.target ∈ l := fun h => by
  simp only [LH, Bool.and_eq_true] at h
  simpa using h.1.1.1
 have hC : ∀ {l : List Int} {k : Int} {e : Eff}, KH l k e = true → e.target ∈ l := fun h => by
  simp only [KH, Bool.and_eq_true] at h
  have := hB h.2
  exact this
 have hP : ∀ {l : List Int} {k : Int} {e : Eff}, KG l k e = true → e.target ∈ l := fun h => by
  simp only [KG, Bool.and_eq_true] at h
  have := hB h.2
  exact this
 have hM : ∀ {l : List Int} {k : Int} {e : Eff}, LG l k e = true → e.target ∈ l := fun h => by
  simp only [LG, Bool.and_eq_true] at h
  have := hC h.2
  exact this
 rw [uw, pU] at h
 repeat' (split at h)
 all_goals first
  | (have hm := hC h; simp only [List.mem_cons, List.not_mem_nil, or_false] at hm; omega)
  | (have hm := hB h; simp only [List.mem_cons, List.not_mem_nil, or_false] at hm; omega)
  | (have hm := hP h; simp only [List.mem_cons, List.not_mem_nil, or_false] at hm; omega)
  | (have hm := hM h; simp only [List.mem_cons, List.not_mem_nil, or_false] at hm; omega)
  | cases h
theorem Lt {cs : List CdX} {b : Bd} {p : Int} {e : Eff} {t : Tg} (h : ¬ NX cs b p e t) (ht : e.target ≠ 0) : wT (cs.map CdX.base) b p e.target t = true := by
 cases hl : wT (cs.map CdX.base) b p e.target t
 ·exact absurd ⟨ht, hl⟩ h
 ·rfl
theorem BR {cs : List CdX} {b : Bd} {p src : Int} {e : Eff} {t : Tg} (hp : p = 0 ∨ p = 1) (hs : i64 src) (hev : uw e = true) (h : ¬ NX cs b p e t) :
  (GT p e t = 0 ∨ GT p e t = 1) ∧ i64 (idE src e t) ∧ (e.code = 1 → idE src e t > 0 → aU b (idE src e t) = 0) := by
 by_cases h0 : e.target = 0
 ·rw [GT, idE, if_pos h0, if_pos h0]
  refine ⟨hp, hs, fun hc => ?_⟩
  have := (xk hev).1 hc
  omega
 ·rw [GT, idE, if_neg h0, if_neg h0]
  obtain ⟨_, hv, h1, h2⟩ := yS (Lt h h0)
  refine ⟨h1, ?_, fun hc hpos => ?_⟩
  ·rcases h2 with ⟨_, _, h2, _⟩ | ⟨h2, _⟩ | ⟨_, _, x, hx, hxe, _⟩
   ·have := HQ h2; constructor <;> omega
   ·constructor <;> omega
   ·have hxf := jD hv hx
    simp only [jr, ap, Bool.and_eq_true, decide_eq_true_eq] at hxf
    constructor <;> omega
  ·have := (xk hev).1 hc
   rcases h2 with ⟨_, _, h2, _⟩ | ⟨h2, _⟩ | ⟨_, _, x, hx, hxe, _⟩
   ·exact (HQ h2).2.2
   ·omega
   ·omega
theorem Ah {H : Heap} {O : Own} {cv : Value} {cs : List CdX} (hgl : GlobOk tC H) (hk : CardsX H cv cs) (hli : fu (cs.map CdX.base) = true) {v : dr} {b : Bd} (ho : OwnB tys v b O) (hv : al b = true) (hB : bdB b) {p src most : Int} (hp : p = 0 ∨ p = 1) (hs : i64 src) {e : Eff} {t : Tg} (hev : uw e = true) :
  Triple PP mY [cv, .agg (am v b).toArray, iV p, iV src, .agg e.row.toArray, .agg t.row.toArray, iV most] H O (LS (tB cs b p src e t most)) := by
 refine rn (vs := cv :: (am v b ++ (iV p :: iV src :: (e.row ++ (t.row ++ [iV most]))))) (by kernel_rfl) ⟨hk.one, ar (aT H ho) ⟨rfl, rfl, ar (iM e) (ar (sU t) ⟨rfl, trivial⟩)⟩⟩ ?_
 simp only [mR]
 refine ae fun r0 => ae fun r1 => ae fun r2 => ae fun r3 => ?_
 have h200 := vw hv
 have core : ∀ {n m r1 r0 r3 : Nat} {H' : Heap}, Heap.le H H' → ¬ NX cs b p e t → g (cv :: (am v b ++ (iV p :: iV src :: (e.row ++ (t.row ++ [iV most]))))) n = iV (GT p e t) → g (cv :: (am v b ++ (iV p :: iV src :: (e.row ++ (t.row ++ [iV most]))))) m = iV (idE src e t) →
   (bS (cv :: (am v b ++ (iV p :: iV src :: (e.row ++ (t.row ++ [iV most]))))) n r1 m r0 r3).den PP (LS (tB cs b p src e t most)) H' O := by
  intro n m r1 r0 r3 H' hle hb qn qm
  obtain ⟨f1, f2, f3⟩ := BR hp hs hev hb
  rw [tB, if_neg hb]
  rcases f1 with f1 | f1
  ·exact IN (hgl.le hle) (hk.le hle) ho hv hB hev rfl f1 qn qm f2 f3
  ·exact IM (hgl.le hle) (hk.le hle) ho hv hB hev rfl f1 qn qm f2 f3
 refine aa ?_
 refine ab _ (aV _ _) (ak (fun h0 => ?_) (fun h0 => ?_))
 ·have h0 : e.target ≠ 0 := by simpa using h0
  refine aa (aa (aa ?_))
  refine ai (OwnB.thaw ho fun Hf lf hf => NT (hk.le lf).base hli hf (by omega) p e.target t) rfl ⟨rfl, trivial⟩ fun H1 l1 => ?_
  refine ab _ (aB _) (ak (fun hg => ?_) (fun hg => ?_))
  ·have hg : wT (cs.map CdX.base) b p e.target t = false := rG hg
   rw [tB, if_pos ⟨h0, hg⟩]
   refine aa (aa (aa ?_))
   exact ah ⟨v, rfl, ho⟩
  have hg : wT (cs.map CdX.base) b p e.target t = true := sO hg
  refine aa (aa ?_)
  exact core l1 (fun hb => by rw [hb.2] at hg; cases hg) (by rw [GT, if_neg h0]; rfl) (by rw [idE, if_neg h0]; rfl)
 ·have h0 : e.target = 0 := by simpa using h0
  exact core (Heap.le_refl _) (fun hb => hb.1 h0) (by rw [GT, if_pos h0]; rfl) (by rw [idE, if_pos h0]; rfl)
def bH (cs : List CdX) (b : Bd) (p src : Int) (e : Eff) (t : Tg) (most : Int) : Bd × Int := if (ap p 0 1 && (uw e && al b)) = true then (tB cs b p src e t most, 0) else (zBd, 2)
theorem E8 {H : Heap} {cv : Value} {cs : List CdX} (hgl : GlobOk tC H) (hk : CardsX H cv cs) (hli : fu (cs.map CdX.base) = true) {v : dr} {b : Bd} (h : BdS H v b) (hB : bdB b) (p : Int) {src : Int} (most : Int) (hs : i64 src) (e : Eff) (t : Tg) :
  Triple PP na [cv, .agg (am v b).toArray, iV p, iV src, .agg e.row.toArray, .agg t.row.toArray, iV most] H [] fun r _ O' => ∃ w, r = .tuple #[.agg (am w (bH cs b p src e t most).1).toArray, iV (bH cs b p src e t most).2] ∧ OwnB tys w (bH cs b p src e t most).1 O' := by
 refine rq (vs := cv :: (am v b ++ (iV p :: iV src :: (e.row ++ (t.row ++ [iV most]))))) (by kernel_rfl) ⟨hk.one, ar (an (h.r [])) ⟨rfl, rfl, ar (iM e) (ar (sU t) ⟨rfl, trivial⟩)⟩⟩ ?_
 simp only [mT]
 refine ae fun r0 => ae fun r1 => ae fun r2 => ae fun r3 => ?_
 refine ab _ (aN _ _) ?_
 refine af ?_
 refine ab _ (eJ _ _) ?_
 refine af ?_
 refine ab _ (aM _ _) (ak (fun hc => ?_) (fun hc => ?_))
 ·have hc : (decide (p < 0) || decide (p > 1)) = true := hc
  rw [vv] at hc
  have e1 : bH cs b p src e t most = (zBd, 2) := by rw [bH, if_neg (by rw [rG hc]; simp)]
  rw [e1]
  refine aa (aa ?_)
  exact ah ⟨sP, rfl, OwnB.zero tys⟩
 have hc : (decide (p < 0) || decide (p > 1)) = false := hc
 rw [vv] at hc
 have hw := sO hc
 have hp : p = 0 ∨ p = 1 := by simp only [ap, decide_eq_true_eq] at hw; omega
 refine aa ?_
 refine ai (pn e H) rfl ⟨rfl, trivial⟩ fun H1 l1 => ?_
 refine ab _ (aB _) (ak (fun hc => ?_) (fun hc => ?_))
 ·have e1 : bH cs b p src e t most = (zBd, 2) := by rw [bH, if_neg (by rw [rG hc]; simp)]
  rw [e1]
  refine aa (aa ?_)
  exact ah ⟨sP, rfl, OwnB.zero tys⟩
 have hev := sO hc
 have h := h.le l1
 refine aa ?_
 refine ai (cz (h.r [])) rfl ⟨rfl, trivial⟩ fun H2 l2 => ?_
 refine ab _ (aB _) (ak (fun hc => ?_) (fun hc => ?_))
 ·have e1 : bH cs b p src e t most = (zBd, 2) := by rw [bH, if_neg (by rw [rG hc]; simp)]
  rw [e1]
  refine aa (aa ?_)
  exact ah ⟨sP, rfl, OwnB.zero tys⟩
 have hv := sO hc
 have h := h.le l2
 have e1 : bH cs b p src e t most = (tB cs b p src e t most, 0) := by rw [bH, if_pos (by rw [hw, hev, hv]; rfl)]
 rw [e1]
 refine aa (aa (aa ?_))
 refine ao (CH h hB) ?_
 rintro _ H3 O3 ⟨w, rfl, ho⟩ l3
 refine ⟨am w b, rfl, aT H3 ho, ?_⟩
 have l13 := Heap.le_trans l1 (Heap.le_trans l2 l3)
 refine lO (O1 := O3) (O2 := []) (List.Perm.refl _) (Ah (hgl.le l13) (hk.le l13) hli ho hv hB hp hs hev) ?_
 rintro _ H4 O4 ⟨w4, rfl, h4⟩ l4
 refine ⟨am w4 _, rfl, aT H4 h4, ?_⟩
 rw [List.append_nil]
 refine aa (aa ?_)
 exact ah ⟨w4, rfl, h4⟩
def Q0 (x : Bd) (r : Value) (H' : Heap) (O' : Own) : Prop := (∃ w, r = .agg (am w x).toArray ∧ BdS H' w x) ∧ O' = []
section
variable {cv : Value} {cs : List CdX} {v : dr} {b : Bd} (hv : al b = true) (hB : bdB b) {p src most : Int} {e : Eff} {t : Tg} (hev : uw e = true) (hnb : ¬ NX cs b p e t) (hsum : ∀ q, (au b q).lib.length + (au b q).hand.length ≤ 1000000)
 {n r1 r2 r0 r3 : Nat} {who : Int}
include hv hB hev hnb hsum
include hv hB hev hnb hsum
end
def Qn (x : Bd) (r : Value) (H' : Heap) (O' : Own) : Prop := (∃ w, r = .tuple #[.agg (am w x).toArray, .bool true] ∧ BdS H' w x) ∧ O' = []
def csP : List CdX := [⟨2, [], []⟩]
def ex0 : Bd := Kr 20 [0, 0] [0]
def ex1 : Bd := (dJ ex0 1 2).1
def ex2 : Bd := (dJ ex1 2 1).1
def exB : Bd := (dJ ex2 3 2).1
theorem Ir (H : Heap) : Triple PP kj [] H [] fun r H' O' => CardsX H' r csP ∧ O' = [] := by
 refine nI (vs := []) (by kernel_rfl) trivial ?_
 simp only [kb]
 refine ae fun r0 => ?_
 refine MH fun H' l hf => ⟨?_, rfl⟩
 refine ⟨_, Sl.block1 (hf _ List.mem_cons_self) rfl ⟨rfl, rfl, rfl, rfl, rfl, rfl, rfl, rfl, rfl, rfl, rfl, rfl, rfl, rfl, trivial⟩, rfl, fun i r c a b => ?_⟩
 cases i with
 | succ i => simp [csP] at b
 | zero =>
  simp only [csP, List.getElem?_cons_zero, Option.some.injEq] at a b
  subst a; subst b
  exact ⟨rfl, Sl.nil _ _, [], Sl.nil _ _, rfl, fun i r l a => by simp at a⟩
theorem lG (H : Heap) : Triple PP ij [] H [] (Q0 exB) := by
 refine ln (vs := []) (by kernel_rfl) trivial ?_
 simp only [ic]
 refine ae fun r0 => ae fun r1 => ae fun r2 => ?_
 refine Ae (B := []) zR fun Hf lf hf _ => ⟨_, Oz 20 (a := [0, 0]) (c := [0]) (Sl.block (cs := [iV 0, iV 0]) (hf _ List.mem_cons_self) ⟨rfl, rfl, trivial⟩ rfl (by omega)) (Sl.block (cs := [iV 0]) (hf _ (List.mem_cons_of_mem _ List.mem_cons_self)) ⟨rfl, trivial⟩ rfl (by omega)) (by simp) (by simp), ?_⟩
 rintro _ H2 _ ⟨rfl, w, rfl, hb⟩ l2
 have enew : Kq 20 [0, 0] [0] = (ex0, 0) := by kernel_rfl
 rw [enew] at hb ⊢
 have hb : BdS H2 w ex0 := hb
 refine ⟨am w ex0 ++ [iV 0], rfl, ar (an (hb.r [])) ⟨rfl, trivial⟩, ?_⟩
 refine ae fun r3 => ?_
 refine aa (aa ?_)
 refine ao (wn (o := ⟨1, 0, 0, 0, 0, 0, 0, 0, 0, false, false, false⟩) (k := 0) hb (by kernel_rfl) (vO (by kernel_rfl)) (by kernel_rfl) 2 (by omega)) ?_
 rintro _ H3 _ ⟨⟨w3, rfl, hb3⟩, rfl⟩ l3
 have hb3 : BdS H3 w3 ex1 := hb3
 refine ⟨am w3 ex1, rfl, an (hb3.r []), ?_⟩
 refine ao (wn (o := ⟨2, 0, 0, 0, 0, 0, 0, 0, 0, false, false, false⟩) (k := 1) hb3 (by kernel_rfl) (vO (by kernel_rfl)) (by kernel_rfl) 1 (by omega)) ?_
 rintro _ H4 _ ⟨⟨w4, rfl, hb4⟩, rfl⟩ l4
 have hb4 : BdS H4 w4 ex2 := hb4
 refine ⟨am w4 ex2, rfl, an (hb4.r []), ?_⟩
 refine ao (wn (o := ⟨3, 0, 1, 0, 0, 0, 0, 0, 0, false, false, false⟩) (k := 2) hb4 (by kernel_rfl) (vO (by kernel_rfl)) (by kernel_rfl) 2 (by omega)) ?_
 rintro _ H5 _ ⟨⟨w5, rfl, hb5⟩, rfl⟩ l5
 have hb5 : BdS H5 w5 exB := hb5
 refine ⟨am w5 exB, rfl, an (hb5.r []), ?_⟩
 refine aa (aa ?_)
 exact ah ⟨⟨w5, rfl, hb5⟩, rfl⟩
theorem NC : bdB exB := vO (by kernel_rfl)
theorem mq {H : Heap} (hgl : GlobOk tC H) (p : Int) {src : Int} (e : Eff) (t : Tg) (most : Int) (hs : i64 src) {x : Bd} (hx : bH csP exB p src e t most = (x, 0)) (h3 : decide ((x.objs.length : Int) ≥ 3) = true) :
  Triple PP jj [iV p, iV src, .agg e.row.toArray, .agg t.row.toArray, iV most] H [] (Qn x) := by
 refine nn (vs := iV p :: iV src :: (e.row ++ (t.row ++ [iV most]))) (by kernel_rfl) ⟨rfl, rfl, ar (iM e) (ar (sU t) ⟨rfl, trivial⟩)⟩ ?_
 simp only [iZ]
 refine ae fun r0 => ae fun r1 => ae fun r2 => ?_
 refine aa (aa ?_)
 refine ao (Ir H) ?_
 rintro cv H1 _ ⟨hk, rfl⟩ l1
 refine ⟨[cv], rfl, ⟨hk.one, trivial⟩, ?_⟩
 refine ao (lG H1) ?_
 rintro _ H2 _ ⟨⟨w2, rfl, h2⟩, rfl⟩ l2
 refine ⟨am w2 exB, rfl, an (h2.r []), ?_⟩
 refine ao (Triple.frozen2 (E8 (hgl.le (Heap.le_trans l1 l2)) (hk.le l2) (by kernel_rfl) h2 NC p most hs e t)) ?_
 rw [hx]
 rintro _ H3 _ ⟨⟨w3, rfl, h3'⟩, rfl⟩ l3
 have h3' : BdS H3 w3 x := h3'
 refine ⟨am w3 x ++ [iV 0], rfl, ar (an (h3'.r [])) ⟨rfl, trivial⟩, ae fun r3 => ?_⟩
 have olen : aj .len [w3.o] = some (iV x.objs.length) := by have := h3'.objs.len; rwa [List.length_map] at this
 refine aa (aa ?_)
 refine ab _ (aA _ _) ?_
 refine aa (af (af ?_))
 refine ab _ olen ?_
 refine af ?_
 refine ab _ (eK _ _) ?_
 rw [h3]
 refine af ?_
 refine ab _ (bA _ _) ?_
 refine aa (aa ?_)
 exact ah ⟨⟨w3, rfl, h3'⟩, rfl⟩
theorem JI {H : Heap} {cv : Value} {cs : List CdX} (hk : CardsX H cv cs) (hli : fu (cs.map CdX.base) = true) {v : dr} {b : Bd} (h : BdS H v b) (hv : al b = true) (hB : bdB b) (hst : b.stack = []) (most : Int) :
  Triple PP jy [cv, .agg (am v b).toArray, iV most] H [] fun r _ O' => r = .tuple #[.agg (am sP zBd).toArray, .agg #[iV 0, iV 0, iV 0, iV 0, .slice none 0 0], iV 9] ∧ O' = [] := by
 refine nJ (vs := cv :: (am v b ++ [iV most])) (by kernel_rfl) ⟨hk.one, ar (an (h.r [])) ⟨rfl, trivial⟩⟩ ?_
 simp only [mJ]
 refine ae fun r0 => ae fun r1 => ae fun r2 => ?_
 refine aa ?_
 refine ai (LP hk hli h hv) rfl ⟨rfl, trivial⟩ fun H1 l1 => ?_
 rw [ww hst]
 have h := h.le l1
 refine ab _ (aV _ _) (ak (fun hd => by cases hd) (fun _ => ?_))
 refine aa ?_
 have e1 : nU b = (zBd, 9) := by rw [nU, if_neg (by rw [hv]; simp), if_pos hst]
 refine ao (Pe h hB) ?_
 rw [e1]
 rintro _ H2 O2 ⟨w, s, A, T, rfl, hp, ho, hs⟩ l2
 refine ⟨am w zBd ++ ([iV (zG b).player, iV (zG b).id, iV (zG b).card, iV (zG b).trig, s] ++ [iV 9]), rfl, ar (aT H2 ho) ⟨rfl, rfl, rfl, rfl, hs.one, rfl, trivial⟩, ae fun r3 => ?_⟩
 refine aa (aa ?_)
 refine ab _ (aV _ _) (ak (fun _ => ?_) (fun hd => by cases hd))
 refine aa (aa (aa (aa ?_)))
 exact mh ⟨rfl, rfl⟩
def xA : Bd := (bH csP exB 0 1 ⟨1, 1, 3, 0, 0⟩ ⟨3, 0⟩ 9).1
def xB : Bd := (bH csP exB 0 1 ⟨1, 4, 20, 0, 0⟩ ⟨0, 1⟩ 9).1
def xC : Bd := (bH csP exB 1 3 ⟨3, 0, 5, 0, 0⟩ ⟨0, 0⟩ 9).1
def xD : Bd := (bH csP exB 0 1 ⟨6, 3, 0, 0, 0⟩ ⟨1, 0⟩ 9).1
def xE : Bd := (bH csP exB 0 1 ⟨9, 0, 2, 0, 0⟩ ⟨0, 0⟩ 9).1
def xF : Bd := (bH csP exB 0 2 ⟨9, 0, 2, 0, 0⟩ ⟨0, 0⟩ 9).1
def xG : Bd := (bH csP exB 1 3 ⟨2, 0, 1, 0, 0⟩ ⟨0, 0⟩ 9).1
def xH : Bd := (bH csP exB 0 1 ⟨10, 0, 1, 1, 0⟩ ⟨0, 0⟩ 3).1
def xI : Bd := (bH csP exB 0 1 ⟨10, 0, 1, 1, 0⟩ ⟨0, 0⟩ 4).1
theorem QJ : bH csP exB 0 1 ⟨1, 1, 3, 0, 0⟩ ⟨3, 0⟩ 9 = (xA, 0) := Prod.ext rfl (by kernel_rfl)
theorem QI : bH csP exB 0 1 ⟨1, 4, 20, 0, 0⟩ ⟨0, 1⟩ 9 = (xB, 0) := Prod.ext rfl (by kernel_rfl)
theorem QH : bH csP exB 1 3 ⟨3, 0, 5, 0, 0⟩ ⟨0, 0⟩ 9 = (xC, 0) := Prod.ext rfl (by kernel_rfl)
theorem QG : bH csP exB 0 1 ⟨6, 3, 0, 0, 0⟩ ⟨1, 0⟩ 9 = (xD, 0) := Prod.ext rfl (by kernel_rfl)
theorem QF : bH csP exB 0 1 ⟨9, 0, 2, 0, 0⟩ ⟨0, 0⟩ 9 = (xE, 0) := Prod.ext rfl (by kernel_rfl)
theorem QE : bH csP exB 0 2 ⟨9, 0, 2, 0, 0⟩ ⟨0, 0⟩ 9 = (xF, 0) := Prod.ext rfl (by kernel_rfl)
theorem QD : bH csP exB 1 3 ⟨2, 0, 1, 0, 0⟩ ⟨0, 0⟩ 9 = (xG, 0) := Prod.ext rfl (by kernel_rfl)
theorem QC : bH csP exB 0 1 ⟨10, 0, 1, 1, 0⟩ ⟨0, 0⟩ 3 = (xH, 0) := Prod.ext rfl (by kernel_rfl)
theorem QB : bH csP exB 0 1 ⟨10, 0, 1, 1, 0⟩ ⟨0, 0⟩ 4 = (xI, 0) := Prod.ext rfl (by kernel_rfl)
theorem PK : bH csP exB 2 1 ⟨2, 0, 1, 0, 0⟩ ⟨0, 0⟩ 9 = (zBd, 2) := by kernel_rfl
theorem Bn {H : Heap} {w : dr} {b : Bd} (h : BdS H w b) {k : Nat} {o : Ob} (hk : b.objs[k]? = some o) : ∃ a, aj (.idx 12) [w.o, iV k] = some (.pointer (some a)) ∧ ∀ off m, off + m ≤ 12 → Reads H [] (bz (.pointer (some a)) off) m ((o.row.drop off).take m) := by
 obtain ⟨a, k1, _, k3, _⟩ := (h.objs.rsl ([] : Own)).idx .i64 k (Ob.row o) (by rw [List.getElem?_map, hk]; rfl)
 exact ⟨a, k1, k3⟩
theorem Nv {H : Heap} (hgl : GlobOk tC H) : Triple PP fV [] H [] fun r _ O' => r = .bool true ∧ O' = [] := by
 refine nm (vs := []) (by kernel_rfl) trivial ?_
 simp only [iY]
 refine ae fun r0 => ?_
 refine aa ?_
 refine ao (mq hgl 0 (src := 1) ⟨1, 1, 3, 0, 0⟩ ⟨3, 0⟩ 9 (by constructor <;> omega) QJ (by kernel_rfl)) ?_
 rintro _ H1 _ ⟨⟨wA, rfl, hxA⟩, rfl⟩ l1
 have hxA : BdS H1 wA xA := hxA
 have hgl := hgl.le l1
 refine ⟨am wA xA ++ [.bool true], rfl, ar (an (hxA.r [])) ⟨rfl, trivial⟩, ?_⟩
 refine ae fun r1 => ?_
 refine aa ?_
 refine ab _ (aB _) ?_
 obtain ⟨a, i1, i2⟩ := Bn hxA (k := 2) (o := (xA.objs.getD 2 zO)) (by kernel_rfl)
 refine aa (af (af ?_))
 refine ⟨.pointer (some a), fun _ => i1, .inr rfl, ?_⟩
 refine aH rfl (af (af ?_))
 refine ⟨[iV 3], rfl, ⟨rfl, trivial⟩, fun _ => i2 5 1 (by omega), ?_⟩
 refine af ?_
 refine ab _ (aV _ _) ?_
 refine af ?_
 refine ab _ (aM _ _) (ak (fun hd => by cases hd) (fun _ => ?_))
 refine ao (mq hgl 0 (src := 1) ⟨1, 4, 20, 0, 0⟩ ⟨0, 1⟩ 9 (by constructor <;> omega) QI (by kernel_rfl)) ?_
 rintro _ H2 _ ⟨⟨wB, rfl, hxB⟩, rfl⟩ l2
 have hxB : BdS H2 wB xB := hxB
 have hgl := hgl.le l2
 refine ⟨am wB xB ++ [.bool true], rfl, ar (an (hxB.r [])) ⟨rfl, trivial⟩, ?_⟩
 refine aa (aa ?_)
 refine ao (mq hgl 1 (src := 3) ⟨3, 0, 5, 0, 0⟩ ⟨0, 0⟩ 9 (by constructor <;> omega) QH (by kernel_rfl)) ?_
 rintro _ H3 _ ⟨⟨wC, rfl, hxC⟩, rfl⟩ l3
 have hxC : BdS H3 wC xC := hxC
 have hgl := hgl.le l3
 refine ⟨am wC xC ++ [.bool true], rfl, ar (an (hxC.r [])) ⟨rfl, trivial⟩, ?_⟩
 refine ae fun r2 => ?_
 refine aa ?_
 refine ab _ (aB _) ?_
 refine af (af (aa (af (af ?_))))
 refine ab _ (aV _ _) ?_
 refine af ?_
 refine ab _ (aM _ _) ?_
 refine af ?_
 refine ab _ (aB _) ?_
 refine af ?_
 refine ab _ (aM _ _) ?_
 refine af (af (aa (af (af ?_))))
 refine ab _ (aV _ _) ?_
 refine af ?_
 refine ab _ (aM _ _) (ak (fun hd => absurd (show ((((!true || (xB.s1.life != 0)) || !true) || (xC.s1.life != 25))) = true from hd) (by rw [show ((((!true || (xB.s1.life != 0)) || !true) || (xC.s1.life != 25))) = false from by kernel_rfl]; simp)) (fun _ => ?_))
 refine ao (mq hgl 0 (src := 1) ⟨6, 3, 0, 0, 0⟩ ⟨1, 0⟩ 9 (by constructor <;> omega) QG (by kernel_rfl)) ?_
 rintro _ H4 _ ⟨⟨wD, rfl, hxD⟩, rfl⟩ l4
 have hxD : BdS H4 wD xD := hxD
 have hgl := hgl.le l4
 refine ⟨am wD xD ++ [.bool true], rfl, ar (an (hxD.r [])) ⟨rfl, trivial⟩, ?_⟩
 refine aa (aa ?_)
 refine ao (mq hgl 0 (src := 1) ⟨9, 0, 2, 0, 0⟩ ⟨0, 0⟩ 9 (by constructor <;> omega) QF (by kernel_rfl)) ?_
 rintro _ H5 _ ⟨⟨wE, rfl, hxE⟩, rfl⟩ l5
 have hxE : BdS H5 wE xE := hxE
 have hgl := hgl.le l5
 refine ⟨am wE xE ++ [.bool true], rfl, ar (an (hxE.r [])) ⟨rfl, trivial⟩, ?_⟩
 have hxD := hxD.le l5
 refine aa ?_
 refine ab _ (aB _) (ak (fun hd => by cases hd) (fun _ => ?_))
 refine aa ?_
 refine ao (lG _) ?_
 rintro _ H6 _ ⟨⟨v1, rfl, hx6⟩, rfl⟩ l6
 have hgl := hgl.le l6
 refine ⟨am v1 exB, rfl, an (hx6.r []), ?_⟩
 have hxD := hxD.le l6
 have hxE := hxE.le l6
 refine ai (HD (hxD.r []) (hx6.r [])) rfl ⟨rfl, trivial⟩ fun H7 l7 => ?_
 rw [show (xD == exB) = true from by kernel_rfl]
 have hxE := hxE.le l7
 have hgl := hgl.le l7
 refine ab _ (aB _) ?_
 refine af ?_
 refine ab _ (aB _) ?_
 refine af ?_
 refine ab _ (aM _ _) ?_
 obtain ⟨a2, j1, j2⟩ := Bn hxE (k := 0) (o := (xE.objs.getD 0 zO)) (by kernel_rfl)
 refine aa (af (af ?_))
 refine ⟨.pointer (some a2), fun _ => j1, .inr rfl, ?_⟩
 refine aH rfl (af (af ?_))
 refine ⟨[iV 2], rfl, ⟨rfl, trivial⟩, fun _ => j2 6 1 (by omega), ?_⟩
 refine af ?_
 refine ab _ (aV _ _) ?_
 refine af ?_
 refine ab _ (aM _ _) (ak (fun hd => by cases hd) (fun _ => ?_))
 refine aa ?_
 refine ao (mq hgl 0 (src := 2) ⟨9, 0, 2, 0, 0⟩ ⟨0, 0⟩ 9 (by constructor <;> omega) QE (by kernel_rfl)) ?_
 rintro _ H8 _ ⟨⟨wF, rfl, hxF⟩, rfl⟩ l8
 have hxF : BdS H8 wF xF := hxF
 have hgl := hgl.le l8
 refine ⟨am wF xF ++ [.bool true], rfl, ar (an (hxF.r [])) ⟨rfl, trivial⟩, ?_⟩
 refine aa (aa ?_)
 refine ao (mq hgl 1 (src := 3) ⟨2, 0, 1, 0, 0⟩ ⟨0, 0⟩ 9 (by constructor <;> omega) QD (by kernel_rfl)) ?_
 rintro _ H9 _ ⟨⟨wG, rfl, hxG⟩, rfl⟩ l9
 have hxG : BdS H9 wG xG := hxG
 have hgl := hgl.le l9
 refine ⟨am wG xG ++ [.bool true], rfl, ar (an (hxG.r [])) ⟨rfl, trivial⟩, ?_⟩
 have hxF := hxF.le l9
 refine aa ?_
 refine ab _ (aB _) (ak (fun hd => by cases hd) (fun _ => ?_))
 refine aa ?_
 refine ao (lG _) ?_
 rintro _ H10 _ ⟨⟨v2, rfl, hx10⟩, rfl⟩ l10
 have hgl := hgl.le l10
 refine ⟨am v2 exB, rfl, an (hx10.r []), ?_⟩
 have hxF := hxF.le l10
 have hxG := hxG.le l10
 refine ai (HD (hxF.r []) (hx10.r [])) rfl ⟨rfl, trivial⟩ fun H11 l11 => ?_
 rw [show (xF == exB) = true from by kernel_rfl]
 have hgl := hgl.le l11
 refine ab _ (aB _) ?_
 refine af ?_
 refine ab _ (aB _) ?_
 refine af ?_
 refine ab _ (aM _ _) ?_
 refine af (af (aa (af (af ?_))))
 refine ab _ (aB xG.s1.empty) ?_
 refine af ?_
 refine ab _ (aM _ _) ?_
 refine af (af (aa (af (af ?_))))
 refine ab _ (aM _ xG.s0.empty) (ak (fun hd => absurd (show ((((!true || !true) || !xG.s1.empty) || xG.s0.empty)) = true from hd) (by rw [show ((((!true || !true) || !xG.s1.empty) || xG.s0.empty)) = false from by kernel_rfl]; simp)) (fun _ => ?_))
 refine ae fun r3 => ?_
 refine aa (aa (aa ?_))
 refine ao (mq hgl 0 (src := 1) ⟨10, 0, 1, 1, 0⟩ ⟨0, 0⟩ 3 (by constructor <;> omega) QC (by kernel_rfl)) ?_
 rintro _ H12 _ ⟨⟨wH, rfl, hxH⟩, rfl⟩ l12
 have hxH : BdS H12 wH xH := hxH
 have hgl := hgl.le l12
 refine ⟨am wH xH ++ [.bool true], rfl, ar (an (hxH.r [])) ⟨rfl, trivial⟩, ?_⟩
 refine aa (aa (aa ?_))
 refine ao (mq hgl 0 (src := 1) ⟨10, 0, 1, 1, 0⟩ ⟨0, 0⟩ 4 (by constructor <;> omega) QB (by kernel_rfl)) ?_
 rintro _ H13 _ ⟨⟨wI, rfl, hxI⟩, rfl⟩ l13
 have hxI : BdS H13 wI xI := hxI
 have hgl := hgl.le l13
 refine ⟨am wI xI ++ [.bool true], rfl, ar (an (hxI.r [])) ⟨rfl, trivial⟩, ?_⟩
 have hxH := hxH.le l13
 refine aa ?_
 refine ab _ (aB _) (ak (fun hd => by cases hd) (fun _ => ?_))
 refine aa ?_
 refine ao (lG _) ?_
 rintro _ H14 _ ⟨⟨v3, rfl, hx14⟩, rfl⟩ l14
 have hgl := hgl.le l14
 refine ⟨am v3 exB, rfl, an (hx14.r []), ?_⟩
 have hxH := hxH.le l14
 have hxI := hxI.le l14
 refine ai (HD (hxH.r []) (hx14.r [])) rfl ⟨rfl, trivial⟩ fun H15 l15 => ?_
 rw [show (xH == exB) = true from by kernel_rfl]
 have hxI := hxI.le l15
 have hgl := hgl.le l15
 have olen : aj .len [wI.o] = some (iV 4) := by have := hxI.objs.len; rw [List.length_map] at this; exact this.trans (by kernel_rfl)
 refine ab _ (aB _) ?_
 refine af ?_
 refine ab _ (aB _) ?_
 refine af ?_
 refine ab _ (aM _ _) ?_
 refine aa (af (af ?_))
 refine ab _ olen ?_
 refine af ?_
 refine ab _ (aV _ _) ?_
 refine af ?_
 refine ab _ (aM _ _) ?_
 obtain ⟨a3, k1, k2⟩ := Bn hxI (k := 3) (o := (xI.objs.getD 3 zO)) (by kernel_rfl)
 refine aa (af (af ?_))
 refine ⟨.pointer (some a3), fun _ => k1, .inr rfl, ?_⟩
 refine aH rfl (af (af ?_))
 refine ⟨[iV 4], rfl, ⟨rfl, trivial⟩, fun _ => by have := k2 0 1 (by omega); rw [N3] at this; exact this, ?_⟩
 refine af ?_
 refine ab _ (aV _ _) ?_
 refine af ?_
 refine ab _ (aM _ _) ?_
 refine aa (af (af ?_))
 refine ⟨.pointer (some a3), fun _ => k1, .inr rfl, ?_⟩
 refine aH rfl (af (af ?_))
 refine ⟨[iV (-1)], rfl, ⟨rfl, trivial⟩, fun _ => k2 1 1 (by omega), ?_⟩
 refine af ?_
 refine ab _ (aV _ _) ?_
 refine af ?_
 refine ab _ (aM _ _) (ak (fun hd => by cases hd) (fun _ => ?_))
 refine ao (Ir _) ?_
 rintro cv H16 _ ⟨hk, rfl⟩ l16
 refine ⟨[cv], rfl, ⟨hk.one, trivial⟩, ?_⟩
 have hgl := hgl.le l16
 refine ao (lG _) ?_
 rintro _ H17 _ ⟨⟨v4, rfl, hx17⟩, rfl⟩ l17
 have hgl := hgl.le l17
 refine ⟨am v4 exB, rfl, an (hx17.r []), ?_⟩
 refine ao (JI (hk.le l17) (by kernel_rfl) hx17 (by kernel_rfl) NC (by kernel_rfl) 9) ?_
 rintro _ H18 _ ⟨rfl, rfl⟩ l18
 have hgl := hgl.le l18
 refine ⟨am sP zBd ++ ([iV 0, iV 0, iV 0, iV 0, .slice none 0 0] ++ [iV 9]), rfl, ar (an ((Le H18).r [])) ⟨rfl, rfl, rfl, rfl, rfl, rfl, trivial⟩, ae fun r4 => ae fun r5 => ?_⟩
 refine aa (aa (aa ?_))
 refine ao (Ir _) ?_
 rintro cv2 H19 _ ⟨hk2, rfl⟩ l19
 refine ⟨[cv2], rfl, ⟨hk2.one, trivial⟩, ?_⟩
 have hgl := hgl.le l19
 refine ao (lG _) ?_
 rintro _ H20 _ ⟨⟨v5, rfl, hx20⟩, rfl⟩ l20
 have hgl := hgl.le l20
 refine ⟨am v5 exB, rfl, an (hx20.r []), ?_⟩
 refine ao (Triple.frozen2 (E8 hgl (hk2.le l20) (by kernel_rfl) hx20 NC 2 (src := 1) 9 (by constructor <;> omega) ⟨2, 0, 1, 0, 0⟩ ⟨0, 0⟩)) ?_
 rw [PK]
 rintro _ H21 _ ⟨⟨w21, rfl, h21⟩, rfl⟩ l21
 have h21 : BdS H21 w21 zBd := h21
 refine ⟨am w21 zBd ++ [iV 2], rfl, ar (an (h21.r [])) ⟨rfl, trivial⟩, ae fun r6 => ?_⟩
 refine aa ?_
 refine ab _ (aA _ _) ?_
 refine af ?_
 refine ab _ (aA _ _) ?_
 refine af ?_
 refine ab _ (bA _ _) ?_
 exact ah ⟨rfl, rfl⟩
theorem LY (n : Nat) : szB n zBd := ⟨Nat.zero_le _, ⟨Nat.zero_le _, Nat.zero_le _, Nat.zero_le _, Nat.zero_le _⟩, ⟨Nat.zero_le _, Nat.zero_le _, Nat.zero_le _, Nat.zero_le _⟩, ⟨Nat.zero_le _, fun x hx => by cases hx⟩, ⟨Nat.zero_le _, fun x hx => by cases hx⟩, Nat.zero_le _, Nat.zero_le _⟩
theorem vM {n : Nat} {b : Bd} (h : szB n b) (p : Int) : szS n (au b p) := by
 rw [au]; split
 ·exact h.2.1
 ·exact h.2.2.1
theorem vL {n : Nat} {b : Bd} (h : szB n b) (p : Int) {s : St} (hs : szS n s) : szB n (aW b p s) := by
 rw [aW]; split
 ·exact ⟨h.1, hs, h.2.2⟩
 ·exact ⟨h.1, h.2.1, hs, h.2.2.2⟩
theorem Hi {n : Nat} {b : Bd} (h : szB n b) {l : List Ob} (hl : l.length ≤ n) : szB n { b with objs := l } := ⟨hl, h.2⟩
theorem Em {n : Nat} {b : Bd} (h : szB n b) (k : Nat) (o : Ob) : szB n (du b k o) := Hi h (by rw [List.length_set]; exact h.1)
theorem L8 {n : Nat} {b : Bd} (h : szB n b) (p x : Int) : szB n (lF b p x) := vL h p (vM h p)
theorem Hj {n : Nat} {b : Bd} (h : szB n b) (id : Int) (f : Ob → Ob) : szB n (dA b id f) := by
 rw [dA]
 split
 ·rw [ye]
  split
  ·split
   ·exact LY n
   split
   ·exact LY n
   ·exact Em h _ _
  ·exact LY n
 ·exact h
theorem L6 {n : Nat} {s : St} (h : szS n s) (c k : Int) : szS n (gz s c k) := by
 rw [gz]
 split
 ·exact h
 split
 ·exact h
 split
 ·exact h
 ·exact h
theorem Oi {n : Nat} {b : Bd} (h : szB n b) (p id : Int) : szB (n + 1) (gQ b p id) := by
 rw [gQ]
 refine Em ?_ _ _
 rw [Aw]
 have h' := szB.le h (show n ≤ n + 1 by omega)
 refine vL h' p ?_
 obtain ⟨a1, a2, a3, a4⟩ := vM h p
 exact ⟨by rw [Ly, List.length_dropLast]; omega, by rw [Ly, List.length_append, List.length_singleton]; omega, by show (au b p).field.length ≤ n + 1; omega, by show (au b p).grave.length ≤ n + 1; omega⟩
theorem Oj {p : Int} : ∀ (k : Nat) {n : Nat} {b : Bd}, szB n b → szB (n + k) (dP k b p)
 | 0, _, _, h => h
 | k + 1, n, b, h => by
  rw [dP]
  split
  ·exact szB.le (vL h p (vM h p)) (by omega)
  ·exact szB.le (Oj (p := p) k (Oi h p _)) (by omega)
theorem Mc {n : Nat} {b : Bd} (h : szB n b) (p : Int) {k : Int} (hk : k ≤ 99) : szB (n + 99) (kX b p k).1 := by
 rw [kX]
 split
 ·exact LY _
 ·exact szB.le (Oj _ h) (by omega)
theorem Ft {n : Nat} {b : Bd} (h : szB n b) (id : Int) : szB (n + 1) (cJ b id).1 := by
 rw [cJ]
 split
 ·exact LY _
 split
 ·exact LY _
 ·exact o6 h _ _
theorem Og {n : Nat} {b : Bd} (h : szB n b) (p pw tn most : Int) : szB (n + 1) (sT b p pw tn most).1 := by
 have h' := szB.le h (show n ≤ n + 1 by omega)
 rw [sT]
 split
 ·exact LY _
 split
 ·exact h'
 split
 ·exact h'
 ·show szB (n + 1) (tZ b (aK b) p pw tn)
  rw [tZ, jM]
  have ho : szB (n + 1) { b with objs := b.objs.take (aK b) ++ [yi ((aK b : Int) + 1) p pw tn true] ++ b.objs.drop (aK b) } := Hi h' (by
   have h1 := h.1
   have : (b.objs.take (aK b)).length + (b.objs.drop (aK b)).length = b.objs.length := by rw [← List.length_append, List.take_append_drop]
   simp only [List.length_append, List.length_singleton]
   omega)
  refine vL ho p (Hh ?_ _ _)
  have hs := vM h p
  rw [au] at hs ⊢
  exact hs
theorem Md {n : Nat} {b : Bd} (h : szB n b) (cs : List CdX) (p who id : Int) {e : Eff} (hn : e.n ≤ 99) (most : Int) : szB (n + 100) (aR cs b p who id e most) := by
 have hc := fun (i : Int) f => szB.le (Hj h i f) (show n ≤ n + 100 by omega)
 have hl := fun (q x : Int) => szB.le (L8 h q x) (show n ≤ n + 100 by omega)
 rw [aR]
 split
 ·split
  ·exact hc _ _
  ·exact hl _ _
 split
 ·exact szB.le (Mc h _ hn) (by omega)
 split
 ·exact hl _ _
 split
 ·exact hl _ _
 split
 ·exact szB.le (o6 h _ _) (by omega)
 split
 ·exact szB.le (Ft h _) (by omega)
 split
 ·exact szB.le (Og h _ _ _ _) (by omega)
 split
 ·exact szB.le (vL h _ (L6 (vM h _) _ _)) (by omega)
 split
 ·exact hc _ _
 ·exact szB.le h (by omega)
theorem L9 {n : Nat} {b : Bd} (h : szB n b) (cs : List CdX) (p src : Int) {e : Eff} (hn : e.n ≤ 99) (t : Tg) (most : Int) : szB (n + 100) (tB cs b p src e t most) := by
 rw [tB]
 split
 ·exact szB.le h (by omega)
 ·exact Md h cs _ _ _ hn _
structure Ar where
 (p src : Int)
 e : Eff
 t : Tg
 which : Int
def Qj (a : Ar) : List Value := [iV a.p, iV a.src, iV a.e.code, iV a.e.target, iV a.e.n, iV a.e.m, iV a.e.colour, iV a.t.id, iV a.t.player, iV a.which]
def ArsS (H : Heap) (v : Value) (l : List Ar) : Prop := Sl H 10 v (l.map Qj) ∧ ∀ a ∈ l, i64 a.src
theorem ArsS.le {H H' : Heap} {v : Value} {l : List Ar} (h : ArsS H v l) (hl : Heap.le H H') : ArsS H' v l := ⟨h.1.le hl, h.2⟩
theorem ArsS.len {H : Heap} {v : Value} {l : List Ar} (h : ArsS H v l) : aj .len [v] = some (iV l.length) := by
 have := h.1.len; rwa [List.length_map] at this
theorem TrsX.len {H : Heap} {v : Value} {l : List (List Eff)} (h : TrsX H v l) : aj .len [v] = some (iV l.length) ∧ v.oneCell' = true ∧ l.length < 2 ^ 63 := by
 obtain ⟨rows, h1, h2, _⟩ := h
 have := h1.len; rw [h2] at this
 have hB := h1.lenB; rw [h2] at hB
 exact ⟨this, h1.one, hB⟩
theorem NE {H : Heap} {v : Value} {l : List Eff} (h : Sl H 5 v (iR l)) : aj .len [v] = some (iV l.length) ∧ l.length < 2 ^ 63 := by
 have := h.len; rw [lL] at this
 have hB := h.lenB; rw [lL] at hB
 exact ⟨this, hB⟩
theorem sR {b : Bd} (h : al b = true) {p : Int} (hp : p = 0 ∨ p = 1) {s : St} (h1 : s.lib = (au b p).lib) (h2 : s.hand = (au b p).hand) (h3 : s.field = (au b p).field) (h4 : s.grave = (au b p).grave) (hok : be s = true) : al (aW b p s) = true := by
 rcases hp with rfl | rfl
 ·have g1 : s.lib = b.s0.lib := h1
  have g2 : s.hand = b.s0.hand := h2
  have g3 : s.field = b.s0.field := h3
  have g4 : s.grave = b.s0.grave := h4
  show al { b with s0 := s } = true
  have e1 : aI { b with s0 := s } = aI b := by simp only [aI, cj, g1, g2, g3, g4]
  simp only [al, nZ, bu, dO, e1, g3, hok, Bool.true_and] at h ⊢
  simp only [Bool.and_eq_true] at h ⊢
  obtain ⟨a1, a2, a3, a4, a5, _, a7⟩ := h
  exact ⟨a1, a2, a3, a4, a5, a7⟩
 ·have g1 : s.lib = b.s1.lib := h1
  have g2 : s.hand = b.s1.hand := h2
  have g3 : s.field = b.s1.field := h3
  have g4 : s.grave = b.s1.grave := h4
  show al { b with s1 := s } = true
  have e1 : aI { b with s1 := s } = aI b := by simp only [aI, cj, g1, g2, g3, g4]
  simp only [al, nZ, bu, dO, e1, g3, hok, Bool.true_and] at h ⊢
  simp only [Bool.and_eq_true] at h ⊢
  obtain ⟨a1, a2, a3, a4, a5, a6, _, a8⟩ := h
  exact ⟨a1, a2, a3, a4, a5, a6, a8⟩
theorem uz (x : Int) {m : Int} (hm : 0 ≤ m) : ap (dd x m) 0 m = true := by
 have h : 0 ≤ dd x m ∧ dd x m ≤ m := by simp only [dd]; omega
 simp only [ap, decide_eq_true_eq]; exact h
theorem F7 {b : Bd} (h : al b = true) {p : Int} (hp : p = 0 ∨ p = 1) (x : Int) : al (lF b p (dd x 9999)) = true := by
 refine sR h hp rfl rfl rfl rfl ?_
 have hs := nB h p
 simp only [be, Bool.and_eq_true] at hs ⊢
 exact ⟨uz _ (by omega), hs.2⟩
theorem F5 {b : Bd} (h : al b = true) {p : Int} (hp : p = 0 ∨ p = 1) (c n : Int) : al (aW b p (gz (au b p) c n)) = true := by
 have hs := nB h p
 have hc : ∀ x, ap (dd x 99) 0 99 = true := fun x => uz x (by omega)
 simp only [be, Bool.and_eq_true, List.all_cons, List.all_nil] at hs
 obtain ⟨k1, ⟨k2, k3, k4, k5, _⟩, k6⟩ := hs
 refine sR h hp ?_ ?_ ?_ ?_ ?_
 ·rw [gz]; repeat' split
  all_goals rfl
 ·rw [gz]; repeat' split
  all_goals rfl
 ·rw [gz]; repeat' split
  all_goals rfl
 ·rw [gz]; repeat' split
  all_goals rfl
 ·rw [gz]
  repeat' split
  all_goals simp only [be, Bool.and_eq_true, List.all_cons, List.all_nil]
  ·exact ⟨k1, ⟨hc _, k3, k4, k5, trivial⟩, k6⟩
  ·exact ⟨k1, ⟨k2, hc _, k4, k5, trivial⟩, k6⟩
  ·exact ⟨k1, ⟨k2, k3, hc _, k5, trivial⟩, k6⟩
  ·exact ⟨k1, ⟨k2, k3, k4, hc _, trivial⟩, k6⟩
theorem B8 {b : Bd} (h : al b = true) {id : Int} (hi : aU b id = 0) {f : Ob → Ob} (h1 : ∀ o, (f o).id = o.id ∧ (f o).card = o.card ∧ (f o).owner = o.owner) (hv : ∀ o, aP o = true → aP (f o) = true) : al (dA b id f) = true := by
 obtain ⟨k, e1, e2, e3, e4, _⟩ := mC hi
 obtain ⟨j1, j2, j3⟩ := h1 (eR b id)
 rw [dA, Et hi (by rw [j1]; exact e2) j2 j3 (hv _ e4), if_pos rfl, e3, Int.toNat_natCast]
 exact AN h e1 j1 j3 j2 (hv _ e4)
theorem EZ {p : Int} (hp : p = 0 ∨ p = 1) : ∀ (k : Nat) {b : Bd}, al b = true → al (dP k b p) = true ∧ (∃ m, m ≤ (au b p).lib.length ∧ (au (dP k b p) p).lib = (au b p).lib.take m) ∧ (∀ q, (au (dP k b p) q).life = (au b q).life) ∧
  (dP k b p).objs.length = b.objs.length ∧ (dP k b p).stack = b.stack ∧ ∀ q, (q = 0 ∨ q = 1) → q ≠ p → (au (dP k b p) q).lib = (au b q).lib
 | 0, b, h => ⟨h, ⟨(au b p).lib.length, Nat.le_refl _, by rw [List.take_length]; rfl⟩, fun _ => rfl, rfl, rfl, fun _ _ _ => rfl⟩
 | k + 1, b, h => by
  cases e : (au b p).lib.getLast? with
  | none =>
   have hd : dP (k + 1) b p = aW b p { au b p with empty := true } := by rw [dP, e]
   rw [hd]
   have hs := nB h p
   refine ⟨sR h hp rfl rfl rfl rfl hs, ⟨(au b p).lib.length, Nat.le_refl _, ?_⟩, ?_, ?_, ?_, ?_⟩
   ·rw [List.take_length]; rcases hp with rfl | rfl <;> rfl
   ·intro q; rcases hp with rfl | rfl <;> (simp only [au, aW]; repeat' split) <;> first | rfl | omega
   ·rcases hp with rfl | rfl <;> rfl
   ·rcases hp with rfl | rfl <;> rfl
   ·intro q hq hne
    rcases hp with rfl | rfl <;> rcases hq with rfl | rfl <;> first | rfl | omega
  | some id =>
   have hd : dP (k + 1) b p = dP k (gQ b p id) p := by rw [dP, e]
   obtain ⟨l, hl⟩ : ∃ l, (au b p).lib = l ++ [id] := ⟨_, (List.getLast?_eq_some_iff.1 e).choose_spec⟩
   obtain ⟨j, o, _, _, _, _, _, _, _, _, hdo, hvo⟩ := xn h hp hl
   obtain ⟨f1, ⟨m, f2, f3⟩, f4, f5, f6, f7⟩ := EZ hp k hvo
   rw [hd]
   have hlib : (au (gQ b p id) p).lib = l := by
    have : (au (gQ b p id) p).lib = (au b p).lib.dropLast := by rcases hp with rfl | rfl <;> rfl
    rw [this, hl, List.dropLast_concat]
   rw [hlib] at f2 f3
   refine ⟨f1, ⟨m, by rw [hl, List.length_append]; omega, by rw [f3, hl, List.take_append_of_le_length f2]⟩, ?_, ?_, ?_, ?_⟩
   ·intro q; rw [f4]; rcases hp with rfl | rfl <;> (simp only [au, gQ, Aw, du, aW, Ly]; repeat' split) <;> first | rfl | omega
   ·rw [f5]; rcases hp with rfl | rfl <;> (simp only [gQ, Aw, du, aW, List.length_set]; rfl)
   ·rw [f6]; rcases hp with rfl | rfl <;> rfl
   ·intro q hq hne
    rw [f7 q hq hne]
    rcases hp with rfl | rfl <;> rcases hq with rfl | rfl <;> first | rfl | omega
theorem Ls : ∀ {l : List Ob} {prev : Option Int}, (∀ o ∈ l, ∀ p, prev = some p → p < o.id) → (l.map (·.id)).Pairwise (· < ·) → Au prev l = true
 | [], _, _, _ => rfl
 | a :: l, prev, h, hp => by
  rw [List.map_cons, List.pairwise_cons] at hp
  simp only [Au, Bool.and_eq_true, Bool.not_eq_true']
  refine ⟨?_, Ls (fun o ho p e => ?_) hp.2⟩
  ·cases prev with
   | none => rfl
   | some p =>
    have := h a List.mem_cons_self p rfl
    show decide (p ≥ a.id) = false
    rw [decide_eq_false_iff_not]; omega
  ·injection e with e
   rw [← e]; exact hp.1 _ (List.mem_map_of_mem ho)
theorem Iz : ∀ {l : List Ob} {m : Int}, (l.map (·.id)).Pairwise (· < ·) → (∀ o ∈ l, m < o.id) → ∀ (j : Nat) (o : Ob), l[j]? = some o → m + 1 + j ≤ o.id
 | [], _, _, _, j, o, h => by simp at h
 | a :: l, m, hp, hm, 0, o, h => by
  simp at h; subst h
  have := hm a List.mem_cons_self
  omega
 | a :: l, m, hp, hm, j + 1, o, h => by
  rw [List.map_cons, List.pairwise_cons] at hp
  have h0 := hm a List.mem_cons_self
  have := Iz (m := m + 1) hp.2 (fun x hx => by have := hp.1 _ (List.mem_map_of_mem hx); omega) j o (by simpa using h)
  omega
theorem EJ {b : Bd} (h : al b = true) {x : Int} (hx : x ∈ (aI b).map (·.1)) : ∃ o ∈ b.objs, o.id = x := by
 obtain ⟨⟨i, p⟩, hq, rfl⟩ := List.mem_map.1 hx
 obtain ⟨k, o, e1, e2, _⟩ := EY (aJ h).1 hq
 exact ⟨o, List.mem_of_getElem? e1, e2⟩
theorem PM {b : Bd} {p : Int} (hp : p = 0 ∨ p = 1) (pw tn : Int) (hm : aK b < 500) : aP (yi ((aK b : Int) + 1) p pw tn true) = true := by
 have hN : ∀ x, ap (JJ x) 0 99 = true := fun x => by
  have h : 0 ≤ JJ x ∧ JJ x ≤ 99 := by simp only [JJ]; omega
  simp only [ap, decide_eq_true_eq]; exact h
 have h0 : ap 0 0 99 = true := by decide
 simp only [aP, Bool.and_eq_true, Bool.or_eq_true, List.all_cons, List.all_nil, decide_eq_true_eq, beq_iff_eq]
 refine ⟨⟨⟨hN _, hN _, h0, h0, h0, h0, trivial⟩, ⟨⟨⟨⟨.inl rfl, ?_⟩, ?_⟩, ?_⟩, ?_⟩⟩, hp⟩
 ·show (aK b : Int) + 1 ≥ 1; omega
 ·show (aK b : Int) + 1 ≤ 500; omega
 ·show (-1 : Int) ≥ -1; omega
 ·show (-1 : Int) < 400; omega
section
variable {b : Bd} (h : al b = true) {p : Int} (hp : p = 0 ∨ p = 1) (pw tn : Int) (hm : aK b < 500)
include h
theorem Ej (p : Int) : ((b.objs.take (aK b) ++ [yi ((aK b : Int) + 1) p pw tn true] ++ b.objs.drop (aK b)).map (·.id)).Pairwise (· < ·) ∧ ∀ o ∈ b.objs.take (aK b) ++ [yi ((aK b : Int) + 1) p pw tn true] ++ b.objs.drop (aK b), 0 < o.id := by
 obtain ⟨f1, f2, f3⟩ := lJ h
 obtain ⟨i1, i2⟩ := nw h
 have hpw := ku i2
 have hge := Iz (m := 0) hpw (fun o ho => by have := (i1 o ho).1; omega)
 have ht : ∀ o ∈ b.objs.take (aK b), o.id ≤ aK b := fun o ho => by
  obtain ⟨j, hj⟩ := List.mem_iff_getElem?.1 ho
  have hlt : j < aK b := by have := (List.getElem?_eq_some_iff.1 hj).1; rw [List.length_take] at this; omega
  rw [List.getElem?_take_of_lt hlt] at hj
  have := f2 j hlt
  rw [hj] at this
  have : o.id = (j : Int) + 1 := Option.some.inj this
  omega
 have hd : ∀ o ∈ b.objs.drop (aK b), (aK b : Int) + 1 < o.id := fun o ho => by
  obtain ⟨j, hj⟩ := List.mem_iff_getElem?.1 ho
  rw [List.getElem?_drop] at hj
  have h1 := hge _ _ hj
  have h2 := f3 o (List.mem_of_getElem? hj)
  omega
 have e : b.objs.map (·.id) = (b.objs.take (aK b)).map (·.id) ++ (b.objs.drop (aK b)).map (·.id) := by rw [← List.map_append, List.take_append_drop]
 rw [e, List.pairwise_append] at hpw
 refine ⟨?_, fun o ho => ?_⟩
 ·rw [List.map_append, List.map_append, List.pairwise_append, List.pairwise_append]
  refine ⟨⟨hpw.1, List.pairwise_singleton _ _, fun x hx y hy => ?_⟩, hpw.2.1, fun x hx y hy => ?_⟩
  ·obtain ⟨o, ho, rfl⟩ := List.mem_map.1 hx
   have := ht o ho
   obtain rfl : y = (aK b : Int) + 1 := by simpa [yi] using hy
   omega
  ·obtain ⟨o, ho, rfl⟩ := List.mem_map.1 hy
   have h1 := hd o ho
   rcases List.mem_append.1 hx with hx | hx
   ·obtain ⟨o', ho', rfl⟩ := List.mem_map.1 hx
    have := ht o' ho'
    omega
   ·obtain rfl : x = (aK b : Int) + 1 := by simpa [yi] using hx
    exact h1
 ·rcases List.mem_append.1 ho with ho | ho
  ·rcases List.mem_append.1 ho with ho | ho
   ·have := (i1 o (List.mem_of_mem_take ho)).1; omega
   ·rw [List.mem_singleton.1 ho]; show (0 : Int) < (aK b : Int) + 1; omega
  ·have := hd o ho; omega
include hp hm
theorem Fq : bu aP (tZ b (aK b) p pw tn) = true := by
 have hpl := (aJ h).1
 obtain ⟨p1, p2, p3⟩ := fq hpl
 obtain ⟨f1, _, f3⟩ := lJ h
 have hn := cB hpl
 rw [← gK] at hn
 have hq := yI { b with objs := b.objs.take (aK b) ++ [yi ((aK b : Int) + 1) p pw tn true] ++ b.objs.drop (aK b) } hp (z := 2) (by omega) ((aK b : Int) + 1)
 have e1 : aI { b with objs := b.objs.take (aK b) ++ [yi ((aK b : Int) + 1) p pw tn true] ++ b.objs.drop (aK b) } = aI b := rfl
 rw [e1] at hq
 have hni : (aK b : Int) + 1 ∉ (aI b).map (·.1) := fun hx => by
  obtain ⟨o, ho, e⟩ := EJ h hx
  exact f3 o ho e
 have hnc : ((((aK b : Int) + 1, p) :: aI b).map (·.1)).Nodup := by
  rw [List.map_cons]
  exact List.nodup_cons.2 ⟨hni, hn⟩
 have hn' := (hq.map (·.1)).nodup_iff.2 hnc
 have ho : (tZ b (aK b) p pw tn).objs = b.objs.take (aK b) ++ [yi ((aK b : Int) + 1) p pw tn true] ++ b.objs.drop (aK b) := by
  rcases hp with rfl | rfl <;> rfl
 have hs : (tZ b (aK b) p pw tn).stack = b.stack := by rcases hp with rfl | rfl <;> rfl
 have hpb : aI (tZ b (aK b) p pw tn) = aI (jM { b with objs := b.objs.take (aK b) ++ [yi ((aK b : Int) + 1) p pw tn true] ++ b.objs.drop (aK b) } p 2 ((aK b : Int) + 1)) := rfl
 have hlook := tq hn' hq
 simp only [bu, Bool.and_eq_true, decide_eq_true_eq, lC, ho, hs, hpb]
 refine ⟨hn', ⟨Ls (fun o _ p e => by cases e) (Ej h pw tn p).1, ?_⟩, ?_⟩
 ·rw [List.all_eq_true]
  intro o hm2
  have hold : o ∈ b.objs → ok1 (aI (jM { b with objs := b.objs.take (aK b) ++ [yi ((aK b : Int) + 1) p pw tn true] ++ b.objs.drop (aK b) } p 2 ((aK b : Int) + 1))) (aZ b.stack) o = true := fun hm => by
   have h1 := List.all_eq_true.1 p2 o hm
   have hne := f3 o hm
   have hc : bX (((aK b : Int) + 1, p) :: aI b) o.id = bX (aI b) o.id := by
    rw [bX, List.find?_cons, show (o.id == (aK b : Int) + 1) = false from beq_eq_false_iff_ne.2 hne]; rfl
   simp only [ok1, hlook, hc] at h1 ⊢
   exact h1
  rcases List.mem_append.1 hm2 with hm2 | hm2
  ·rcases List.mem_append.1 hm2 with hm2 | hm2
   ·exact hold (List.mem_of_mem_take hm2)
   ·rw [List.mem_singleton.1 hm2]
    have hc : bX (((aK b : Int) + 1, p) :: aI b) ((aK b : Int) + 1) = some p := by
     rw [bX, List.find?_cons, show (((aK b : Int) + 1) == (aK b : Int) + 1) = true from beq_self_eq_true _]; rfl
    have hst : bX (aZ b.stack) ((aK b : Int) + 1) = none := by
     rw [eL]
     intro hx
     refine hni ?_
     have : ((aK b : Int) + 1) ∈ (ej b.stack).map (·.1) := by
      simpa [aZ, ej] using hx
     simp only [aI, List.map_append, List.mem_append]
     exact .inr (.inr this)
    have hid : (yi ((aK b : Int) + 1) p pw tn true).id = (aK b : Int) + 1 := rfl
    have hown : (yi ((aK b : Int) + 1) p pw tn true).owner = p := rfl
    simp only [ok1, hlook, hid, hown, hc, hst, PM hp pw tn hm]
    simp
  ·exact hold (List.mem_of_mem_drop hm2)
 ·rw [hq.length_eq, List.length_cons, p3]
  have : (b.objs.take (aK b)).length + (b.objs.drop (aK b)).length = b.objs.length := by rw [← List.length_append, List.take_append_drop]
  simp only [List.length_append, List.length_singleton]
  omega
theorem GV : al (tZ b (aK b) p pw tn) = true := by
 have hpl := Fq h hp pw tn hm
 obtain ⟨f1, _, f3⟩ := lJ h
 obtain ⟨k1, k2⟩ := Ej h pw tn p
 have hlen : (tZ b (aK b) p pw tn).objs.length ≤ 500 := by
  have ho : (tZ b (aK b) p pw tn).objs = b.objs.take (aK b) ++ [yi ((aK b : Int) + 1) p pw tn true] ++ b.objs.drop (aK b) := by
   rcases hp with rfl | rfl <;> rfl
  rw [ho]
  generalize hl : b.objs.take (aK b) ++ [yi ((aK b : Int) + 1) p pw tn true] ++ b.objs.drop (aK b) = l at *
  rcases Nat.eq_zero_or_pos l.length with e | e
  ·omega
  have hlt : l.length - 1 < l.length := by omega
  have h1 := Iz (m := 0) k1 k2 (l.length - 1) _ (List.getElem?_eq_getElem hlt)
  have h2 : l[l.length - 1].id ≤ 500 := by
   have hmem : l[l.length - 1] ∈ l := List.getElem_mem hlt
   generalize l[l.length - 1] = o at hmem
   rw [← hl] at hmem
   have hi := (nw h).1
   rcases List.mem_append.1 hmem with hx | hx
   ·rcases List.mem_append.1 hx with hx | hx
    ·exact (hi _ (List.mem_of_mem_take hx)).2
    ·rw [List.mem_singleton.1 hx]; show (aK b : Int) + 1 ≤ 500; omega
   ·exact (hi _ (List.mem_of_mem_drop hx)).2
  omega
 have hfi := (aJ h).2.1
 have hfields : ∀ x, x ∈ b.s0.field ∨ x ∈ b.s1.field → x ≠ (aK b : Int) + 1 := fun x hx e => by
  have : x ∈ (aI b).map (·.1) := by
   rw [gK]
   simp only [Ny, Nx, List.mem_append]
   rcases hx with hx | hx
   ·exact .inl (.inr (.inr (.inl hx)))
   ·exact .inr (.inl (.inr (.inr (.inl hx))))
  obtain ⟨o, ho, e2⟩ := EJ h this
  exact f3 o ho (e2.trans e)
 obtain ⟨g1, g2⟩ := Gi hfi
 have ea : bW b.att ((aK b : Int) + 1) = b.att := by
  rw [bW, List.filter_eq_self]
  intro x hx
  simpa using hfields x (g1 x hx)
 have eb : b.blocks.filter (fun x => !ee ((aK b : Int) + 1) x) = b.blocks := by
  rw [List.filter_eq_self]
  intro x hx
  have h1 := hfields _ (g2 x hx).1
  have h2 := hfields _ (g2 x hx).2
  simp [ee, h1, h2]
 have hf : dO (tZ b (aK b) p pw tn) = true := by
  have f0 : ∀ y ∈ b.s0.field, y ≠ (aK b : Int) + 1 → y ∈ (tZ b (aK b) p pw tn).s0.field := fun y hy _ => by
   rcases hp with rfl | rfl
   ·exact List.mem_append_left _ hy
   ·exact hy
  have f1 : ∀ y ∈ b.s1.field, y ≠ (aK b : Int) + 1 → y ∈ (tZ b (aK b) p pw tn).s1.field := fun y hy _ => by
   rcases hp with rfl | rfl
   ·exact hy
   ·exact List.mem_append_left _ hy
  have r1 : (tZ b (aK b) p pw tn).active = b.active := by rcases hp with rfl | rfl <;> rfl
  have r2 : (tZ b (aK b) p pw tn).att = b.att := by rcases hp with rfl | rfl <;> rfl
  have r3 : (tZ b (aK b) p pw tn).blocks = b.blocks := by rcases hp with rfl | rfl <;> rfl
  rw [dO] at hfi ⊢
  rw [r1, r2, r3]
  split
  ·rename_i ha
   rw [if_pos ha] at hfi
   have := mE (id := (aK b : Int) + 1) f0 f1 hfi
   rwa [ea, eb] at this
  ·rename_i ha
   rw [if_neg ha] at hfi
   have := mE (id := (aK b : Int) + 1) f1 f0 hfi
   rwa [ea, eb] at this
 simp only [al, nZ, Bool.and_eq_true, Bool.not_eq_true', Bool.or_eq_false_iff, decide_eq_false_iff_not] at h ⊢
 obtain ⟨a1, a2, a3, a4, ⟨⟨⟨a5, a6⟩, a7⟩, a8⟩, a9, a10, a11, a12, a13⟩ := h
 have q0 : be (tZ b (aK b) p pw tn).s0 = true := by rcases hp with rfl | rfl <;> exact a9
 have q1 : be (tZ b (aK b) p pw tn).s1 = true := by rcases hp with rfl | rfl <;> exact a10
 refine ⟨?_, ?_, ?_, ?_, ⟨⟨⟨?_, by omega⟩, ?_⟩, ?_⟩, q0, q1, ?_, ?_, hpl, hf⟩
 all_goals (rcases hp with rfl | rfl <;> assumption)
end
structure GM (e : Eff) (most : Int) (b x : Bd) : Prop where
 valid : al x = true
 lib : ∀ q, (q = 0 ∨ q = 1) → e.code ≠ 2 → (au x q).lib = (au b q).lib ∧ (au x q).empty = (au b q).empty
 pre : ∀ q, (q = 0 ∨ q = 1) → ∃ m, m ≤ (au b q).lib.length ∧ (au x q).lib = (au b q).lib.take m
 up : ∀ q, (q = 0 ∨ q = 1) → (au x q).life > (au b q).life → e.code = 3
 down : ∀ q, (q = 0 ∨ q = 1) → (au x q).life < (au b q).life → e.code = 4 ∨ e.code = 1
 objs : x.objs.length ≠ b.objs.length → e.code = 10 ∧ x.objs.length = b.objs.length + 1 ∧ (b.objs.length : Int) < most
 stack : x.stack.length ≠ b.stack.length → e.code = 7 ∧ x.stack.length + 1 = b.stack.length
theorem zM {e : Eff} {most : Int} {b x : Bd} (hv : al x = true) (hs : ∀ q, (q = 0 ∨ q = 1) → (au x q).lib = (au b q).lib ∧ (au x q).empty = (au b q).empty ∧ (au x q).life = (au b q).life)
  (ho : x.objs.length ≠ b.objs.length → e.code = 10 ∧ x.objs.length = b.objs.length + 1 ∧ (b.objs.length : Int) < most) (hk : x.stack.length ≠ b.stack.length → e.code = 7 ∧ x.stack.length + 1 = b.stack.length) : GM e most b x :=
 ⟨hv, fun q hq _ => ⟨(hs q hq).1, (hs q hq).2.1⟩, fun q hq => ⟨_, Nat.le_refl _, by rw [(hs q hq).1, List.take_length]⟩, fun q hq h => absurd (hs q hq).2.2 (by omega), fun q hq h => absurd (hs q hq).2.2 (by omega), ho, hk⟩
theorem wV {e : Eff} {most : Int} {b x : Bd} (hv : al x = true) (hs : ∀ q, (q = 0 ∨ q = 1) → (au x q).lib = (au b q).lib ∧ (au x q).empty = (au b q).empty ∧ (au x q).life = (au b q).life)
  (ho : x.objs.length = b.objs.length) (hk : x.stack.length = b.stack.length) : GM e most b x := zM hv hs (fun h => absurd ho h) fun h => absurd hk h
theorem rK {e : Eff} {most : Int} {b : Bd} (hv : al b = true) : GM e most b b := wV hv (fun _ _ => ⟨rfl, rfl, rfl⟩) rfl rfl
theorem wX {e : Eff} {most : Int} {b : Bd} (hv : al b = true) {id : Int} (hi : aU b id = 0) {f : Ob → Ob} (h1 : ∀ o, (f o).id = o.id ∧ (f o).card = o.card ∧ (f o).owner = o.owner) (hf : ∀ o, aP o = true → aP (f o) = true) : GM e most b (dA b id f) := by
 have hc := B8 hv hi h1 hf
 obtain ⟨k, e1, e2, e3, e4, _⟩ := mC hi
 obtain ⟨j1, j2, j3⟩ := h1 (eR b id)
 have ec : dA b id f = du b k (f (eR b id)) := by
  rw [dA, Et hi (by rw [j1]; exact e2) j2 j3 (hf _ e4), if_pos rfl, e3, Int.toNat_natCast]
 rw [ec] at hc ⊢
 exact wV hc (fun q hq => ⟨rfl, rfl, rfl⟩) (by rw [du, List.length_set]) rfl
theorem ll {b : Bd} {p : Int} (hp : p = 0 ∨ p = 1) (s : St) {q : Int} (hq : q = 0 ∨ q = 1) : au (aW b p s) q = if q = p then s else au b q := by
 rcases hp with rfl | rfl <;> rcases hq with rfl | rfl <;> rfl
theorem AA (b : Bd) (p : Int) (s : St) : (aW b p s).objs = b.objs ∧ (aW b p s).stack = b.stack := by
 rw [aW]; split <;> exact ⟨rfl, rfl⟩
theorem wW {e : Eff} {most : Int} {b : Bd} (hv : al b = true) {p : Int} (hp : p = 0 ∨ p = 1) (x : Int) (hup : dd x 9999 > (au b p).life → e.code = 3) (hdn : dd x 9999 < (au b p).life → e.code = 4 ∨ e.code = 1) : GM e most b (lF b p (dd x 9999)) := by
 obtain ⟨o1, o2⟩ := AA b p { au b p with life := dd x 9999 }
 refine ⟨F7 hv hp x, fun q hq _ => ?_, fun q hq => ⟨(au b q).lib.length, Nat.le_refl _, ?_⟩, fun q hq => ?_, fun q hq => ?_, fun h => absurd (by rw [lF, o1]) h, fun h => absurd (by rw [lF, o2]) h⟩
 ·rw [lF, ll hp _ hq]; split
  ·rename_i h; subst h; exact ⟨rfl, rfl⟩
  ·exact ⟨rfl, rfl⟩
 ·rw [lF, ll hp _ hq, List.take_length]; split
  ·rename_i h; subst h; rfl
  ·rfl
 ·rw [lF, ll hp _ hq]; split
  ·rename_i h; subst h; exact hup
  ·intro h; omega
 ·rw [lF, ll hp _ hq]; split
  ·rename_i h; subst h; exact hdn
  ·intro h; omega
theorem Is {e : Eff} {most : Int} {b : Bd} (hv : al b = true) {p : Int} (hp : p = 0 ∨ p = 1) (c n : Int) : GM e most b (aW b p (gz (au b p) c n)) := by
 obtain ⟨o1, o2⟩ := AA b p (gz (au b p) c n)
 refine wV (F5 hv hp c n) (fun q hq => ?_) (by rw [o1]) (by rw [o2])
 rw [ll hp _ hq]; split
 ·rename_i h; subst h
  rw [gz]; repeat' split
  all_goals exact ⟨rfl, rfl, rfl⟩
 ·exact ⟨rfl, rfl, rfl⟩
theorem Iu {e : Eff} {most : Int} {b : Bd} (hv : al b = true) {p : Int} (hp : p = 0 ∨ p = 1) (he : e.code = 2) {n : Int} (hn : 0 ≤ n) : GM e most b (kX b p n).1 := by
 have hw : ap p 0 1 = true := by simp only [ap, decide_eq_true_eq]; omega
 have ed : (kX b p n).1 = dP n.toNat b p := by
  rw [kX, if_neg (by rw [hv, hw, decide_eq_false (by omega : ¬ n < 0)]; simp)]
 rw [ed]
 obtain ⟨f1, f2, f3, f4, f5, f6⟩ := EZ hp n.toNat hv
 refine ⟨f1, fun q hq h => absurd he h, fun q hq => ?_, fun q hq h => absurd (f3 q) (by omega), fun q hq h => absurd (f3 q) (by omega), fun h => absurd f4 h, fun h => absurd (by rw [f5]) h⟩
 by_cases hqp : q = p
 ·subst hqp; exact f2
 ·exact ⟨_, Nat.le_refl _, by rw [f6 q hq hqp, List.take_length]⟩
theorem BE {e : Eff} {most : Int} {b : Bd} (hv : al b = true) {k : Nat} {o : Ob} (hk : b.objs[k]? = some o) {z : Int} (hz : z = 1 ∨ z = 3) (h0 : b.s0.lib.count o.id = 0) (h1 : b.s1.lib.count o.id = 0)
  (hst : (b.stack.filter fun x => !iQ o.id x).length ≠ b.stack.length → e.code = 7 ∧ (b.stack.filter fun x => !iQ o.id x).length + 1 = b.stack.length) : GM e most b (eo b k (bm o z) z) := by
 have hown := (dN (aJ hv).1 hk).2.2.2
 refine zM (yL hv hk (by omega)) (fun q hq => ?_) (fun h => absurd (by rw [rH, List.length_set]) h) ?_
 ·have i2 : (bm o z).owner = o.owner := rfl
  have i1 : (bm o z).id = o.id := rfl
  have w0 := tX h0
  have w1 := tX h1
  rw [eo, jM, i1, i2, ll hown _ hq]
  have hb : ∀ q, (q = 0 ∨ q = 1) → (au (du (kl b o.id) k (bm o z)) q).lib = (au b q).lib ∧ (au (du (kl b o.id) k (bm o z)) q).empty = (au b q).empty ∧ (au (du (kl b o.id) k (bm o z)) q).life = (au b q).life := by
   intro q hq
   rcases hq with rfl | rfl
   ·exact ⟨w0, rfl, rfl⟩
   ·exact ⟨w1, rfl, rfl⟩
  split
  ·rename_i h; subst h
   rcases hz with rfl | rfl
   ·exact hb _ hq
   ·exact hb _ hq
  ·exact hb q hq
 ·rw [pe]; exact hst
theorem KA {e : Eff} {most : Int} {b : Bd} (hv : al b = true) {p : Int} (hp : p = 0 ∨ p = 1) (he : e.code = 10) (pw tn : Int) : GM e most b (sT b p pw tn most).1 := by
 have hw : ap p 0 1 = true := by simp only [ap, decide_eq_true_eq]; omega
 rw [sT, if_neg (by rw [hv, hw]; simp)]
 split
 ·exact rK hv
 rename_i hm
 split
 ·exact rK hv
 rename_i hf
 have hs : (tZ b (aK b) p pw tn).stack = b.stack := by rcases hp with rfl | rfl <;> rfl
 have ho : (tZ b (aK b) p pw tn).objs = b.objs.take (aK b) ++ [yi ((aK b : Int) + 1) p pw tn true] ++ b.objs.drop (aK b) := by
  rcases hp with rfl | rfl <;> rfl
 have hlen : (tZ b (aK b) p pw tn).objs.length = b.objs.length + 1 := by
  have : (b.objs.take (aK b)).length + (b.objs.drop (aK b)).length = b.objs.length := by rw [← List.length_append, List.take_append_drop]
  rw [ho]
  simp only [List.length_append, List.length_singleton]
  omega
 refine zM (GV hv hp pw tn (by omega)) (fun q hq => ?_) (fun _ => ⟨he, hlen, by omega⟩) fun h => absurd (by show (tZ b (aK b) p pw tn).stack.length = _; rw [hs]) h
 show (au (tZ b (aK b) p pw tn) q).lib = _ ∧ (au (tZ b (aK b) p pw tn) q).empty = _ ∧ (au (tZ b (aK b) p pw tn) q).life = _
 rcases hp with rfl | rfl <;> rcases hq with rfl | rfl <;> exact ⟨rfl, rfl, rfl⟩
theorem HW {b : Bd} (hv : al b = true) {id : Int} (h : id ∈ b.s0.field ∨ id ∈ b.s1.field ∨ id ∈ (bD b.stack).map (·.id)) : b.s0.lib.count id = 0 ∧ b.s1.lib.count id = 0 := by
 have hc := List.nodup_iff_count.1 (cB (aJ hv).1) id
 simp only [Ny, Nx, List.count_append] at hc
 rcases h with h | h | h
 ·have := List.count_pos_iff.2 h; omega
 ·have := List.count_pos_iff.2 h; omega
 ·have := List.count_pos_iff.2 h; omega
theorem J3 {cs : List CdX} {b : Bd} {x : Int} (h : onB cs b x = true) : x ∈ b.s0.field ∨ x ∈ b.s1.field := by
 rw [onB, Bool.and_eq_true, Bool.and_eq_true] at h
 obtain ⟨k, _, _, _, _, f5⟩ := mC (HQ (by rw [onB, Bool.and_eq_true, Bool.and_eq_true]; exact h : onB cs b x = true)).2.2
 have h3 := h.2.2
 rcases f5 with f5 | f5
 ·rw [f5] at h3; exact .inl (by simpa [au] using h3)
 ·rw [f5] at h3; exact .inr (by simpa [au] using h3)
theorem EU {b : Bd} {id : Int} (hi : aU b id = 0) {z : Int} (hz : z = 1 ∨ z = 3) : ∃ (k : Nat) (o : Ob), b.objs[k]? = some o ∧ o.id = id ∧ (dJ b id z).1 = eo b k (bm o z) z := by
 obtain ⟨k, e1, e2, e3, _, _⟩ := mC hi
 refine ⟨k, _, e1, e2, ?_⟩
 have hw : ap z 0 3 = true := by simp only [ap, decide_eq_true_eq]; omega
 rw [dJ, if_neg (by rw [hi, hw]; simp), if_neg (by rw [hi]; simp), e3, Int.toNat_natCast]
theorem DC {cs : List CdX} {e : Eff} {most : Int} {b : Bd} (hv : al b = true) {id : Int} (ho : onB cs b id = true) : GM e most b (dJ b id 1).1 := by
 obtain ⟨k, o, e1, e2, e3⟩ := EU (HQ ho).2.2 (z := 1) (.inl rfl)
 have hfl := J3 ho
 obtain ⟨l0, l1⟩ := HW hv (id := id) (hfl.elim .inl fun h => .inr (.inl h))
 rw [e3]
 subst e2
 refine BE hv e1 (.inl rfl) l0 l1 fun h => absurd ?_ h
 have hc := List.nodup_iff_count.1 (cB (aJ hv).1) o.id
 simp only [Ny, Nx, List.count_append] at hc
 have : (b.stack.filter fun x => !iQ o.id x) = b.stack := by
  rw [List.filter_eq_self]
  intro y hy
  cases hon : iQ o.id y
  ·rfl
  ·exfalso
   simp only [iQ, Bool.and_eq_true, decide_eq_true_eq, beq_iff_eq] at hon
   have hm : o.id ∈ (bD b.stack).map (·.id) := List.mem_map.2 ⟨y, List.mem_filter.2 ⟨hy, decide_eq_true hon.1⟩, hon.2⟩
   have := List.count_pos_iff.2 hm
   rcases hfl with h | h
   ·have := List.count_pos_iff.2 h; omega
   ·have := List.count_pos_iff.2 h; omega
 rw [this]
theorem yY {id : Int} : ∀ {l : List It}, ((bD l).map (fun x : It => x.id)).Nodup → (∃ x ∈ l, x.id = id ∧ x.trig < 0) → (l.filter fun x => !iQ id x).length + 1 = l.length
 | [], _, h => by obtain ⟨x, hx, _⟩ := h; cases hx
 | a :: l, hn, h => by
  by_cases ha : iQ id a = true
  ·have ha' : a.trig < 0 ∧ a.id = id := by simpa [iQ] using ha
   rw [bD, List.filter_cons, if_pos (decide_eq_true ha'.1), List.map_cons, List.nodup_cons] at hn
   rw [List.filter_cons, if_neg (by rw [ha]; simp)]
   have : (l.filter fun x => !iQ id x) = l := by
    rw [List.filter_eq_self]
    intro y hy
    cases hon : iQ id y
    ·rfl
    ·exfalso
     simp only [iQ, Bool.and_eq_true, decide_eq_true_eq, beq_iff_eq] at hon
     exact hn.1 (List.mem_map.2 ⟨y, List.mem_filter.2 ⟨hy, decide_eq_true hon.1⟩, hon.2.trans ha'.2.symm⟩)
   rw [this]; rfl
  ·have hx : ∃ x ∈ l, x.id = id ∧ x.trig < 0 := by
    obtain ⟨x, hx, h1, h2⟩ := h
    rcases List.mem_cons.1 hx with rfl | hx
    ·exact absurd (by simp [iQ, h1, h2]) ha
    ·exact ⟨x, hx, h1, h2⟩
   have hn' : ((bD l).map (fun x : It => x.id)).Nodup := by
    refine hn.sublist (List.Sublist.map _ ?_)
    rw [bD, bD]
    exact (List.sublist_cons_self a l).filter _
   have := yY hn' hx
   rw [List.filter_cons, if_pos (by simpa using ha), List.length_cons, List.length_cons]
   omega
theorem BF {e : Eff} {most : Int} {b : Bd} (hv : al b = true) (he : e.code = 7) {id : Int} (hx : ∃ x ∈ b.stack, x.id = id ∧ x.trig < 0) : GM e most b (cJ b id).1 := by
 have hpl := (aJ hv).1
 have hm : id ∈ (bD b.stack).map (·.id) := by
  obtain ⟨x, h1, h2, h3⟩ := hx
  exact List.mem_map.2 ⟨x, List.mem_filter.2 ⟨h1, decide_eq_true h3⟩, h2⟩
 obtain ⟨x, hxs, hxi, hxt⟩ := hx
 have hpair : (id, x.player) ∈ aI b := by
  simp only [aI, List.mem_append, ej, List.mem_map, Prod.mk.injEq]
  exact .inr (.inr ⟨x, List.mem_filter.2 ⟨hxs, decide_eq_true hxt⟩, hxi, rfl⟩)
 obtain ⟨k, o, e1, e2, e3⟩ := EY hpl hpair
 have hi : aU b id = 0 := by
  obtain ⟨_, _, hidx, _⟩ := dN hpl e1
  rw [aU, if_pos hv, ← e2, hidx, if_neg (by omega)]
 obtain ⟨l0, l1⟩ := HW hv (.inr (.inr hm))
 have hwh : (pP b id).2.1 = 4 := by
  rw [pP, if_neg (by rw [hi]; simp)]
  have hn := cB hpl
  have hc := List.nodup_iff_count.1 hn id
  simp only [Ny, Nx, List.count_append] at hc
  have hpos := List.count_pos_iff.2 hm
  obtain ⟨s, hs⟩ := yC hv e1
  rw [e2] at hs
  rw [hs]
  simp only [JP, Option.getD_some]
  unfold qG at hs
  split at hs
  ·rename_i s' hL
   obtain ⟨y, hy, _, _, j, _, x4⟩ := En hL
   have hym := List.count_pos_iff.2 (List.mem_of_getElem? x4)
   simp only [km, List.mem_cons, List.not_mem_nil, or_false] at hy
   rcases hy with rfl | rfl | rfl | rfl | rfl | rfl | rfl | rfl <;> (simp only at hym; omega)
  ·split at hs
   ·rw [← Option.some.inj hs]
   ·cases hs
 rw [cJ, if_neg (by rw [hi]; simp), if_neg (by rw [hi, hwh]; simp)]
 obtain ⟨k, o, e1, e2, e3⟩ := EU hi (z := 3) (.inr rfl)
 rw [e3]
 subst e2
 have h1 : ((bD b.stack).map (fun x : It => x.id)).Nodup := (List.nodup_append.1 (List.nodup_append.1 (cB hpl)).2.1).2.1
 exact BE hv e1 (.inr rfl) l0 l1 fun _ => ⟨he, yY h1 ⟨x, hxs, hxi, hxt⟩⟩
theorem IK {cs : List CdX} {b : Bd} {p src : Int} {e : Eff} {t : Tg} (most : Int) (hv : al b = true) (hp : p = 0 ∨ p = 1) (hs : i64 src) (hev : uw e = true) : GM e most b (tB cs b p src e t most) := by
 rw [tB]
 split
 ·exact rK hv
 rename_i hb
 obtain ⟨hw, _, hi1⟩ := BR hp hs hev hb
 obtain ⟨t1, t2, t3, t4, t5, t6, t7, t8⟩ := xk hev
 have hlife := fun q => nC hv q
 obtain ⟨n1, _⟩ := ky hev
 have hleg : e.target ≠ 0 → _ := fun h => (yS (Lt hb h)).2.2.2
 have hid : e.target ≠ 0 → idE src e t = t.id := fun h => by rw [idE, if_neg h]
 rw [aR]
 split
 ·rename_i c1
  split
  ·rename_i hpos
   exact wX hv (hi1 c1 hpos) (fun o => ⟨rfl, rfl, rfl⟩) fun o h => B5 h _
  ·have := hlife (GT p e t)
   refine wW hv hw _ (fun h => ?_) fun _ => .inr c1
   simp only [dd] at h; omega
 split
 ·rename_i c2
  exact Iu hv hw c2 n1
 split
 ·rename_i c3
  have := hlife (GT p e t)
  refine wW hv hw _ (fun _ => c3) fun h => ?_
  simp only [dd] at h; omega
 split
 ·rename_i c4
  have := hlife (GT p e t)
  refine wW hv hw _ (fun h => ?_) fun _ => .inl c4
  simp only [dd] at h; omega
 split
 ·rename_i c6
  have ht := t3 (.inr (.inl c6))
  have h0 : e.target ≠ 0 := by omega
  rw [hid h0]
  rcases hleg h0 with ⟨_, _, ho, _⟩ | ⟨_, h⟩ | ⟨h, _⟩
  ·exact DC hv ho
  ·omega
  ·omega
 split
 ·rename_i c7
  have ht := t4 c7
  have h0 : e.target ≠ 0 := by omega
  rw [hid h0]
  rcases hleg h0 with ⟨h, _⟩ | ⟨_, h⟩ | ⟨_, _, h⟩
  ·exact absurd ht h
  ·omega
  ·exact BF hv c7 h
 split
 ·rename_i c10
  exact KA hv hp c10 _ _
 split
 ·exact Is hv hw _ _
 split
 ·rename_i hon
  exact wX hv (HQ hon).2.2 (CP e) fun o h => CO h
 ·exact rK hv
end Go.Proofs.YtdhobpmnkfmcfaaGreatDoor
