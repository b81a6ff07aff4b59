/- The law BotNone, lifted. -/
import Derived.Test.YteakpllehopodaaGreatDoorG30
namespace Go.Proofs.YteakpllehopodaaGreatDoor
open Go Go.Sx Go.ChangeShapes Go.WideShapes Go.ChangeAt Go.RowKit
set_option maxRecDepth 100000
set_option maxHeartbeats 1000000
theorem DZ (os:Os) (started:os.Started) (H:Type) (enc:TypeId × Value→H) :
  ReturnsInHanded {} Tryz.checked os 3 .any (fun w args=>(Rows.botNoneSpec.pre enc Tryz.prog Tryz.f3 [] false w args∧laidMetH Tryz.prog zw w)∧sizedMet enc Tryz.prog Tryz.f3 (OpenSpec.ofChange Rows.botNoneSpec) false w args)
   (Rows.botNoneSpec.post enc Tryz.prog Tryz.f3 false true false false):=by
 refine returnsInHanded_of_change_and (C:=Tryz.checked) (X:=fun w _=>laidMetH Tryz.prog zw w) (fun _ _ _ hh h=>h.of_heap hh) Wn started (by kernel_rfl) Tryz.func3
  (ChangeSpec.witness_shaped (enc:=enc) (C:=Tryz.checked) (os:=os) (X:=fun w _=>laidMetH Tryz.prog zw w) false (World.laidAll Tryz.prog os zw) Ah 8 (World.laidAll_os _ _ _)
   (OP os _) (SD os) (SC os H enc) (SB os H enc)
   (by rw[MakeChecks.laidMetH_plain _ _ _ (by kernel_rfl)];exact Vz os _)) ?_
 intro W base args ds gs before hval0 hW _ _ hL _
 have hval:∀ (j:Nat) t v,Tryz.f3.params[j]?=some t→args[j]?=some v→Value.okWide Tryz.prog W .any base t v:=hval0
 have hW':=hW
 obtain⟨p,q,hA0,hV,rfl,hfz,hnd⟩:=hW
 have hA:DataW.TrodAll enc Tryz.prog W 0 (fun _=>true) true Tryz.f3.params.toList args.toList ds p:=hA0
 rw[Tryz.params3] at hA hval
 obtain⟨v0,v1,v2,d0,d1,d2,p0,p1,p2,rfl,rfl,rfl,h0,h1,h2⟩:=trodAll_three hA
 obtain⟨rfl,rfl⟩:=trodVars_none hV
 obtain⟨cs0,rfl,hlen0,_,hlf0⟩:=CV 8 PQ V4 (by kernel_rfl) (by kernel_rfl) (by kernel_rfl) (hval 0 29 v0 rfl rfl) h0
 obtain⟨c,cv,va,vc,lv,ks,x,y,l,rfl,hk,hx,hy,hl,hl2⟩:=JV hlen0 hlf0
 obtain⟨cs1,rfl,hlen1,_,hlf1⟩:=CV 8 MS V4 (by kernel_rfl) (by kernel_rfl) (by kernel_rfl) (hval 1 31 v1 rfl rfl) h1
 obtain⟨s0,s1,rfl⟩:=HD hlen1 hlf1
 obtain⟨n2,rfl,rfl,rfl,wf2⟩:=open_int Tryz.underlying3 (hval 2 3 v2 rfl rfl) h2
 refine MU (tb:=4) (HG (Vi hL) hk hl hl2 hx hy s0 s1 n2) hW' rfl rfl rfl Tryz.underlying4 PS ?_
 intro t ht
 have ht:t ∈ Tryz.f3.params.toList:=ht
 rw[Tryz.params3] at ht
 have hall:([29,31,3].all fun t=>Tryz.prog.readableRec t && Nat.blt t Tryz.prog.types.size)=true:=by kernel_rfl
 have:=List.all_eq_true.1 hall t (by simpa using ht)
 rw[Bool.and_eq_true] at this
 exact⟨this.1,Nat.le_of_ble_eq_true this.2⟩
end Go.Proofs.YteakpllehopodaaGreatDoor
