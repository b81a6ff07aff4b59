/- For all arguments the law ResolveTops returns true, and its arguments read as before.
Conditions: none of ours. The package-level variable math/bits.deBruijn64tab holds what the program's own text lays in it (the card ties that). -/
import Derived.Test.YtdhobpmnkfmcfaaGreatDoorRW
import Derived.Test.YtdhobpmnkfmcfaaGreatDoorC93
namespace Go.Proofs.YtdhobpmnkfmcfaaGreatDoor
open Go Go.Sx Go.ChangeShapes Go.WideShapes Go.ChangeAt Go.RowKit
set_option maxRecDepth 100000
set_option maxHeartbeats 1000000
theorem F4 (os:Os) (started:os.Started) (H:Type) (enc:TypeId × Value→H) :
  ReturnsInHanded {} Tryz.checked os 5 .any (fun w args=>(Rows.resolveTopsSpec.pre enc Tryz.prog Tryz.f5 [] false w args∧laidMetH Tryz.prog PI w)∧sizedMet enc Tryz.prog Tryz.f5 (OpenSpec.ofChange Rows.resolveTopsSpec) false w args)
   (Rows.resolveTopsSpec.post enc Tryz.prog Tryz.f5 false true false false):=by
 refine returnsInHanded_of_change_and (C:=Tryz.checked) (X:=fun w _=>laidMetH Tryz.prog PI w) (fun _ _ _ hh h=>h.of_heap hh) own started (by kernel_rfl) Tryz.func5
  (ChangeSpec.witness_shaped (enc:=enc) (C:=Tryz.checked) (os:=os) (X:=fun w _=>laidMetH Tryz.prog PI w) false (World.doorLaid Tryz.prog 400 os) #[xU,zB,iV 0] 8 rfl
   (World.shaped_of_RefB (by kernel_rfl) (by kernel_rfl)) (by kernel_rfl) (by kernel_rfl) (by kernel_rfl) (SI os _)) ?_
 intro W base args ds gs before hval0 hW _ _ hL _
 have hval:∀ (j:Nat) t v,Tryz.f5.params[j]?=some t→args[j]?=some v→Value.okWide Tryz.prog W .any base t v:=hval0
 have hW':=hW
 obtain⟨p,q,hA0,hV,rfl,hfz,hnd⟩:=hW
 have hA:DataW.TrodAll enc Tryz.prog W 0 (fun _=>true) true Tryz.f5.params.toList args.toList ds p:=hA0
 rw[Tryz.params5] at hA hval
 obtain⟨v0,v1,v2,d0,d1,d2,p0,p1,p2,rfl,rfl,rfl,h0,h1,h2⟩:=F3 hA
 obtain⟨rfl,rfl⟩:=trodVars_none hV
 obtain⟨k0,hk0⟩:=JB (MC Tryz.underlying22 sOk (by kernel_rfl) (hval 0 22 v0 rfl rfl) h0)
 obtain⟨cs1,rfl,hlen1,_,hlf1⟩:=NP 6 Sr sOk (by kernel_rfl) (by kernel_rfl) (by kernel_rfl) (hval 1 34 v1 rfl rfl) h1
 obtain⟨w1,b1,rfl,hb1⟩:=MI hlen1 hlf1
 obtain⟨n2,rfl,rfl,rfl,wf2⟩:=open_int Tryz.underlying3 (hval 2 3 v2 rfl rfl) h2
 refine PH (tb:=4) (Jr (UX hL) hk0 hb1 n2) hW' rfl rfl rfl Tryz.underlying4 UQ ?_
 intro t ht
 have ht:t ∈ Tryz.f5.params.toList:=ht
 rw[Tryz.params5] at ht
 have hall:([22,34,3].all fun t=>Tryz.prog.readableRec t && Nat.blt t Tryz.prog.types.size)=true:=by kernel_rfl
 have:=List.all_eq_true.1 hall t (by simpa using ht)
 rw[Bool.and_eq_true] at this
 exact⟨this.1,Nat.le_of_ble_eq_true this.2⟩
theorem Hv:Rows.ResolveTopsSaid :=
 OpenClaim.holds_of_wide 5 Tryz.f5 rfl rfl rfl rfl rfl rfl rfl ⟨rfl,rfl,rfl,rfl,rfl⟩ rfl rfl rfl rfl rfl (by kernel_rfl) Tryz.func5 (by kernel_rfl)
  (of_decide_eq_true (by kernel_rfl)) (by unfold Func.isWrapper;rw[if_neg (of_decide_eq_false (by kernel_rfl))];exact⟨rfl,rfl⟩)
  (fun os started H enc _=>F4 os started H enc)
theorem tops20_card:Rows.ResolveTopsCardSaid :=
 Claim7.holds_tied_plain_at .later [] [.data] true (true,"447a777f604c810c9fd257a5c4107233ceb265284c7eca2c4142b010c32e51c5") false
  Hv (fun _ h=>by cases h) (by kernel_rfl) (fun _ h=>by cases h) resolveTops_row_tie rfl ⟨rfl,rfl⟩ (by kernel_rfl) rfl
  (fun f fn hf hfn=>by
   obtain rfl:f=5:=Option.some.inj ((show Tryz.prog.funcNamed "zeitnot/zeitnotlaw20.ResolveTops"=some 5 by kernel_rfl).symm.trans hf) |>.symm
   obtain rfl:fn=Tryz.f5:=(Option.some.inj (Tryz.func5.symm.trans hfn)).symm
   exact⟨by kernel_rfl,fun j t ht=>by
    rw[Tryz.params5] at ht
    have hm:t ∈ [22,34,3]:=by simpa using Array.mem_of_getElem? ht
    have hall:([22,34,3].all fun u=>!Tryz.prog.wantsStandIn u)=true:=by kernel_rfl
    exact (show Tryz.prog.wantsStandIn t=false by simpa using List.all_eq_true.1 hall t hm)⟩)
  (by kernel_rfl)
#print axioms tops20_card
end Go.Proofs.YtdhobpmnkfmcfaaGreatDoor
