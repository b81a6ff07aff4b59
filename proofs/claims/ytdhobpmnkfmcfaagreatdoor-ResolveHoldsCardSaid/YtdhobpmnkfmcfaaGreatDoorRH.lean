/- For all arguments the law ResolveHolds returns true, and its arguments read as before.
Conditions: none of ours. The package-level variable math/bits.deBruijn64tab holds what the program's own text lays in it (the card ties that). -/
import Derived.Test.YtdhobpmnkfmcfaaGreatDoorRW
import Derived.Test.YtdhobpmnkfmcfaaGreatDoorC45
namespace Go.Proofs.YtdhobpmnkfmcfaaGreatDoor
open Go Go.Sx Go.ChangeShapes Go.WideShapes Go.ChangeAt Go.RowKit
set_option maxRecDepth 100000
set_option maxHeartbeats 1000000
theorem EN (os:Os) (started:os.Started) (H:Type) (enc:TypeId × Value→H) :
  ReturnsInHanded {} Tryz.checked os 7 .any (fun w args=>(Rows.resolveHoldsSpec.pre enc Tryz.prog Tryz.f7 [] false w args∧laidMetH Tryz.prog Pn w)∧sizedMet enc Tryz.prog Tryz.f7 (OpenSpec.ofChange Rows.resolveHoldsSpec) false w args)
   (Rows.resolveHoldsSpec.post enc Tryz.prog Tryz.f7 false true false false):=by
 refine returnsInHanded_of_change_and (C:=Tryz.checked) (X:=fun w _=>laidMetH Tryz.prog Pn w) (fun _ _ _ hh h=>h.of_heap hh) own started (by kernel_rfl) Tryz.func7
  (ChangeSpec.witness_shaped (enc:=enc) (C:=Tryz.checked) (os:=os) (X:=fun w _=>laidMetH Tryz.prog Pn w) false (World.doorLaid Tryz.prog 400 os) #[xu,zB,iV 0,iV 0,.agg #[iV 0,iV 0,iV 0,iV 0,iV 0],.agg #[iV 0,iV 0],iV 0] 8 rfl
   (World.shaped_of_RefB (by kernel_rfl) (by kernel_rfl)) (by kernel_rfl) (by kernel_rfl) (by kernel_rfl) (RJ os _)) ?_
 intro W base args ds gs before hval0 hW _ _ hL _
 have hval:∀ (j:Nat) t v,Tryz.f7.params[j]?=some t→args[j]?=some v→Value.okWide Tryz.prog W .any base t v:=hval0
 have hW':=hW
 obtain ⟨p,q,hA0,hV,rfl,hfz,hnd⟩:=hW
 have hA:DataW.TrodAll enc Tryz.prog W 0 (fun _=>true) true Tryz.f7.params.toList args.toList ds p:=hA0
 rw [Tryz.params7] at hA hval
 obtain ⟨v0,v1,v2,v3,v4,v5,v6,d0,d1,d2,d3,d4,d5,d6,p0,p1,p2,p3,p4,p5,p6,rfl,rfl,rfl,h0,h1,h2,h3,h4,h5,h6⟩:=F7 hA
 obtain ⟨rfl,rfl⟩:=trodVars_none hV
 obtain ⟨k0,hk0⟩:=Jt (LV Tryz.underlying22 sOk (by kernel_rfl) (hval 0 22 v0 rfl rfl) h0)
 obtain ⟨cs1,rfl,hlen1,_,hlf1⟩:=zk 6 Ry sOk (by kernel_rfl) (by kernel_rfl) (by kernel_rfl) (hval 1 34 v1 rfl rfl) h1
 obtain ⟨w1,b1,rfl,hb1⟩:=L6 hlen1 hlf1
 obtain ⟨n2,rfl,rfl,rfl,wf2⟩:=open_int Tryz.underlying3 (hval 2 3 v2 rfl rfl) h2
 obtain ⟨n3,rfl,rfl,rfl,wf3⟩:=open_int Tryz.underlying3 (hval 3 3 v3 rfl rfl) h3
 obtain ⟨cs4,rfl,hlen4,_,hlf4⟩:=zk 5 pW sOk (by kernel_rfl) (by kernel_rfl) (by kernel_rfl) (hval 4 39 v4 rfl rfl) h4
 obtain ⟨t4,rfl⟩:=OC hlen4 hlf4
 obtain ⟨cs5,rfl,hlen5,_,hlf5⟩:=zk 5 Lq sOk (by kernel_rfl) (by kernel_rfl) (by kernel_rfl) (hval 5 41 v5 rfl rfl) h5
 obtain ⟨t5,rfl⟩:=Q3 hlen5 hlf5
 obtain ⟨n6,rfl,rfl,rfl,wf6⟩:=open_int Tryz.underlying3 (hval 6 3 v6 rfl rfl) h6
 refine Pm (tb:=4) (IA (UA hL) hk0 hb1 n2 (NU wf3) t4 t5 n6) hW' rfl rfl rfl Tryz.underlying4 Us ?_
 intro t ht
 have ht:t ∈ Tryz.f7.params.toList:=ht
 rw [Tryz.params7] at ht
 have hall:([22,34,3,3,39,41,3].all fun t=>Tryz.prog.readableRec t && Nat.blt t Tryz.prog.types.size)=true:=by kernel_rfl
 have:=List.all_eq_true.1 hall t (by simpa using ht)
 rw [Bool.and_eq_true] at this
 exact ⟨this.1,Nat.le_of_ble_eq_true this.2⟩
theorem GK:Rows.ResolveHoldsSaid :=
 OpenClaim.holds_of_wide 7 Tryz.f7 rfl rfl rfl rfl rfl rfl rfl ⟨rfl,rfl,rfl,rfl,rfl⟩ rfl rfl rfl rfl rfl (by kernel_rfl) Tryz.func7 (by kernel_rfl)
  (of_decide_eq_true (by kernel_rfl)) (by unfold Func.isWrapper;rw [if_neg (of_decide_eq_false (by kernel_rfl))];exact ⟨rfl,rfl⟩)
  (fun os started H enc _=>EN os started H enc)
theorem holds20_card:Rows.ResolveHoldsCardSaid :=
 Claim7.holds_tied_plain_at .later [] [.data] true (true,"447a777f604c810c9fd257a5c4107233ceb265284c7eca2c4142b010c32e51c5") false
  GK (fun _ h=>by cases h) (by kernel_rfl) (fun _ h=>by cases h) resolveHolds_row_tie rfl ⟨rfl,rfl⟩ (by kernel_rfl) rfl
  (fun f fn hf hfn=>by
   obtain rfl:f=7:=Option.some.inj ((show Tryz.prog.funcNamed "zeitnot/zeitnotlaw20.ResolveHolds"=some 7 by kernel_rfl).symm.trans hf) |>.symm
   obtain rfl:fn=Tryz.f7:=(Option.some.inj (Tryz.func7.symm.trans hfn)).symm
   exact ⟨by kernel_rfl,fun j t ht=>by
    rw [Tryz.params7] at ht
    have hm:t ∈ [22,34,3,3,39,41,3]:=by simpa using Array.mem_of_getElem? ht
    have hall:([22,34,3,3,39,41,3].all fun u=>!Tryz.prog.wantsStandIn u)=true:=by kernel_rfl
    exact (show Tryz.prog.wantsStandIn t=false by simpa using List.all_eq_true.1 hall t hm)⟩)
  (by kernel_rfl)
#print axioms holds20_card
end Go.Proofs.YtdhobpmnkfmcfaaGreatDoor
