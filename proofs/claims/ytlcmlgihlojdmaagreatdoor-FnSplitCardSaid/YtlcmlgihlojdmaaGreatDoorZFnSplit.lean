/-
 Contracts of functions. Conditions: as each theorem says.
-/
import Derived.Test.YtlcmlgihlojdmaaGreatDoorLwFnSplit
import Derived.Test.YtlcmlgihlojdmaaGreatDoorDoor
import Derived.Test.YtlcmlgihlojdmaaGreatDoorTie
import Derived.Test.YtlcmlgihlojdmaaGreatDoorCards
namespace Go.Proofs.YtlcmlgihlojdmaaGreatDoor
open Go.AW
open Go.ChangeShapes Go.WideShapes Go.ChangeAt Go.RowKit
open Go.ChangeMaps (open_string shut_string)
set_option linter.unusedVariables false
set_option linter.unusedSimpArgs false
set_option maxRecDepth 100000 in
theorem m9_(os:Os)(started:os.Started)(H:Type)(enc:TypeId×Value→H) :
 ReturnsInHanded {} Tryz.checked os 5 .any (fun w args=>(Rows.fnSplitSpec.pre enc Tryz.prog Tryz.f5 Rows.fnSplitRow.domain false w args∧laidMetH Tryz.prog ib_ w)∧sizedMet enc Tryz.prog Tryz.f5 (OpenSpec.ofChange Rows.fnSplitSpec) false w args) (Rows.fnSplitSpec.post enc Tryz.prog Tryz.f5 false true false false):=by
 refine qz_ (s:=Rows.fnSplitSpec) started (by kernel_rfl) Tryz.func5
  (ChangeSpec.witness_shaped (enc:=enc) (C:=Tryz.checked) (os:=os) (X:=fun w _=>laidMetH Tryz.prog ib_ w) false (doorW os) #[.slice none 0 0,.slice none 0 0] 8 rfl (World.shaped_of_RefB (by kernel_rfl) (by kernel_rfl)) (by kernel_rfl) (by kernel_rfl) (by kernel_rfl) (uD_ os _)) ?_
 intro W base args ds gs before hval0 hW hL hSh
 have hval:∀(j:Nat) t v,Tryz.f5.params[j]?=some t→args[j]?=some v→Value.okWide Tryz.prog W .any base t v:=hval0
 have hW':=hW
 obtain⟨p,q,hA0,hV,rfl,hfz,hnd⟩:=hW
 have hA:DataW.TrodAll enc Tryz.prog W 0 (fun _=>true) true Tryz.f5.params.toList args.toList ds p:=hA0
 rw[Tryz.params5]at hA hval
 obtain⟨v0,vs0,d0,ds0,p0,q0,hargs,rfl,rfl,h0,r0⟩:=trodAll_cons hA
 obtain⟨v1,vs1,d1,ds1,p1,q1,rfl,rfl,rfl,h1,r1⟩:=trodAll_cons r0
 obtain⟨rfl,rfl,rfl⟩:=trodAll_nil r1
 obtain rfl:args=#[v0,v1]:=by cases args;simp_all
 obtain⟨rfl,rfl⟩:=trodVars_none hV
 have k0:=h0
 have lt0:∀x∈p0,x.block<W.heap.size:=by obtain⟨m,hm⟩:=k0;exact DataW.trod_lt m _ _ _ hm
 obtain⟨a0,len0,cap0,rfl⟩:=okWide_slice (show Tryz.prog.underlying 45=some (.slice 5) by kernel_rfl) (hval 0 45 v0 rfl rfl)
 obtain⟨x0,wf0,rep0⟩:=ro_ (fun x:List Int=>.list 0 1 (x.map cU8)) (fun _=>rfl) (vV_ W) rfl h0
 have k1:=h1
 have lt1:∀x∈p1,x.block<W.heap.size:=by obtain⟨m,hm⟩:=k1;exact DataW.trod_lt m _ _ _ hm
 obtain⟨a1,len1,cap1,rfl⟩:=okWide_slice (show Tryz.prog.underlying 45=some (.slice 5) by kernel_rfl) (hval 1 45 v1 rfl rfl)
 obtain⟨x1,wf1,rep1⟩:=ro_ (fun x:List Int=>.list 0 1 (x.map cU8)) (fun _=>rfl) (vV_ W) rfl h1
 clear hA0 hval0
 refine(ti_ (FnSplit_law x0 x1 wf0 wf1) (ph_ hL hSh) (n7_ rep0 (n7_ rep1 (uh_ _ rfl)))).mono fun e W' ⟨he,bel⟩=>?_
 subst he
 exact⟨_,rfl,_,_,_,[],_,[],hW',trodAll_mk1 (shut_bool (show Tryz.prog.underlying 4=some .bool by kernel_rfl) _),trodAll_cons_mk (Below.trod rn_ (by kernel_rfl) (of_decide_eq_true (by kernel_rfl)) k0 bel lt0) (trodAll_cons_mk (Below.trod rn_ (by kernel_rfl) (of_decide_eq_true (by kernel_rfl)) k1 bel lt1) (trodAll_mk0)),rfl,bel.frame _,fun h=>by cases h⟩
theorem pZ_:Rows.fnSplitRow.holds Tryz.pinned (OpenSpec.ofChange Rows.fnSplitSpec) :=
 OpenClaim.holds_of_wide 5 Tryz.f5 rfl rfl rfl rfl rfl rfl rfl ⟨rfl,rfl,rfl,rfl,rfl⟩ rfl rfl rfl rfl rfl (by kernel_rfl) Tryz.func5 (by kernel_rfl)
  (of_decide_eq_true (by kernel_rfl)) (by unfold Func.isWrapper;first|(rw[if_pos (by decide +kernel)];kernel_rfl)|(rw[if_neg (by decide +kernel)];exact⟨rfl,rfl⟩))
  (fun os started H enc _=>m9_ os started H enc)
theorem FnSplit_proved:Rows.FnSplitCardSaid :=
 Claim7.holds_tied_plain_at .later [] [.data,.data,.data,.data,.pinned] true Rows.fnSplitCard.stood.harness false
  pZ_ (fun _ h=>by cases h) (by kernel_rfl) (fun _ h=>by cases h) fnSplit_row_tie rfl ⟨rfl,rfl⟩ (by kernel_rfl) rfl
  (fun f fn hf hfn=>by
    obtain rfl:f=5:=Option.some.inj ((show Tryz.prog.funcNamed "loop.example/g00874/laws.FnSplit"=some 5 by kernel_rfl).symm.trans hf) |>.symm
    obtain rfl:fn=Tryz.f5:=(Option.some.inj (Tryz.func5.symm.trans hfn)).symm
    exact⟨by kernel_rfl,fun j t ht=>by
     have hall:∀t∈Tryz.f5.params.toList,Tryz.prog.wantsStandIn t=false:=by rw[Tryz.params5];exact of_decide_eq_true (by kernel_rfl)
     exact hall t (by have:=Array.mem_of_getElem? ht;simpa using this)⟩)
  (by kernel_rfl)
end Go.Proofs.YtlcmlgihlojdmaaGreatDoor
