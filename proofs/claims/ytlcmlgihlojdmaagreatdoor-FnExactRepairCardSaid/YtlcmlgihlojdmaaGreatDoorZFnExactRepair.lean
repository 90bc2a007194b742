/-
 Contracts of functions. Conditions: as each theorem says.
-/
import Derived.Test.YtlcmlgihlojdmaaGreatDoorLwFnExactRepair
import Derived.Test.YtlcmlgihlojdmaaGreatDoorDoor
import Derived.Test.YtlcmlgihlojdmaaGreatDoorTie
import Derived.Test.YtlcmlgihlojdmaaGreatDoorCards
namespace Go.Proofs.YtlcmlgihlojdmaaGreatDoor
open Go.AW
open Go.ChangeShapes Go.WideShapes Go.ChangeAt Go.RowKit
open Go.ChangeMaps (open_string shut_string)
set_option linter.unusedVariables false
set_option linter.unusedSimpArgs false
set_option maxRecDepth 100000 in
theorem FnExactRepair_lifted(os:Os)(started:os.Started)(H:Type)(enc:TypeId×Value→H) :
 ReturnsInHanded {} Tryz.checked os 6 .any (fun w args=>(Rows.fnExactRepairSpec.pre enc Tryz.prog Tryz.f6 Rows.fnExactRepairRow.domain false w args∧laidMetH Tryz.prog io_ w)∧sizedMet enc Tryz.prog Tryz.f6 (OpenSpec.ofChange Rows.fnExactRepairSpec) false w args) (Rows.fnExactRepairSpec.post enc Tryz.prog Tryz.f6 false true false false):=by
 refine rt_ (s:=Rows.fnExactRepairSpec) started (by kernel_rfl) Tryz.func6
  (ChangeSpec.witness_shaped (enc:=enc) (C:=Tryz.checked) (os:=os) (X:=fun w _=>laidMetH Tryz.prog io_ w) false (doorW os) #[.agg #[.int .i64 0,.slice none 0 0]] 8 rfl (World.shaped_of_RefB (by kernel_rfl) (by kernel_rfl)) (by kernel_rfl) (by kernel_rfl) (by kernel_rfl) (xo_ os _)) ?_
 intro W base args ds gs before hval0 hW hL hSh
 have hval:∀(j:Nat) t v,Tryz.f6.params[j]?=some t→args[j]?=some v→Value.okWide Tryz.prog W .any base t v:=hval0
 have hW':=hW
 obtain⟨p,q,hA0,hV,rfl,hfz,hnd⟩:=hW
 have hA:DataW.TrodAll enc Tryz.prog W 0 (fun _=>true) true Tryz.f6.params.toList args.toList ds p:=hA0
 rw[Tryz.params6]at hA hval
 obtain⟨v0,vs0,d0,ds0,p0,q0,hargs,rfl,rfl,h0,r0⟩:=trodAll_cons hA
 obtain⟨rfl,rfl,rfl⟩:=trodAll_nil r0
 obtain rfl:args=#[v0]:=by cases args;simp_all
 obtain⟨rfl,rfl⟩:=trodVars_none hV
 have k0:=h0
 have lt0:∀x∈p0,x.block<W.heap.size:=by obtain⟨m,hm⟩:=k0;exact DataW.trod_lt m _ _ _ hm
 obtain⟨_,_,hu0,_⟩:=cd_ mi_
 obtain⟨cs0,rfl,_⟩:=okWide_struct hu0 (hval 0 24 v0 rfl rfl)
 obtain⟨x0,wf0,rep0⟩:=zo_ (Dq_ W) h0
 clear hA0 hval0
 refine(uV_ (FnExactRepair_law x0 wf0) (q1_ hL hSh) (t6_ rep0 (jM_ _ rfl))).mono fun e W' ⟨he,bel⟩=>?_
 subst he
 exact⟨_,rfl,_,_,_,[],_,[],hW',trodAll_mk1 (shut_bool (show Tryz.prog.underlying 4=some .bool by kernel_rfl) _),trodAll_cons_mk (Below.trod zn_ (by kernel_rfl) (of_decide_eq_true (by kernel_rfl)) k0 bel lt0) (trodAll_mk0),rfl,bel.frame _,fun h=>by cases h⟩
theorem FnExactRepair_over:Rows.fnExactRepairRow.holds Tryz.pinned (OpenSpec.ofChange Rows.fnExactRepairSpec) :=
 OpenClaim.holds_of_wide 6 Tryz.f6 rfl rfl rfl rfl rfl rfl rfl ⟨rfl,rfl,rfl,rfl,rfl⟩ rfl rfl rfl rfl rfl (by kernel_rfl) Tryz.func6 (by kernel_rfl)
  (of_decide_eq_true (by kernel_rfl)) (by unfold Func.isWrapper;first|(rw[if_pos (by decide +kernel)];kernel_rfl)|(rw[if_neg (by decide +kernel)];exact⟨rfl,rfl⟩))
  (fun os started H enc _=>FnExactRepair_lifted os started H enc)
theorem FnExactRepair_proved:Rows.FnExactRepairCardSaid :=
 Claim7.holds_tied_plain_at .later [] [.data,.data,.data,.data,.pinned] true Rows.fnExactRepairCard.stood.harness false
  FnExactRepair_over (fun _ h=>by cases h) (by kernel_rfl) (fun _ h=>by cases h) fnExactRepair_row_tie rfl ⟨rfl,rfl⟩ (by kernel_rfl) rfl
  (fun f fn hf hfn=>by
    obtain rfl:f=6:=Option.some.inj ((show Tryz.prog.funcNamed "loop.example/g00874/laws.FnExactRepair"=some 6 by kernel_rfl).symm.trans hf) |>.symm
    obtain rfl:fn=Tryz.f6:=(Option.some.inj (Tryz.func6.symm.trans hfn)).symm
    exact⟨by kernel_rfl,fun j t ht=>by
     have hall:∀t∈Tryz.f6.params.toList,Tryz.prog.wantsStandIn t=false:=by rw[Tryz.params6];exact of_decide_eq_true (by kernel_rfl)
     exact hall t (by have:=Array.mem_of_getElem? ht;simpa using this)⟩)
  (by kernel_rfl)
end Go.Proofs.YtlcmlgihlojdmaaGreatDoor
