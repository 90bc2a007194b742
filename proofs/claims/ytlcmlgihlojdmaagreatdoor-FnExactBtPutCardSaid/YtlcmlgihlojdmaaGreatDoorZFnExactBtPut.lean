/-
 Contracts of functions. Conditions: as each theorem says.
-/
import Derived.Test.YtlcmlgihlojdmaaGreatDoorLwFnExactBtPut
import Derived.Test.YtlcmlgihlojdmaaGreatDoorDoor
import Derived.Test.YtlcmlgihlojdmaaGreatDoorTie
import Derived.Test.YtlcmlgihlojdmaaGreatDoorCards
namespace Go.Proofs.YtlcmlgihlojdmaaGreatDoor
open Go.AW
open Go.ChangeShapes Go.WideShapes Go.ChangeAt Go.RowKit
open Go.ChangeMaps (open_string shut_string)
set_option linter.unusedVariables false
set_option linter.unusedSimpArgs false
set_option maxRecDepth 100000 in
theorem FnExactBtPut_lifted(os:Os)(started:os.Started)(H:Type)(enc:TypeId×Value→H) :
 ReturnsInHanded {} Tryz.checked os 3 .any (fun w args=>(Rows.fnExactBtPutSpec.pre enc Tryz.prog Tryz.f3 Rows.fnExactBtPutRow.domain false w args∧laidMetH Tryz.prog iu_ w)∧sizedMet enc Tryz.prog Tryz.f3 (OpenSpec.ofChange Rows.fnExactBtPutSpec) false w args) (Rows.fnExactBtPutSpec.post enc Tryz.prog Tryz.f3 false true false false):=by
 refine rm_ (s:=Rows.fnExactBtPutSpec) started (by kernel_rfl) Tryz.func3
  (ChangeSpec.witness_shaped (enc:=enc) (C:=Tryz.checked) (os:=os) (X:=fun w _=>laidMetH Tryz.prog iu_ w) false (doorW os) #[.agg #[.int .i64 0,.slice none 0 0],.string ⟨#[]⟩,.string ⟨#[]⟩] 8 rfl (World.shaped_of_RefB (by kernel_rfl) (by kernel_rfl)) (by kernel_rfl) (by kernel_rfl) (by kernel_rfl) (wa_ os _)) ?_
 intro W base args ds gs before hval0 hW hL hSh
 have hval:∀(j:Nat) t v,Tryz.f3.params[j]?=some t→args[j]?=some v→Value.okWide Tryz.prog W .any base t v:=hval0
 have hW':=hW
 obtain⟨p,q,hA0,hV,rfl,hfz,hnd⟩:=hW
 have hA:DataW.TrodAll enc Tryz.prog W 0 (fun _=>true) true Tryz.f3.params.toList args.toList ds p:=hA0
 rw[Tryz.params3]at hA hval
 obtain⟨v0,vs0,d0,ds0,p0,q0,hargs,rfl,rfl,h0,r0⟩:=trodAll_cons hA
 obtain⟨v1,vs1,d1,ds1,p1,q1,rfl,rfl,rfl,h1,r1⟩:=trodAll_cons r0
 obtain⟨v2,vs2,d2,ds2,p2,q2,rfl,rfl,rfl,h2,r2⟩:=trodAll_cons r1
 obtain⟨rfl,rfl,rfl⟩:=trodAll_nil r2
 obtain rfl:args=#[v0,v1,v2]:=by cases args;simp_all
 obtain⟨rfl,rfl⟩:=trodVars_none hV
 have k0:=h0
 have lt0:∀x∈p0,x.block<W.heap.size:=by obtain⟨m,hm⟩:=k0;exact DataW.trod_lt m _ _ _ hm
 obtain⟨_,_,hu0,_⟩:=cg_ mC_
 obtain⟨cs0,rfl,_⟩:=okWide_struct hu0 (hval 0 24 v0 rfl rfl)
 obtain⟨x0,wf0,rep0⟩:=yQ_ (CO_ W) h0
 have k1:=h1
 have lt1:∀x∈p1,x.block<W.heap.size:=by obtain⟨m,hm⟩:=k1;exact DataW.trod_lt m _ _ _ hm
 obtain⟨s1,rfl,_,_,_⟩:=open_string (show Tryz.prog.underlying 9=some .string by kernel_rfl) (hval 1 9 v1 rfl rfl) h1
 obtain⟨x1,wf1,rep1⟩:=rY_ (fun x:ByteArray=>.val (.string x)) (fun _=>rfl) (vT_ W) rfl k1
 have k2:=h2
 have lt2:∀x∈p2,x.block<W.heap.size:=by obtain⟨m,hm⟩:=k2;exact DataW.trod_lt m _ _ _ hm
 obtain⟨s2,rfl,_,_,_⟩:=open_string (show Tryz.prog.underlying 9=some .string by kernel_rfl) (hval 2 9 v2 rfl rfl) h2
 obtain⟨x2,wf2,rep2⟩:=rY_ (fun x:ByteArray=>.val (.string x)) (fun _=>rfl) (vT_ W) rfl k2
 clear hA0 hval0
 refine(uv_ (FnExactBtPut_law x0 x1 x2 wf0 wf1 wf2) (qG_ hL hSh) (kF_ rep0 (kF_ rep1 (kF_ rep2 (j4_ _ rfl))))).mono fun e W' ⟨he,bel⟩=>?_
 subst he
 exact⟨_,rfl,_,_,_,[],_,[],hW',trodAll_mk1 (shut_bool (show Tryz.prog.underlying 4=some .bool by kernel_rfl) _),trodAll_cons_mk (Below.trod oi_ (by kernel_rfl) (of_decide_eq_true (by kernel_rfl)) k0 bel lt0) (trodAll_cons_mk (Below.trod oi_ (by kernel_rfl) (of_decide_eq_true (by kernel_rfl)) k1 bel lt1) (trodAll_cons_mk (Below.trod oi_ (by kernel_rfl) (of_decide_eq_true (by kernel_rfl)) k2 bel lt2) (trodAll_mk0))),rfl,bel.frame _,fun h=>by cases h⟩
theorem FnExactBtPut_over:Rows.fnExactBtPutRow.holds Tryz.pinned (OpenSpec.ofChange Rows.fnExactBtPutSpec) :=
 OpenClaim.holds_of_wide 3 Tryz.f3 rfl rfl rfl rfl rfl rfl rfl ⟨rfl,rfl,rfl,rfl,rfl⟩ rfl rfl rfl rfl rfl (by kernel_rfl) Tryz.func3 (by kernel_rfl)
  (of_decide_eq_true (by kernel_rfl)) (by unfold Func.isWrapper;first|(rw[if_pos (by decide +kernel)];kernel_rfl)|(rw[if_neg (by decide +kernel)];exact⟨rfl,rfl⟩))
  (fun os started H enc _=>FnExactBtPut_lifted os started H enc)
theorem FnExactBtPut_proved:Rows.FnExactBtPutCardSaid :=
 Claim7.holds_tied_plain_at .later [] [.data,.data,.data,.data,.pinned] true Rows.fnExactBtPutCard.stood.harness false
  FnExactBtPut_over (fun _ h=>by cases h) (by kernel_rfl) (fun _ h=>by cases h) fnExactBtPut_row_tie rfl ⟨rfl,rfl⟩ (by kernel_rfl) rfl
  (fun f fn hf hfn=>by
    obtain rfl:f=3:=Option.some.inj ((show Tryz.prog.funcNamed "loop.example/g00874/laws.FnExactBtPut"=some 3 by kernel_rfl).symm.trans hf) |>.symm
    obtain rfl:fn=Tryz.f3:=(Option.some.inj (Tryz.func3.symm.trans hfn)).symm
    exact⟨by kernel_rfl,fun j t ht=>by
     have hall:∀t∈Tryz.f3.params.toList,Tryz.prog.wantsStandIn t=false:=by rw[Tryz.params3];exact of_decide_eq_true (by kernel_rfl)
     exact hall t (by have:=Array.mem_of_getElem? ht;simpa using this)⟩)
  (by kernel_rfl)
end Go.Proofs.YtlcmlgihlojdmaaGreatDoor
