/-
 Contracts of functions. Conditions: as each theorem says.
-/
import Derived.Test.YtlcmlgihlojdmaaGreatDoorBase
import Derived.Test.YtlcmlgihlojdmaaGreatDoorAwC
import Derived.Test.YtlcmlgihlojdmaaGreatDoorRows
import Derived.WalkKit
import Derived.ProofKit
import Derived.OpenShut
import Derived.ShutString
import Derived.ChangeOld
import Derived.Below
import Derived.LaidMore
import Derived.MakeChecks
import Derived.Lib.LaidTab
import Derived.Stop.Joined
import Derived.Stop.LaidErr
import Derived.Shelf.Vars
namespace Go.Proofs.YtlcmlgihlojdmaaGreatDoor
open Go.AW
open Go.ChangeShapes Go.WideShapes Go.ChangeAt Go.RowKit
set_option linter.unusedVariables false
set_option linter.unusedSimpArgs false
set_option maxRecDepth 100000
theorem Bc_:ownKnob Tryz.prog.godebug=none:=by kernel_rfl
theorem rn_:laidOutB Tryz.prog=true:=by kernel_rfl
def ib_:List (String×DataW Unit):=[("math/bits.deBruijn32tab",Rows.laid_math_bits_deBruijn32tab),("math/bits.deBruijn64tab",Rows.laid_math_bits_deBruijn64tab),("internal/strconv.uint64pow10",Rows.laid_internal_strconv_uint64pow10),("unicode/utf8.acceptRanges",Rows.laid_unicode_utf8_acceptRanges),("unicode/utf8.first",Rows.laid_unicode_utf8_first)]
theorem Be_:Tryz.prog.globalNamed "internal/strconv.uint64pow10"=some 1:=by kernel_rfl
theorem Au_:(Tryz.prog.globals[1]?).map (·.type)=some 264:=by kernel_rfl
theorem AL_:Tryz.prog.underlying 264=some (.array 20 193):=by kernel_rfl
theorem Ax_:Tryz.prog.underlying 193=some (.int .u64):=by kernel_rfl
theorem xy_:Rows.laid_internal_strconv_uint64pow10 (H:=Unit)=Lib.tabData .u64 Lib.pow10Tab:=by kernel_rfl
theorem rl_{P:Program}{W:World}{x:String×DataW Unit}{l:List (String×DataW Unit)}(h:laidMet P (x::l) W):laidMet P l W:=h.tail
theorem qG_{W:World}(h:laidMetH Tryz.prog ib_ W):Lib.TabIs Tryz.prog W "internal/strconv.uint64pow10" .u64 Lib.pow10Tab:=by
 rw[MakeChecks.laidMetH_plain _ _ _ (by kernel_rfl)]at h
 have h2:=rl_ (rl_ h)
 rw[xy_]at h2
 exact Lib.tabIs_of_head Be_ Au_ AL_ Ax_ (by kernel_rfl) (by kernel_rfl) h2
theorem xF_:((begin Tryz.prog (fun _ _=>0) default).world.heap[0]?).bind Obj.row?=some (#[.int .i64 0],3):=by kernel_rfl
theorem wO_:Tryz.prog.globalNamed "internal/bytealg.MaxLen"=some 0:=by kernel_rfl
theorem ph_{W:World}(h:laidMetH Tryz.prog ib_ W)(hs:W.ShapedOpen Tryz.prog):cn_ Tryz.prog (Sit.all W):=by
 constructor
 ·intro p hp g hg
  simp only[pt_,List.mem_singleton]at hp
  subst hp
  have ht:=qG_ h
  unfold Lib.TabIs World.var? at ht
  rw[hg]at ht
  simp only[Option.bind_some]at ht
  simp only[Sit.all]
  split at ht
  ·rename_i cs E fr e
   rw[e];exact ht
  ·cases ht
 ·intro g hg
  rw[wO_]at hg
  simp only[Option.some.injEq]at hg
  subst hg
  obtain⟨m,hm⟩:=cell_of_shapedOpen_int (k:=.i64) hs (of_decide_eq_true (by kernel_rfl)) xF_ rfl (by kernel_rfl) (by kernel_rfl) (by kernel_rfl)
  simp only[World.cell?]at hm
  split at hm
  ·rename_i cs E fr e
   refine⟨cs,m,by simp[Sit.all,e],?_⟩
   simpa using hm
  ·simp at hm
theorem qz_{H:Type}{enc:TypeId×Value→H}{os:Os}{f:FuncId}{fn:Func}{s:ChangeSpec}{conds:List PathCond}{b2 b3 b4:Bool}
 (started:os.Started) (noInit:Tryz.prog.inits.idxOf? f=none) (hfn:Tryz.prog.funcs[f]?=some fn)
 (witness:∃(w:World) (tape:Tape) (i:Input),w.os=os∧(w.forCall tape i).Shaped Tryz.prog∧i.vars=[]∧Input.okWide Tryz.prog (w.forCall tape i) .any w.heap.size f i ∧
   ((s.pre enc Tryz.prog fn conds false (w.forCall tape i).memory i.args∧laidMetH Tryz.prog ib_ (w.forCall tape i).memory)∧sizedMet enc Tryz.prog fn (OpenSpec.ofChange s) false (w.forCall tape i).memory i.args)∧Assume.holds {} Tryz.prog (lone (Frame.enter Tryz.prog f i.args .normal) [] (w.forCall tape i)))
 (contract:∀(W:World) (base:Nat) (args:Array Value) (ds gs:List (DataW H)) (before:List MemPlace),
   (∀(j:Nat) t v,fn.params[j]?=some t→args[j]?=some v→Value.okWide Tryz.prog W .any base t v) →
   DataW.Whole enc Tryz.prog fn.params.toList s.vars false W args.toList ds gs before→laidMetH Tryz.prog ib_ W→W.ShapedOpen Tryz.prog →
   Calls Tryz.prog f args W fun e W'=>∃v,e=.returned v∧s.post enc Tryz.prog fn false b2 b3 b4 W args v W') :
 ReturnsInHanded {} Tryz.checked os f .any (fun w args=>(s.pre enc Tryz.prog fn conds false w args∧laidMetH Tryz.prog ib_ w)∧sizedMet enc Tryz.prog fn (OpenSpec.ofChange s) false w args) (s.post enc Tryz.prog fn false b2 b3 b4):=by
 refine returnsInHanded_of_calls Bc_ started noInit witness ?_
 intro w tape i _ hsh _ hok hpre _
 obtain⟨_,_,_,fn2,hfn2,_,_,_,_,hval⟩:=hok
 obtain rfl:fn2=fn:=Option.some.inj (hfn2.symm.trans hfn)
 obtain⟨⟨⟨ds,gs,before,hw,_⟩,hx⟩,_⟩:=hpre
 refine(contract (w.forCall tape i) w.heap.size i.args ds gs before hval (DataW.Whole.of_heap (by rfl) hw) (hx.of_heap (by rfl)) hsh).mono fun e W' ⟨v,he,hp⟩=>?_
 subst he
 exact ChangeSpec.post_blind hp
noncomputable def doorW (os:Os):World :=
 let w0:=World.doorLaid Tryz.prog 4000 os
 { w0 with heap:=w0.heap.modify 2 fun
  | .cells _ t frozen=>.cells (Go.Pinned.utf8FirstZ.map fun(n:Nat)=>Value.int .u8 (Int.ofNat n)).toArray t frozen
  | o=>o }
theorem uD_(os:Os)(args:Array Value):laidMetH Tryz.prog ib_ ((doorW os).forCall (fun _ _=>0) ⟨#[],args,[]⟩).memory:=by
 rw[MakeChecks.laidMetH_plain _ _ _ (by kernel_rfl)]
 exact laidMet_of_run' 8 (by kernel_rfl) (by kernel_rfl)
end Go.Proofs.YtlcmlgihlojdmaaGreatDoor
