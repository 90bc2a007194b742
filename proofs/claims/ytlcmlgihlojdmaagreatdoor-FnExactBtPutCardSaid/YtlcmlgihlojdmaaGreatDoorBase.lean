/-
 The data types of the laws arguments, and that the arguments of a row, read as data, are such data. No conditions.
-/
import Derived.Test.YtlcmlgihlojdmaaGreatDoorProg
import Derived.Test.YtlcmlgihlojdmaaGreatDoorAwB
import Derived.KernelRfl
namespace Go.Proofs.YtlcmlgihlojdmaaGreatDoor
open Tryz (prog)
open List
open Go.AW
set_option linter.unusedVariables false
structure am_ where
 Leaf:Bool
 Keys:List ByteArray
 Vals:List ByteArray
 Kids:List Int
def am_.cells(x:am_):List AV:=[.val (.bool x.Leaf),.list 0 1 (x.Keys.map ag_),.list 0 1 (x.Vals.map ag_),.list 0 1 (x.Kids.map ay_)]
def am_.wf(x:am_):Prop:=(fun _:Bool=>True) x.Leaf∧(eL_ dX_) x.Keys∧(eL_ dX_) x.Vals∧(eL_ hE_) x.Kids∧True
def am_.sz(x:am_):Nat:=(az_ ByteArray.size) x.Keys+(az_ ByteArray.size) x.Vals+(az_ (fun _=>0)) x.Kids
structure ab_ where
 Id:Int
 Page:am_
def ab_.cells(x:ab_):List AV:=[.val (.int .i64 x.Id),.val (.bool x.Page.Leaf),.list 0 1 (x.Page.Keys.map ag_),.list 0 1 (x.Page.Vals.map ag_),.list 0 1 (x.Page.Kids.map ay_)]
def ab_.wf(x:ab_):Prop:=hE_ x.Id∧am_.wf x.Page∧True
def ab_.sz(x:ab_):Nat:=am_.sz x.Page
structure af_ where
 Root:Int
 Slots:List ab_
def af_.cells(x:af_):List AV:=[.val (.int .i64 x.Root),.list 0 5 (x.Slots.map ab_.cells)]
def af_.wf(x:af_):Prop:=hE_ x.Root∧(eL_ ab_.wf) x.Slots∧True
def af_.sz(x:af_):Nat:=(az_ ab_.sz) x.Slots
theorem af_.sz_Slots{x:af_}{b:Nat}(h:af_.sz x≤b):(az_ ab_.sz) x.Slots≤b:=by unfold af_.sz at h;omega
structure hT_ where
 Kind:Int
 Name:ByteArray
 Subs:List ByteArray
 Value:ByteArray
def hT_.cells(x:hT_):List AV:=[.val (.int .i64 x.Kind),.val (.string x.Name),.list 0 1 (x.Subs.map ag_),.val (.string x.Value)]
def hT_.wf(x:hT_):Prop:=hE_ x.Kind∧dX_ x.Name∧(eL_ dX_) x.Subs∧dX_ x.Value∧True
def hT_.sz(x:hT_):Nat:=ByteArray.size x.Name+(az_ ByteArray.size) x.Subs+ByteArray.size x.Value
structure hU_ where
 Key:ByteArray
 Value:ByteArray
def hU_.cells(x:hU_):List AV:=[.val (.string x.Key),.val (.string x.Value)]
def hU_.wf(x:hU_):Prop:=dX_ x.Key∧dX_ x.Value∧True
def hU_.sz(x:hU_):Nat:=ByteArray.size x.Key+ByteArray.size x.Value
theorem Db_(W:World):Rd prog W 4 xJ_ (fun _:Bool=>True):=zg_ (by kernel_rfl)
theorem vT_(W:World):Rd prog W 9 ag_ dX_:=t2_ (by kernel_rfl)
theorem z8_:∃i,prog.info? 9=some i∧i.size=1:=nP_ (by kernel_rfl)
theorem xc_(W:World):Rd prog W 35 (fun xs:List ByteArray=>eW_ 1 ag_ xs) (eL_ dX_):=by
 obtain⟨i,h1,h2⟩:=z8_
 exact mv_ (by kernel_rfl) h1 h2 (by decide) (fun _=>rfl) (vT_ W)
theorem wF_(W:World):Rd prog W 2 ay_ hE_:=AB_ (by kernel_rfl)
theorem Al_:∃i,prog.info? 2=some i∧i.size=1:=nP_ (by kernel_rfl)
theorem CK_(W:World):Rd prog W 49 (fun xs:List Int=>eW_ 1 ay_ xs) (eL_ hE_):=by
 obtain⟨i,h1,h2⟩:=Al_
 exact mv_ (by kernel_rfl) h1 h2 (by decide) (fun _=>rfl) (wF_ W)
theorem pX_:eN_ prog 97 0=some (0,4,1):=by kernel_rfl
theorem wq_:eN_ prog 97 1=some (1,35,1):=by kernel_rfl
theorem wG_:eN_ prog 97 2=some (2,35,1):=by kernel_rfl
theorem vE_:eN_ prog 97 3=some (3,49,1):=by kernel_rfl
theorem Cf_(W:World):Rd prog W 97 am_.cells am_.wf:=by
 intro H enc fuel cs d ps hr
 obtain⟨fs,_,hfs,_⟩:=cg_ pX_
 have hcl:prog.cellsOf 97=4:=by kernel_rfl
 obtain⟨xs,n,_,_,hlen,hxl,hall⟩:=DataW.trod_struct hfs hr
 rw[hcl]at hlen
 obtain⟨fs0,f0,u0,v0,o0,y0,z0⟩:=cg_ pX_
 rw[hfs]at u0;simp only[Option.some.injEq,TypeDesc.struct.injEq]at u0;subst u0
 obtain⟨x0,w0,r0⟩:=e1_ (sz:=1) hall hxl v0 o0 (by rw[y0];exact z0) (by rw[y0];exact Db_ W)
 obtain⟨fs1,f1,u1,v1,o1,y1,z1⟩:=cg_ wq_
 rw[hfs]at u1;simp only[Option.some.injEq,TypeDesc.struct.injEq]at u1;subst u1
 obtain⟨x1,w1,r1⟩:=e1_ (sz:=1) hall hxl v1 o1 (by rw[y1];exact z1) (by rw[y1];exact xc_ W)
 obtain⟨fs2,f2,u2,v2,o2,y2,z2⟩:=cg_ wG_
 rw[hfs]at u2;simp only[Option.some.injEq,TypeDesc.struct.injEq]at u2;subst u2
 obtain⟨x2,w2,r2⟩:=e1_ (sz:=1) hall hxl v2 o2 (by rw[y2];exact z2) (by rw[y2];exact xc_ W)
 obtain⟨fs3,f3,u3,v3,o3,y3,z3⟩:=cg_ vE_
 rw[hfs]at u3;simp only[Option.some.injEq,TypeDesc.struct.injEq]at u3;subst u3
 obtain⟨x3,w3,r3⟩:=e1_ (sz:=1) hall hxl v3 o3 (by rw[y3];exact z3) (by rw[y3];exact CK_ W)
 refine⟨⟨x0,x1,x2,x3⟩,⟨w0,w1,w2,w3,trivial⟩,?_⟩
 have s4:ae_ (Sit.all W) [] (cs.drop 4):=j4_ _ (drop_eq_nil_of_le (by omega))
 have s3:ae_ (Sit.all W) ((eW_ 1 ay_) x3++([])) (cs.drop 3):=dP_ (o:=3) r3 s4
 have s2:ae_ (Sit.all W) ((eW_ 1 ag_) x2++((eW_ 1 ay_) x3++([]))) (cs.drop 2):=dP_ (o:=2) r2 s3
 have s1:ae_ (Sit.all W) ((eW_ 1 ag_) x1++((eW_ 1 ag_) x2++((eW_ 1 ay_) x3++([])))) (cs.drop 1):=dP_ (o:=1) r1 s2
 have s0:ae_ (Sit.all W) (xJ_ x0++((eW_ 1 ag_) x1++((eW_ 1 ag_) x2++((eW_ 1 ay_) x3++([]))))) (cs.drop 0):=dP_ (o:=0) r0 s1
 rw[drop_zero]at s0
 exact s0
theorem qD_:eN_ prog 99 0=some (0,2,1):=by kernel_rfl
theorem vi_:eN_ prog 99 1=some (1,97,4):=by kernel_rfl
theorem C4_(W:World):Rd prog W 99 ab_.cells ab_.wf:=by
 intro H enc fuel cs d ps hr
 obtain⟨fs,_,hfs,_⟩:=cg_ qD_
 have hcl:prog.cellsOf 99=5:=by kernel_rfl
 obtain⟨xs,n,_,_,hlen,hxl,hall⟩:=DataW.trod_struct hfs hr
 rw[hcl]at hlen
 obtain⟨fs0,f0,u0,v0,o0,y0,z0⟩:=cg_ qD_
 rw[hfs]at u0;simp only[Option.some.injEq,TypeDesc.struct.injEq]at u0;subst u0
 obtain⟨x0,w0,r0⟩:=e1_ (sz:=1) hall hxl v0 o0 (by rw[y0];exact z0) (by rw[y0];exact wF_ W)
 obtain⟨fs1,f1,u1,v1,o1,y1,z1⟩:=cg_ vi_
 rw[hfs]at u1;simp only[Option.some.injEq,TypeDesc.struct.injEq]at u1;subst u1
 obtain⟨x1,w1,r1⟩:=e1_ (sz:=4) hall hxl v1 o1 (by rw[y1];exact z1) (by rw[y1];exact Cf_ W)
 refine⟨⟨x0,x1⟩,⟨w0,w1,trivial⟩,?_⟩
 have s2:ae_ (Sit.all W) [] (cs.drop 5):=j4_ _ (drop_eq_nil_of_le (by omega))
 have s1:ae_ (Sit.all W) (am_.cells x1++([])) (cs.drop 1):=dP_ (o:=1) r1 s2
 have s0:ae_ (Sit.all W) (ay_ x0++(am_.cells x1++([]))) (cs.drop 0):=dP_ (o:=0) r0 s1
 rw[drop_zero]at s0
 exact s0
theorem ys_:∃i,prog.info? 99=some i∧i.size=5:=nP_ (by kernel_rfl)
theorem CG_(W:World):Rd prog W 22 (fun xs:List ab_=>eW_ 5 ab_.cells xs) (eL_ ab_.wf):=by
 obtain⟨i,h1,h2⟩:=ys_
 exact mv_ (by kernel_rfl) h1 h2 (by decide) (fun _=>rfl) (C4_ W)
theorem mC_:eN_ prog 24 0=some (0,2,1):=by kernel_rfl
theorem vh_:eN_ prog 24 1=some (1,22,1):=by kernel_rfl
theorem CO_(W:World):Rd prog W 24 af_.cells af_.wf:=by
 intro H enc fuel cs d ps hr
 obtain⟨fs,_,hfs,_⟩:=cg_ mC_
 have hcl:prog.cellsOf 24=2:=by kernel_rfl
 obtain⟨xs,n,_,_,hlen,hxl,hall⟩:=DataW.trod_struct hfs hr
 rw[hcl]at hlen
 obtain⟨fs0,f0,u0,v0,o0,y0,z0⟩:=cg_ mC_
 rw[hfs]at u0;simp only[Option.some.injEq,TypeDesc.struct.injEq]at u0;subst u0
 obtain⟨x0,w0,r0⟩:=e1_ (sz:=1) hall hxl v0 o0 (by rw[y0];exact z0) (by rw[y0];exact wF_ W)
 obtain⟨fs1,f1,u1,v1,o1,y1,z1⟩:=cg_ vh_
 rw[hfs]at u1;simp only[Option.some.injEq,TypeDesc.struct.injEq]at u1;subst u1
 obtain⟨x1,w1,r1⟩:=e1_ (sz:=1) hall hxl v1 o1 (by rw[y1];exact z1) (by rw[y1];exact CG_ W)
 refine⟨⟨x0,x1⟩,⟨w0,w1,trivial⟩,?_⟩
 have s2:ae_ (Sit.all W) [] (cs.drop 2):=j4_ _ (drop_eq_nil_of_le (by omega))
 have s1:ae_ (Sit.all W) ((eW_ 5 ab_.cells) x1++([])) (cs.drop 1):=dP_ (o:=1) r1 s2
 have s0:ae_ (Sit.all W) (ay_ x0++((eW_ 5 ab_.cells) x1++([]))) (cs.drop 0):=dP_ (o:=0) r0 s1
 rw[drop_zero]at s0
 exact s0
theorem mixed:Tryz.prog.follows .mixedOrders=true:=by kernel_rfl
end Go.Proofs.YtlcmlgihlojdmaaGreatDoor
