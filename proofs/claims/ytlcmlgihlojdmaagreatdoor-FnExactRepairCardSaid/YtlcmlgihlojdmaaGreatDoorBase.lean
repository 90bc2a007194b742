/-
 The data types of the laws arguments, and that the arguments of a row, read as data, are such data. No conditions.
-/
import Derived.Test.YtlcmlgihlojdmaaGreatDoorProg
import Derived.Test.YtlcmlgihlojdmaaGreatDoorAwB
import Derived.KernelRfl
namespace Go.Proofs.YtlcmlgihlojdmaaGreatDoor
open Tryz (prog)
open List
open Go.AW
set_option linter.unusedVariables false
structure ai_ where
 Leaf:Bool
 Keys:List ByteArray
 Vals:List ByteArray
 Kids:List Int
def ai_.cells(x:ai_):List AV:=[.val (.bool x.Leaf),.list 0 1 (x.Keys.map ah_),.list 0 1 (x.Vals.map ah_),.list 0 1 (x.Kids.map aB_)]
def ai_.wf(x:ai_):Prop:=(fun _:Bool=>True) x.Leaf∧(eF_ fp_) x.Keys∧(eF_ fp_) x.Vals∧(eF_ hq_) x.Kids∧True
def ai_.sz(x:ai_):Nat:=(ay_ ByteArray.size) x.Keys+(ay_ ByteArray.size) x.Vals+(ay_ (fun _=>0)) x.Kids
structure aa_ where
 Id:Int
 Page:ai_
def aa_.cells(x:aa_):List AV:=[.val (.int .i64 x.Id),.val (.bool x.Page.Leaf),.list 0 1 (x.Page.Keys.map ah_),.list 0 1 (x.Page.Vals.map ah_),.list 0 1 (x.Page.Kids.map aB_)]
def aa_.wf(x:aa_):Prop:=hq_ x.Id∧ai_.wf x.Page∧True
def aa_.sz(x:aa_):Nat:=ai_.sz x.Page
structure ae_ where
 Root:Int
 Slots:List aa_
def ae_.cells(x:ae_):List AV:=[.val (.int .i64 x.Root),.list 0 5 (x.Slots.map aa_.cells)]
def ae_.wf(x:ae_):Prop:=hq_ x.Root∧(eF_ aa_.wf) x.Slots∧True
def ae_.sz(x:ae_):Nat:=(ay_ aa_.sz) x.Slots
theorem ae_.sz_Slots{x:ae_}{b:Nat}(h:ae_.sz x≤b):(ay_ aa_.sz) x.Slots≤b:=by unfold ae_.sz at h;omega
structure hM_ where
 Kind:Int
 Name:ByteArray
 Subs:List ByteArray
 Value:ByteArray
def hM_.cells(x:hM_):List AV:=[.val (.int .i64 x.Kind),.val (.string x.Name),.list 0 1 (x.Subs.map ah_),.val (.string x.Value)]
def hM_.wf(x:hM_):Prop:=hq_ x.Kind∧fp_ x.Name∧(eF_ fp_) x.Subs∧fp_ x.Value∧True
def hM_.sz(x:hM_):Nat:=ByteArray.size x.Name+(ay_ ByteArray.size) x.Subs+ByteArray.size x.Value
structure ad_ where
 Key:ByteArray
 Value:ByteArray
def ad_.cells(x:ad_):List AV:=[.val (.string x.Key),.val (.string x.Value)]
def ad_.wf(x:ad_):Prop:=fp_ x.Key∧fp_ x.Value∧True
def ad_.sz(x:ad_):Nat:=ByteArray.size x.Key+ByteArray.size x.Value
theorem DS_(W:World):Rd prog W 4 yt_ (fun _:Bool=>True):=za_ (by kernel_rfl)
theorem DU_(W:World):Rd prog W 9 ah_ fp_:=uI_ (by kernel_rfl)
theorem Cg_:∃i,prog.info? 9=some i∧i.size=1:=n1_ (by kernel_rfl)
theorem yu_(W:World):Rd prog W 35 (fun xs:List ByteArray=>eP_ 1 ah_ xs) (eF_ fp_):=by
 obtain⟨i,h1,h2⟩:=Cg_
 exact lT_ (by kernel_rfl) h1 h2 (by decide) (fun _=>rfl) (DU_ W)
theorem w5_(W:World):Rd prog W 2 aB_ hq_:=AP_ (by kernel_rfl)
theorem BG_:∃i,prog.info? 2=some i∧i.size=1:=n1_ (by kernel_rfl)
theorem CR_(W:World):Rd prog W 49 (fun xs:List Int=>eP_ 1 aB_ xs) (eF_ hq_):=by
 obtain⟨i,h1,h2⟩:=BG_
 exact lT_ (by kernel_rfl) h1 h2 (by decide) (fun _=>rfl) (w5_ W)
theorem rr_:eL_ prog 97 0=some (0,4,1):=by kernel_rfl
theorem xd_:eL_ prog 97 1=some (1,35,1):=by kernel_rfl
theorem v5_:eL_ prog 97 2=some (2,35,1):=by kernel_rfl
theorem v1_:eL_ prog 97 3=some (3,49,1):=by kernel_rfl
theorem Dy_(W:World):Rd prog W 97 ai_.cells ai_.wf:=by
 intro H enc fuel cs d ps hr
 obtain⟨fs,_,hfs,_⟩:=cd_ rr_
 have hcl:prog.cellsOf 97=4:=by kernel_rfl
 obtain⟨xs,n,_,_,hlen,hxl,hall⟩:=DataW.trod_struct hfs hr
 rw[hcl]at hlen
 obtain⟨fs0,f0,u0,v0,o0,y0,z0⟩:=cd_ rr_
 rw[hfs]at u0;simp only[Option.some.injEq,TypeDesc.struct.injEq]at u0;subst u0
 obtain⟨x0,w0,r0⟩:=e2_ (sz:=1) hall hxl v0 o0 (by rw[y0];exact z0) (by rw[y0];exact DS_ W)
 obtain⟨fs1,f1,u1,v1,o1,y1,z1⟩:=cd_ xd_
 rw[hfs]at u1;simp only[Option.some.injEq,TypeDesc.struct.injEq]at u1;subst u1
 obtain⟨x1,w1,r1⟩:=e2_ (sz:=1) hall hxl v1 o1 (by rw[y1];exact z1) (by rw[y1];exact yu_ W)
 obtain⟨fs2,f2,u2,v2,o2,y2,z2⟩:=cd_ v5_
 rw[hfs]at u2;simp only[Option.some.injEq,TypeDesc.struct.injEq]at u2;subst u2
 obtain⟨x2,w2,r2⟩:=e2_ (sz:=1) hall hxl v2 o2 (by rw[y2];exact z2) (by rw[y2];exact yu_ W)
 obtain⟨fs3,f3,u3,v3,o3,y3,z3⟩:=cd_ v1_
 rw[hfs]at u3;simp only[Option.some.injEq,TypeDesc.struct.injEq]at u3;subst u3
 obtain⟨x3,w3,r3⟩:=e2_ (sz:=1) hall hxl v3 o3 (by rw[y3];exact z3) (by rw[y3];exact CR_ W)
 refine⟨⟨x0,x1,x2,x3⟩,⟨w0,w1,w2,w3,trivial⟩,?_⟩
 have s4:af_ (Sit.all W) [] (cs.drop 4):=jM_ _ (drop_eq_nil_of_le (by omega))
 have s3:af_ (Sit.all W) ((eP_ 1 aB_) x3++([])) (cs.drop 3):=dP_ (o:=3) r3 s4
 have s2:af_ (Sit.all W) ((eP_ 1 ah_) x2++((eP_ 1 aB_) x3++([]))) (cs.drop 2):=dP_ (o:=2) r2 s3
 have s1:af_ (Sit.all W) ((eP_ 1 ah_) x1++((eP_ 1 ah_) x2++((eP_ 1 aB_) x3++([])))) (cs.drop 1):=dP_ (o:=1) r1 s2
 have s0:af_ (Sit.all W) (yt_ x0++((eP_ 1 ah_) x1++((eP_ 1 ah_) x2++((eP_ 1 aB_) x3++([]))))) (cs.drop 0):=dP_ (o:=0) r0 s1
 rw[drop_zero]at s0
 exact s0
theorem qv_:eL_ prog 99 0=some (0,2,1):=by kernel_rfl
theorem vx_:eL_ prog 99 1=some (1,97,4):=by kernel_rfl
theorem CY_(W:World):Rd prog W 99 aa_.cells aa_.wf:=by
 intro H enc fuel cs d ps hr
 obtain⟨fs,_,hfs,_⟩:=cd_ qv_
 have hcl:prog.cellsOf 99=5:=by kernel_rfl
 obtain⟨xs,n,_,_,hlen,hxl,hall⟩:=DataW.trod_struct hfs hr
 rw[hcl]at hlen
 obtain⟨fs0,f0,u0,v0,o0,y0,z0⟩:=cd_ qv_
 rw[hfs]at u0;simp only[Option.some.injEq,TypeDesc.struct.injEq]at u0;subst u0
 obtain⟨x0,w0,r0⟩:=e2_ (sz:=1) hall hxl v0 o0 (by rw[y0];exact z0) (by rw[y0];exact w5_ W)
 obtain⟨fs1,f1,u1,v1,o1,y1,z1⟩:=cd_ vx_
 rw[hfs]at u1;simp only[Option.some.injEq,TypeDesc.struct.injEq]at u1;subst u1
 obtain⟨x1,w1,r1⟩:=e2_ (sz:=4) hall hxl v1 o1 (by rw[y1];exact z1) (by rw[y1];exact Dy_ W)
 refine⟨⟨x0,x1⟩,⟨w0,w1,trivial⟩,?_⟩
 have s2:af_ (Sit.all W) [] (cs.drop 5):=jM_ _ (drop_eq_nil_of_le (by omega))
 have s1:af_ (Sit.all W) (ai_.cells x1++([])) (cs.drop 1):=dP_ (o:=1) r1 s2
 have s0:af_ (Sit.all W) (aB_ x0++(ai_.cells x1++([]))) (cs.drop 0):=dP_ (o:=0) r0 s1
 rw[drop_zero]at s0
 exact s0
theorem yZ_:∃i,prog.info? 99=some i∧i.size=5:=n1_ (by kernel_rfl)
theorem Dk_(W:World):Rd prog W 22 (fun xs:List aa_=>eP_ 5 aa_.cells xs) (eF_ aa_.wf):=by
 obtain⟨i,h1,h2⟩:=yZ_
 exact lT_ (by kernel_rfl) h1 h2 (by decide) (fun _=>rfl) (CY_ W)
theorem mi_:eL_ prog 24 0=some (0,2,1):=by kernel_rfl
theorem vY_:eL_ prog 24 1=some (1,22,1):=by kernel_rfl
theorem Dq_(W:World):Rd prog W 24 ae_.cells ae_.wf:=by
 intro H enc fuel cs d ps hr
 obtain⟨fs,_,hfs,_⟩:=cd_ mi_
 have hcl:prog.cellsOf 24=2:=by kernel_rfl
 obtain⟨xs,n,_,_,hlen,hxl,hall⟩:=DataW.trod_struct hfs hr
 rw[hcl]at hlen
 obtain⟨fs0,f0,u0,v0,o0,y0,z0⟩:=cd_ mi_
 rw[hfs]at u0;simp only[Option.some.injEq,TypeDesc.struct.injEq]at u0;subst u0
 obtain⟨x0,w0,r0⟩:=e2_ (sz:=1) hall hxl v0 o0 (by rw[y0];exact z0) (by rw[y0];exact w5_ W)
 obtain⟨fs1,f1,u1,v1,o1,y1,z1⟩:=cd_ vY_
 rw[hfs]at u1;simp only[Option.some.injEq,TypeDesc.struct.injEq]at u1;subst u1
 obtain⟨x1,w1,r1⟩:=e2_ (sz:=1) hall hxl v1 o1 (by rw[y1];exact z1) (by rw[y1];exact Dk_ W)
 refine⟨⟨x0,x1⟩,⟨w0,w1,trivial⟩,?_⟩
 have s2:af_ (Sit.all W) [] (cs.drop 2):=jM_ _ (drop_eq_nil_of_le (by omega))
 have s1:af_ (Sit.all W) ((eP_ 5 aa_.cells) x1++([])) (cs.drop 1):=dP_ (o:=1) r1 s2
 have s0:af_ (Sit.all W) (aB_ x0++((eP_ 5 aa_.cells) x1++([]))) (cs.drop 0):=dP_ (o:=0) r0 s1
 rw[drop_zero]at s0
 exact s0
theorem mixed:Tryz.prog.follows .mixedOrders=true:=by kernel_rfl
end Go.Proofs.YtlcmlgihlojdmaaGreatDoor
