/-
 The data types of the laws arguments, and that the arguments of a row, read as data, are such data. No conditions.
-/
import Derived.Test.YtlcmlgihlojdmaaGreatDoorProg
import Derived.Test.YtlcmlgihlojdmaaGreatDoorAwB
import Derived.KernelRfl
namespace Go.Proofs.YtlcmlgihlojdmaaGreatDoor
open Go.AW
set_option linter.unusedVariables false
structure ap_ where
 Leaf:Bool
 Keys:List ByteArray
 Vals:List ByteArray
 Kids:List Int
def ap_.cells(x:ap_):List AV:=[.val (.bool x.Leaf),.list 0 1 (x.Keys.map ak_),.list 0 1 (x.Vals.map ak_),.list 0 1 (x.Kids.map aK_)]
def ap_.wf(x:ap_):Prop:=(fun _:Bool=>True) x.Leaf∧(fW_ iY_) x.Keys∧(fW_ iY_) x.Vals∧(fW_ oV_) x.Kids∧True
def ap_.sz(x:ap_):Nat:=(c5_ ByteArray.size) x.Keys+(c5_ ByteArray.size) x.Vals+(c5_ (fun _=>0)) x.Kids
structure ad_ where
 Id:Int
 Page:ap_
def ad_.cells(x:ad_):List AV:=[.val (.int .i64 x.Id),.val (.bool x.Page.Leaf),.list 0 1 (x.Page.Keys.map ak_),.list 0 1 (x.Page.Vals.map ak_),.list 0 1 (x.Page.Kids.map aK_)]
def ad_.wf(x:ad_):Prop:=oV_ x.Id∧ap_.wf x.Page∧True
def ad_.sz(x:ad_):Nat:=ap_.sz x.Page
structure ay_ where
 Root:Int
 Slots:List ad_
def ay_.cells(x:ay_):List AV:=[.val (.int .i64 x.Root),.list 0 5 (x.Slots.map ad_.cells)]
def ay_.wf(x:ay_):Prop:=oV_ x.Root∧(fW_ ad_.wf) x.Slots∧True
def ay_.sz(x:ay_):Nat:=(c5_ ad_.sz) x.Slots
theorem ay_.sz_Slots{x:ay_}{b:Nat}(h:ay_.sz x≤b):(c5_ ad_.sz) x.Slots≤b:=by unfold ay_.sz at h;omega
structure ht_ where
 Kind:Int
 Name:ByteArray
 Subs:List ByteArray
 Value:ByteArray
def ht_.cells(x:ht_):List AV:=[.val (.int .i64 x.Kind),.val (.string x.Name),.list 0 1 (x.Subs.map ak_),.val (.string x.Value)]
def ht_.wf(x:ht_):Prop:=oV_ x.Kind∧iY_ x.Name∧(fW_ iY_) x.Subs∧iY_ x.Value∧True
def ht_.sz(x:ht_):Nat:=ByteArray.size x.Name+(c5_ ByteArray.size) x.Subs+ByteArray.size x.Value
structure aN_ where
 Key:ByteArray
 Value:ByteArray
def aN_.cells(x:aN_):List AV:=[.val (.string x.Key),.val (.string x.Value)]
def aN_.wf(x:aN_):Prop:=iY_ x.Key∧iY_ x.Value∧True
def aN_.sz(x:aN_):Nat:=ByteArray.size x.Key+ByteArray.size x.Value
theorem mixed:Tryz.prog.follows .mixedOrders=true:=by kernel_rfl
end Go.Proofs.YtlcmlgihlojdmaaGreatDoor
