/-
 The data types of the laws arguments, and that the arguments of a row, read as data, are such data. No conditions.
-/
import Derived.Test.YthahmhkbcdpkjaaGreatProg
import Derived.Test.YthahmhkbcdpkjaaGreatAwB
import Derived.KernelRfl
namespace Go.Proofs.YthahmhkbcdpkjaaGreat
open Tryz (prog)
open List
open Go.AW
set_option linter.unusedVariables false
structure a4_ where
 Op : Int
 A : Int
 B : Int
 S : ByteArray
def a4_.cells (x : a4_) : List AV := [.val (.int .i64 x.Op), .val (.int .i64 x.A), .val (.int .i64 x.B), .val (.string x.S)]
def a4_.wf (x : a4_) : Prop := bx_ x.Op ∧ bx_ x.A ∧ bx_ x.B ∧ bf_ x.S ∧ True
def a4_.sz (x : a4_) : Nat := ByteArray.size x.S
structure aE_ where
 Routine : ByteArray
 Label : ByteArray
 At : Int
 Formals : List ByteArray
def aE_.cells (x : aE_) : List AV := [.val (.string x.Routine), .val (.string x.Label), .val (.int .i64 x.At), .list 0 1 (x.Formals.map at_)]
def aE_.wf (x : aE_) : Prop := bf_ x.Routine ∧ bf_ x.Label ∧ bx_ x.At ∧ (a6_ bf_) x.Formals ∧ True
def aE_.sz (x : aE_) : Nat := ByteArray.size x.Routine + ByteArray.size x.Label + (ac_ ByteArray.size) x.Formals
theorem aE_.sz_Formals {x : aE_} {b : Nat} (h : aE_.sz x ≤ b) : (ac_ ByteArray.size) x.Formals ≤ b := by unfold aE_.sz at h; omega
structure as_ where
 Code : List a4_
 Entries : List aE_
def as_.cells (x : as_) : List AV := [.list 0 4 (x.Code.map a4_.cells), .list 0 4 (x.Entries.map aE_.cells)]
def as_.wf (x : as_) : Prop := (a6_ a4_.wf) x.Code ∧ (a6_ aE_.wf) x.Entries ∧ True
def as_.sz (x : as_) : Nat := (ac_ a4_.sz) x.Code + (ac_ aE_.sz) x.Entries
theorem as_.sz_Code {x : as_} {b : Nat} (h : as_.sz x ≤ b) : (ac_ a4_.sz) x.Code ≤ b := by unfold as_.sz at h; omega
theorem as_.sz_Entries {x : as_} {b : Nat} (h : as_.sz x ≤ b) : (ac_ aE_.sz) x.Entries ≤ b := by unfold as_.sz at h; omega
structure aQ_ where
 Name : ByteArray
 Subs : List ByteArray
 Value : ByteArray
def aQ_.cells (x : aQ_) : List AV := [.val (.string x.Name), .list 0 1 (x.Subs.map at_), .val (.string x.Value)]
def aQ_.wf (x : aQ_) : Prop := bf_ x.Name ∧ (a6_ bf_) x.Subs ∧ bf_ x.Value ∧ True
def aQ_.sz (x : aQ_) : Nat := ByteArray.size x.Name + (ac_ ByteArray.size) x.Subs + ByteArray.size x.Value
theorem aQ_.sz_Subs {x : aQ_} {b : Nat} (h : aQ_.sz x ≤ b) : (ac_ ByteArray.size) x.Subs ≤ b := by unfold aQ_.sz at h; omega
structure aZ_ where
 Nodes : List aQ_
def aZ_.cells (x : aZ_) : List AV := [.list 0 3 (x.Nodes.map aQ_.cells)]
def aZ_.wf (x : aZ_) : Prop := (a6_ aQ_.wf) x.Nodes ∧ True
def aZ_.sz (x : aZ_) : Nat := (ac_ aQ_.sz) x.Nodes
theorem aZ_.sz_Nodes {x : aZ_} {b : Nat} (h : aZ_.sz x ≤ b) : (ac_ aQ_.sz) x.Nodes ≤ b := by unfold aZ_.sz at h; omega
structure au_ where
 Job : Int
 Count : Int
 Name : ByteArray
 Subs : List ByteArray
def au_.cells (x : au_) : List AV := [.val (.int .i64 x.Job), .val (.int .i64 x.Count), .val (.string x.Name), .list 0 1 (x.Subs.map at_)]
def au_.wf (x : au_) : Prop := bx_ x.Job ∧ bx_ x.Count ∧ bf_ x.Name ∧ (a6_ bf_) x.Subs ∧ True
def au_.sz (x : au_) : Nat := ByteArray.size x.Name + (ac_ ByteArray.size) x.Subs
theorem au_.sz_Subs {x : au_} {b : Nat} (h : au_.sz x ≤ b) : (ac_ ByteArray.size) x.Subs ≤ b := by unfold au_.sz at h; omega
structure aV_ where
 Job : Int
 Until : Int
 Name : ByteArray
 Subs : List ByteArray
def aV_.cells (x : aV_) : List AV := [.val (.int .i64 x.Job), .val (.int .i64 x.Until), .val (.string x.Name), .list 0 1 (x.Subs.map at_)]
def aV_.wf (x : aV_) : Prop := bx_ x.Job ∧ bx_ x.Until ∧ bf_ x.Name ∧ (a6_ bf_) x.Subs ∧ True
def aV_.sz (x : aV_) : Nat := ByteArray.size x.Name + (ac_ ByteArray.size) x.Subs
theorem aV_.sz_Subs {x : aV_} {b : Nat} (h : aV_.sz x ≤ b) : (ac_ ByteArray.size) x.Subs ≤ b := by unfold aV_.sz at h; omega
structure aL_ where
 Held : List au_
 Asks : List aV_
def aL_.cells (x : aL_) : List AV := [.list 0 4 (x.Held.map au_.cells), .list 0 4 (x.Asks.map aV_.cells)]
def aL_.wf (x : aL_) : Prop := (a6_ au_.wf) x.Held ∧ (a6_ aV_.wf) x.Asks ∧ True
def aL_.sz (x : aL_) : Nat := (ac_ au_.sz) x.Held + (ac_ aV_.sz) x.Asks
theorem aL_.sz_Held {x : aL_} {b : Nat} (h : aL_.sz x ≤ b) : (ac_ au_.sz) x.Held ≤ b := by unfold aL_.sz at h; omega
theorem aL_.sz_Asks {x : aL_} {b : Nat} (h : aL_.sz x ≤ b) : (ac_ aV_.sz) x.Asks ≤ b := by unfold aL_.sz at h; omega
structure ak_ where
 Id : Int
 Name : ByteArray
 Subs : List ByteArray
 OnSet : Bool
 OnKill : Bool
 Routine : ByteArray
 Label : ByteArray
def ak_.cells (x : ak_) : List AV := [.val (.int .i64 x.Id), .val (.string x.Name), .list 0 1 (x.Subs.map at_), .val (.bool x.OnSet), .val (.bool x.OnKill), .val (.string x.Routine), .val (.string x.Label)]
def ak_.wf (x : ak_) : Prop := bx_ x.Id ∧ bf_ x.Name ∧ (a6_ bf_) x.Subs ∧ (fun _ : Bool => True) x.OnSet ∧ (fun _ : Bool => True) x.OnKill ∧ bf_ x.Routine ∧ bf_ x.Label ∧ True
def ak_.sz (x : ak_) : Nat := ByteArray.size x.Name + (ac_ ByteArray.size) x.Subs + ByteArray.size x.Routine + ByteArray.size x.Label
theorem ak_.sz_Subs {x : ak_} {b : Nat} (h : ak_.sz x ≤ b) : (ac_ ByteArray.size) x.Subs ≤ b := by unfold ak_.sz at h; omega
structure aH_ where
 Global : Bool
 Name : ByteArray
 Subs : List ByteArray
def aH_.cells (x : aH_) : List AV := [.val (.bool x.Global), .val (.string x.Name), .list 0 1 (x.Subs.map at_)]
def aH_.wf (x : aH_) : Prop := (fun _ : Bool => True) x.Global ∧ bf_ x.Name ∧ (a6_ bf_) x.Subs ∧ True
def aH_.sz (x : aH_) : Nat := ByteArray.size x.Name + (ac_ ByteArray.size) x.Subs
theorem aH_.sz_Subs {x : aH_} {b : Nat} (h : aH_.sz x ≤ b) : (ac_ ByteArray.size) x.Subs ≤ b := by unfold aH_.sz at h; omega
structure aA_ where
 ByRef : Bool
 Text : ByteArray
def aA_.cells (x : aA_) : List AV := [.val (.bool x.ByRef), .val (.string x.Text)]
def aA_.wf (x : aA_) : Prop := (fun _ : Bool => True) x.ByRef ∧ bf_ x.Text ∧ True
def aA_.sz (x : aA_) : Nat := ByteArray.size x.Text
structure aR_ where
 Name : ByteArray
 Step : Int
 Limit : Int
 Has : Bool
 Next : Int
 End : Int
def aR_.cells (x : aR_) : List AV := [.val (.string x.Name), .val (.int .i64 x.Step), .val (.int .i64 x.Limit), .val (.bool x.Has), .val (.int .i64 x.Next), .val (.int .i64 x.End)]
def aR_.wf (x : aR_) : Prop := bf_ x.Name ∧ bx_ x.Step ∧ bx_ x.Limit ∧ (fun _ : Bool => True) x.Has ∧ bx_ x.Next ∧ bx_ x.End ∧ True
def aR_.sz (x : aR_) : Nat := ByteArray.size x.Name
structure aF_ where
 Ret : Int
 Value : Bool
 Test : Bool
 Stack : Int
 Refs : Int
 Args : Int
 Loops : Int
 Trap : ByteArray
 Routine : ByteArray
def aF_.cells (x : aF_) : List AV := [.val (.int .i64 x.Ret), .val (.bool x.Value), .val (.bool x.Test), .val (.int .i64 x.Stack), .val (.int .i64 x.Refs), .val (.int .i64 x.Args), .val (.int .i64 x.Loops), .val (.string x.Trap), .val (.string x.Routine)]
def aF_.wf (x : aF_) : Prop := bx_ x.Ret ∧ (fun _ : Bool => True) x.Value ∧ (fun _ : Bool => True) x.Test ∧ bx_ x.Stack ∧ bx_ x.Refs ∧ bx_ x.Args ∧ bx_ x.Loops ∧ bf_ x.Trap ∧ bf_ x.Routine ∧ True
def aF_.sz (x : aF_) : Nat := ByteArray.size x.Trap + ByteArray.size x.Routine
structure aG_ where
 Name : ByteArray
 Cell : Int
def aG_.cells (x : aG_) : List AV := [.val (.string x.Name), .val (.int .i64 x.Cell)]
def aG_.wf (x : aG_) : Prop := bf_ x.Name ∧ bx_ x.Cell ∧ True
def aG_.sz (x : aG_) : Nat := ByteArray.size x.Name
structure aM_ where
 Id : Int
 Tree : aZ_
def aM_.cells (x : aM_) : List AV := [.val (.int .i64 x.Id), .list 0 3 (x.Tree.Nodes.map aQ_.cells)]
def aM_.wf (x : aM_) : Prop := bx_ x.Id ∧ aZ_.wf x.Tree ∧ True
def aM_.sz (x : aM_) : Nat := aZ_.sz x.Tree
theorem aM_.sz_Tree {x : aM_} {b : Nat} (h : aM_.sz x ≤ b) : aZ_.sz x.Tree ≤ b := by unfold aM_.sz at h; omega
structure aw_ where
 Saved : List aG_
def aw_.cells (x : aw_) : List AV := [.list 0 2 (x.Saved.map aG_.cells)]
def aw_.wf (x : aw_) : Prop := (a6_ aG_.wf) x.Saved ∧ True
def aw_.sz (x : aw_) : Nat := (ac_ aG_.sz) x.Saved
theorem aw_.sz_Saved {x : aw_} {b : Nat} (h : aw_.sz x ≤ b) : (ac_ aG_.sz) x.Saved ≤ b := by unfold aw_.sz at h; omega
structure aU_ where
 Next : Int
 Binds : List aG_
 Cells : List aM_
 Levels : List aw_
def aU_.cells (x : aU_) : List AV := [.val (.int .i64 x.Next), .list 0 2 (x.Binds.map aG_.cells), .list 0 2 (x.Cells.map aM_.cells), .list 0 1 (x.Levels.map aw_.cells)]
def aU_.wf (x : aU_) : Prop := bx_ x.Next ∧ (a6_ aG_.wf) x.Binds ∧ (a6_ aM_.wf) x.Cells ∧ (a6_ aw_.wf) x.Levels ∧ True
def aU_.sz (x : aU_) : Nat := (ac_ aG_.sz) x.Binds + (ac_ aM_.sz) x.Cells + (ac_ aw_.sz) x.Levels
theorem aU_.sz_Binds {x : aU_} {b : Nat} (h : aU_.sz x ≤ b) : (ac_ aG_.sz) x.Binds ≤ b := by unfold aU_.sz at h; omega
theorem aU_.sz_Cells {x : aU_} {b : Nat} (h : aU_.sz x ≤ b) : (ac_ aM_.sz) x.Cells ≤ b := by unfold aU_.sz at h; omega
theorem aU_.sz_Levels {x : aU_} {b : Nat} (h : aU_.sz x ≤ b) : (ac_ aw_.sz) x.Levels ≤ b := by unfold aU_.sz at h; omega
structure ah_ where
 Status : Int
 PC : Int
 Stack : List ByteArray
 Refs : List aH_
 Args : List aA_
 Loops : List aR_
 Frames : List aF_
 Locals : aU_
 Test : Bool
 NakedOn : Bool
 Naked : aH_
 Code : Int
 Trans : Int
 Fault : Int
 Wait : Int
 Input : ByteArray
def ah_.cells (x : ah_) : List AV := [.val (.int .i64 x.Status), .val (.int .i64 x.PC), .list 0 1 (x.Stack.map at_), .list 0 3 (x.Refs.map aH_.cells), .list 0 2 (x.Args.map aA_.cells), .list 0 6 (x.Loops.map aR_.cells), .list 0 9 (x.Frames.map aF_.cells), .val (.int .i64 x.Locals.Next), .list 0 2 (x.Locals.Binds.map aG_.cells), .list 0 2 (x.Locals.Cells.map aM_.cells), .list 0 1 (x.Locals.Levels.map aw_.cells), .val (.bool x.Test), .val (.bool x.NakedOn), .val (.bool x.Naked.Global), .val (.string x.Naked.Name), .list 0 1 (x.Naked.Subs.map at_), .val (.int .i64 x.Code), .val (.int .i64 x.Trans), .val (.int .i64 x.Fault), .val (.int .i64 x.Wait), .val (.string x.Input)]
def ah_.wf (x : ah_) : Prop := bx_ x.Status ∧ bx_ x.PC ∧ (a6_ bf_) x.Stack ∧ (a6_ aH_.wf) x.Refs ∧ (a6_ aA_.wf) x.Args ∧ (a6_ aR_.wf) x.Loops ∧ (a6_ aF_.wf) x.Frames ∧ aU_.wf x.Locals ∧ (fun _ : Bool => True) x.Test ∧ (fun _ : Bool => True) x.NakedOn ∧ aH_.wf x.Naked ∧ bx_ x.Code ∧ bx_ x.Trans ∧ bx_ x.Fault ∧ bx_ x.Wait ∧ bf_ x.Input ∧ True
def ah_.sz (x : ah_) : Nat := (ac_ ByteArray.size) x.Stack + (ac_ aH_.sz) x.Refs + (ac_ aA_.sz) x.Args + (ac_ aR_.sz) x.Loops + (ac_ aF_.sz) x.Frames + aU_.sz x.Locals + aH_.sz x.Naked + ByteArray.size x.Input
theorem ah_.sz_Stack {x : ah_} {b : Nat} (h : ah_.sz x ≤ b) : (ac_ ByteArray.size) x.Stack ≤ b := by unfold ah_.sz at h; omega
theorem ah_.sz_Refs {x : ah_} {b : Nat} (h : ah_.sz x ≤ b) : (ac_ aH_.sz) x.Refs ≤ b := by unfold ah_.sz at h; omega
theorem ah_.sz_Args {x : ah_} {b : Nat} (h : ah_.sz x ≤ b) : (ac_ aA_.sz) x.Args ≤ b := by unfold ah_.sz at h; omega
theorem ah_.sz_Loops {x : ah_} {b : Nat} (h : ah_.sz x ≤ b) : (ac_ aR_.sz) x.Loops ≤ b := by unfold ah_.sz at h; omega
theorem ah_.sz_Frames {x : ah_} {b : Nat} (h : ah_.sz x ≤ b) : (ac_ aF_.sz) x.Frames ≤ b := by unfold ah_.sz at h; omega
theorem ah_.sz_Locals {x : ah_} {b : Nat} (h : ah_.sz x ≤ b) : aU_.sz x.Locals ≤ b := by unfold ah_.sz at h; omega
theorem ah_.sz_Naked {x : ah_} {b : Nat} (h : ah_.sz x ≤ b) : aH_.sz x.Naked ≤ b := by unfold ah_.sz at h; omega
theorem ah_.sz_Input {x : ah_} {b : Nat} (h : ah_.sz x ≤ b) : ByteArray.size x.Input ≤ b := by unfold ah_.sz at h; omega
structure ap_ where
 Kind : Int
 Name : ByteArray
 Subs : List ByteArray
 Value : ByteArray
 N : Int
def ap_.cells (x : ap_) : List AV := [.val (.int .i64 x.Kind), .val (.string x.Name), .list 0 1 (x.Subs.map at_), .val (.string x.Value), .val (.int .i64 x.N)]
def ap_.wf (x : ap_) : Prop := bx_ x.Kind ∧ bf_ x.Name ∧ (a6_ bf_) x.Subs ∧ bf_ x.Value ∧ bx_ x.N ∧ True
def ap_.sz (x : ap_) : Nat := ByteArray.size x.Name + (ac_ ByteArray.size) x.Subs + ByteArray.size x.Value
theorem ap_.sz_Subs {x : ap_} {b : Nat} (h : ap_.sz x ≤ b) : (ac_ ByteArray.size) x.Subs ≤ b := by unfold ap_.sz at h; omega
structure aY_ where
 Depth : Int
 Restarts : Int
 Events : List ap_
def aY_.cells (x : aY_) : List AV := [.val (.int .i64 x.Depth), .val (.int .i64 x.Restarts), .list 0 5 (x.Events.map ap_.cells)]
def aY_.wf (x : aY_) : Prop := bx_ x.Depth ∧ bx_ x.Restarts ∧ (a6_ ap_.wf) x.Events ∧ True
def aY_.sz (x : aY_) : Nat := (ac_ ap_.sz) x.Events
theorem aY_.sz_Events {x : aY_} {b : Nat} (h : aY_.sz x ≤ b) : (ac_ ap_.sz) x.Events ≤ b := by unfold aY_.sz at h; omega
structure aD_ where
 Id : Int
 Machine : ah_
 Trans : aY_
 Saved : ah_
 SavedOut : ByteArray
 SavedIn : List ByteArray
 SavedHas : List au_
 Until : Int
 Input : List ByteArray
 Out : ByteArray
def aD_.cells (x : aD_) : List AV := [.val (.int .i64 x.Id), .val (.int .i64 x.Machine.Status), .val (.int .i64 x.Machine.PC), .list 0 1 (x.Machine.Stack.map at_), .list 0 3 (x.Machine.Refs.map aH_.cells), .list 0 2 (x.Machine.Args.map aA_.cells), .list 0 6 (x.Machine.Loops.map aR_.cells), .list 0 9 (x.Machine.Frames.map aF_.cells), .val (.int .i64 x.Machine.Locals.Next), .list 0 2 (x.Machine.Locals.Binds.map aG_.cells), .list 0 2 (x.Machine.Locals.Cells.map aM_.cells), .list 0 1 (x.Machine.Locals.Levels.map aw_.cells), .val (.bool x.Machine.Test), .val (.bool x.Machine.NakedOn), .val (.bool x.Machine.Naked.Global), .val (.string x.Machine.Naked.Name), .list 0 1 (x.Machine.Naked.Subs.map at_), .val (.int .i64 x.Machine.Code), .val (.int .i64 x.Machine.Trans), .val (.int .i64 x.Machine.Fault), .val (.int .i64 x.Machine.Wait), .val (.string x.Machine.Input), .val (.int .i64 x.Trans.Depth), .val (.int .i64 x.Trans.Restarts), .list 0 5 (x.Trans.Events.map ap_.cells), .val (.int .i64 x.Saved.Status), .val (.int .i64 x.Saved.PC), .list 0 1 (x.Saved.Stack.map at_), .list 0 3 (x.Saved.Refs.map aH_.cells), .list 0 2 (x.Saved.Args.map aA_.cells), .list 0 6 (x.Saved.Loops.map aR_.cells), .list 0 9 (x.Saved.Frames.map aF_.cells), .val (.int .i64 x.Saved.Locals.Next), .list 0 2 (x.Saved.Locals.Binds.map aG_.cells), .list 0 2 (x.Saved.Locals.Cells.map aM_.cells), .list 0 1 (x.Saved.Locals.Levels.map aw_.cells), .val (.bool x.Saved.Test), .val (.bool x.Saved.NakedOn), .val (.bool x.Saved.Naked.Global), .val (.string x.Saved.Naked.Name), .list 0 1 (x.Saved.Naked.Subs.map at_), .val (.int .i64 x.Saved.Code), .val (.int .i64 x.Saved.Trans), .val (.int .i64 x.Saved.Fault), .val (.int .i64 x.Saved.Wait), .val (.string x.Saved.Input), .val (.string x.SavedOut), .list 0 1 (x.SavedIn.map at_), .list 0 4 (x.SavedHas.map au_.cells), .val (.int .i64 x.Until), .list 0 1 (x.Input.map at_), .val (.string x.Out)]
def aD_.wf (x : aD_) : Prop := bx_ x.Id ∧ ah_.wf x.Machine ∧ aY_.wf x.Trans ∧ ah_.wf x.Saved ∧ bf_ x.SavedOut ∧ (a6_ bf_) x.SavedIn ∧ (a6_ au_.wf) x.SavedHas ∧ bx_ x.Until ∧ (a6_ bf_) x.Input ∧ bf_ x.Out ∧ True
def aD_.sz (x : aD_) : Nat := ah_.sz x.Machine + aY_.sz x.Trans + ah_.sz x.Saved + ByteArray.size x.SavedOut + (ac_ ByteArray.size) x.SavedIn + (ac_ au_.sz) x.SavedHas + (ac_ ByteArray.size) x.Input + ByteArray.size x.Out
theorem aD_.sz_Machine {x : aD_} {b : Nat} (h : aD_.sz x ≤ b) : ah_.sz x.Machine ≤ b := by unfold aD_.sz at h; omega
theorem aD_.sz_Trans {x : aD_} {b : Nat} (h : aD_.sz x ≤ b) : aY_.sz x.Trans ≤ b := by unfold aD_.sz at h; omega
theorem aD_.sz_Saved {x : aD_} {b : Nat} (h : aD_.sz x ≤ b) : ah_.sz x.Saved ≤ b := by unfold aD_.sz at h; omega
theorem aD_.sz_SavedIn {x : aD_} {b : Nat} (h : aD_.sz x ≤ b) : (ac_ ByteArray.size) x.SavedIn ≤ b := by unfold aD_.sz at h; omega
theorem aD_.sz_SavedHas {x : aD_} {b : Nat} (h : aD_.sz x ≤ b) : (ac_ au_.sz) x.SavedHas ≤ b := by unfold aD_.sz at h; omega
theorem aD_.sz_Input {x : aD_} {b : Nat} (h : aD_.sz x ≤ b) : (ac_ ByteArray.size) x.Input ≤ b := by unfold aD_.sz at h; omega
structure av_ where
 Job : Int
 Events : List ap_
def av_.cells (x : av_) : List AV := [.val (.int .i64 x.Job), .list 0 5 (x.Events.map ap_.cells)]
def av_.wf (x : av_) : Prop := bx_ x.Job ∧ (a6_ ap_.wf) x.Events ∧ True
def av_.sz (x : av_) : Nat := (ac_ ap_.sz) x.Events
theorem av_.sz_Events {x : av_} {b : Nat} (h : av_.sz x ≤ b) : (ac_ ap_.sz) x.Events ≤ b := by unfold av_.sz at h; omega
structure az_ where
 Tick : Int
 Program : as_
 Triggers : List ak_
 Tree : aZ_
 Locks : aL_
 Jobs : List aD_
 Alone : Int
 Batches : List av_
def az_.cells (x : az_) : List AV := [.val (.int .i64 x.Tick), .list 0 4 (x.Program.Code.map a4_.cells), .list 0 4 (x.Program.Entries.map aE_.cells), .list 0 7 (x.Triggers.map ak_.cells), .list 0 3 (x.Tree.Nodes.map aQ_.cells), .list 0 4 (x.Locks.Held.map au_.cells), .list 0 4 (x.Locks.Asks.map aV_.cells), .list 0 52 (x.Jobs.map aD_.cells), .val (.int .i64 x.Alone), .list 0 2 (x.Batches.map av_.cells)]
def az_.wf (x : az_) : Prop := bx_ x.Tick ∧ as_.wf x.Program ∧ (a6_ ak_.wf) x.Triggers ∧ aZ_.wf x.Tree ∧ aL_.wf x.Locks ∧ (a6_ aD_.wf) x.Jobs ∧ bx_ x.Alone ∧ (a6_ av_.wf) x.Batches ∧ True
def az_.sz (x : az_) : Nat := as_.sz x.Program + (ac_ ak_.sz) x.Triggers + aZ_.sz x.Tree + aL_.sz x.Locks + (ac_ aD_.sz) x.Jobs + (ac_ av_.sz) x.Batches
theorem az_.sz_Program {x : az_} {b : Nat} (h : az_.sz x ≤ b) : as_.sz x.Program ≤ b := by unfold az_.sz at h; omega
theorem az_.sz_Triggers {x : az_} {b : Nat} (h : az_.sz x ≤ b) : (ac_ ak_.sz) x.Triggers ≤ b := by unfold az_.sz at h; omega
theorem az_.sz_Tree {x : az_} {b : Nat} (h : az_.sz x ≤ b) : aZ_.sz x.Tree ≤ b := by unfold az_.sz at h; omega
theorem az_.sz_Locks {x : az_} {b : Nat} (h : az_.sz x ≤ b) : aL_.sz x.Locks ≤ b := by unfold az_.sz at h; omega
theorem az_.sz_Jobs {x : az_} {b : Nat} (h : az_.sz x ≤ b) : (ac_ aD_.sz) x.Jobs ≤ b := by unfold az_.sz at h; omega
theorem az_.sz_Batches {x : az_} {b : Nat} (h : az_.sz x ≤ b) : (ac_ av_.sz) x.Batches ≤ b := by unfold az_.sz at h; omega
structure da_ where
 Kind : Int
 Name : ByteArray
 Subs : List ByteArray
 Value : ByteArray
def da_.cells (x : da_) : List AV := [.val (.int .i64 x.Kind), .val (.string x.Name), .list 0 1 (x.Subs.map at_), .val (.string x.Value)]
def da_.wf (x : da_) : Prop := bx_ x.Kind ∧ bf_ x.Name ∧ (a6_ bf_) x.Subs ∧ bf_ x.Value ∧ True
def da_.sz (x : da_) : Nat := ByteArray.size x.Name + (ac_ ByteArray.size) x.Subs + ByteArray.size x.Value
theorem da_.sz_Subs {x : da_} {b : Nat} (h : da_.sz x ≤ b) : (ac_ ByteArray.size) x.Subs ≤ b := by unfold da_.sz at h; omega
theorem b0_ (W : World) : Rd prog W 2 aT_ bx_ := sN_ (by kernel_rfl)
theorem cy_ (W : World) : Rd prog W 9 at_ bf_ := l1_ (by kernel_rfl)
theorem hv_ : ay_ prog 169 0 = some (0, 2, 1) := by kernel_rfl
theorem lL_ : ay_ prog 169 1 = some (1, 2, 1) := by kernel_rfl
theorem ml_ : ay_ prog 169 2 = some (2, 2, 1) := by kernel_rfl
theorem lq_ : ay_ prog 169 3 = some (3, 9, 1) := by kernel_rfl
theorem uW_ (W : World) : Rd prog W 169 a4_.cells a4_.wf := by
 intro H enc fuel cs d ps hr
 obtain ⟨fs, _, hfs, _⟩ := ag_ hv_
 have hcl : prog.cellsOf 169 = 4 := by kernel_rfl
 obtain ⟨xs, n, _, _, hlen, hxl, hall⟩ := DataW.trod_struct hfs hr
 rw [hcl] at hlen
 obtain ⟨fs0, f0, u0, v0, o0, y0, z0⟩ := ag_ hv_
 rw [hfs] at u0; simp only [Option.some.injEq, TypeDesc.struct.injEq] at u0; subst u0
 obtain ⟨x0, w0, r0⟩ := ar_ (sz := 1) hall hxl v0 o0 (by rw [y0]; exact z0) (by rw [y0]; exact b0_ W)
 obtain ⟨fs1, f1, u1, v1, o1, y1, z1⟩ := ag_ lL_
 rw [hfs] at u1; simp only [Option.some.injEq, TypeDesc.struct.injEq] at u1; subst u1
 obtain ⟨x1, w1, r1⟩ := ar_ (sz := 1) hall hxl v1 o1 (by rw [y1]; exact z1) (by rw [y1]; exact b0_ W)
 obtain ⟨fs2, f2, u2, v2, o2, y2, z2⟩ := ag_ ml_
 rw [hfs] at u2; simp only [Option.some.injEq, TypeDesc.struct.injEq] at u2; subst u2
 obtain ⟨x2, w2, r2⟩ := ar_ (sz := 1) hall hxl v2 o2 (by rw [y2]; exact z2) (by rw [y2]; exact b0_ W)
 obtain ⟨fs3, f3, u3, v3, o3, y3, z3⟩ := ag_ lq_
 rw [hfs] at u3; simp only [Option.some.injEq, TypeDesc.struct.injEq] at u3; subst u3
 obtain ⟨x3, w3, r3⟩ := ar_ (sz := 1) hall hxl v3 o3 (by rw [y3]; exact z3) (by rw [y3]; exact cy_ W)
 refine ⟨⟨x0, x1, x2, x3⟩, ⟨w0, w1, w2, w3, trivial⟩, ?_⟩
 have s4 : aj_ (Sit.all W) [] (cs.drop 4) := bz_ _ (drop_eq_nil_of_le (by omega))
 have s3 : aj_ (Sit.all W) (at_ x3 ++ ([])) (cs.drop 3) := am_ (o := 3) r3 s4
 have s2 : aj_ (Sit.all W) (aT_ x2 ++ (at_ x3 ++ ([]))) (cs.drop 2) := am_ (o := 2) r2 s3
 have s1 : aj_ (Sit.all W) (aT_ x1 ++ (aT_ x2 ++ (at_ x3 ++ ([])))) (cs.drop 1) := am_ (o := 1) r1 s2
 have s0 : aj_ (Sit.all W) (aT_ x0 ++ (aT_ x1 ++ (aT_ x2 ++ (at_ x3 ++ ([]))))) (cs.drop 0) := am_ (o := 0) r0 s1
 rw [drop_zero] at s0
 exact s0
theorem rG_ : ∃ i, prog.info? 9 = some i ∧ i.size = 1 := ci_ (by kernel_rfl)
theorem ea_ (W : World) : Rd prog W 69 (fun xs : List ByteArray => aN_ 1 at_ xs) (a6_ bf_) := by
 obtain ⟨i, h1, h2⟩ := rG_
 exact b5_ (by kernel_rfl) h1 h2 (by decide) (fun _ => rfl) (cy_ W)
theorem g9_ : ay_ prog 171 0 = some (0, 9, 1) := by kernel_rfl
theorem kU_ : ay_ prog 171 1 = some (1, 9, 1) := by kernel_rfl
theorem lb_ : ay_ prog 171 2 = some (2, 2, 1) := by kernel_rfl
theorem mo_ : ay_ prog 171 3 = some (3, 69, 1) := by kernel_rfl
theorem rS_ (W : World) : Rd prog W 171 aE_.cells aE_.wf := by
 intro H enc fuel cs d ps hr
 obtain ⟨fs, _, hfs, _⟩ := ag_ g9_
 have hcl : prog.cellsOf 171 = 4 := by kernel_rfl
 obtain ⟨xs, n, _, _, hlen, hxl, hall⟩ := DataW.trod_struct hfs hr
 rw [hcl] at hlen
 obtain ⟨fs0, f0, u0, v0, o0, y0, z0⟩ := ag_ g9_
 rw [hfs] at u0; simp only [Option.some.injEq, TypeDesc.struct.injEq] at u0; subst u0
 obtain ⟨x0, w0, r0⟩ := ar_ (sz := 1) hall hxl v0 o0 (by rw [y0]; exact z0) (by rw [y0]; exact cy_ W)
 obtain ⟨fs1, f1, u1, v1, o1, y1, z1⟩ := ag_ kU_
 rw [hfs] at u1; simp only [Option.some.injEq, TypeDesc.struct.injEq] at u1; subst u1
 obtain ⟨x1, w1, r1⟩ := ar_ (sz := 1) hall hxl v1 o1 (by rw [y1]; exact z1) (by rw [y1]; exact cy_ W)
 obtain ⟨fs2, f2, u2, v2, o2, y2, z2⟩ := ag_ lb_
 rw [hfs] at u2; simp only [Option.some.injEq, TypeDesc.struct.injEq] at u2; subst u2
 obtain ⟨x2, w2, r2⟩ := ar_ (sz := 1) hall hxl v2 o2 (by rw [y2]; exact z2) (by rw [y2]; exact b0_ W)
 obtain ⟨fs3, f3, u3, v3, o3, y3, z3⟩ := ag_ mo_
 rw [hfs] at u3; simp only [Option.some.injEq, TypeDesc.struct.injEq] at u3; subst u3
 obtain ⟨x3, w3, r3⟩ := ar_ (sz := 1) hall hxl v3 o3 (by rw [y3]; exact z3) (by rw [y3]; exact ea_ W)
 refine ⟨⟨x0, x1, x2, x3⟩, ⟨w0, w1, w2, w3, trivial⟩, ?_⟩
 have s4 : aj_ (Sit.all W) [] (cs.drop 4) := bz_ _ (drop_eq_nil_of_le (by omega))
 have s3 : aj_ (Sit.all W) ((aN_ 1 at_) x3 ++ ([])) (cs.drop 3) := am_ (o := 3) r3 s4
 have s2 : aj_ (Sit.all W) (aT_ x2 ++ ((aN_ 1 at_) x3 ++ ([]))) (cs.drop 2) := am_ (o := 2) r2 s3
 have s1 : aj_ (Sit.all W) (at_ x1 ++ (aT_ x2 ++ ((aN_ 1 at_) x3 ++ ([])))) (cs.drop 1) := am_ (o := 1) r1 s2
 have s0 : aj_ (Sit.all W) (at_ x0 ++ (at_ x1 ++ (aT_ x2 ++ ((aN_ 1 at_) x3 ++ ([]))))) (cs.drop 0) := am_ (o := 0) r0 s1
 rw [drop_zero] at s0
 exact s0
theorem mX_ : ∃ i, prog.info? 169 = some i ∧ i.size = 4 := ci_ (by kernel_rfl)
theorem vZ_ (W : World) : Rd prog W 22 (fun xs : List a4_ => aN_ 4 a4_.cells xs) (a6_ a4_.wf) := by
 obtain ⟨i, h1, h2⟩ := mX_
 exact b5_ (by kernel_rfl) h1 h2 (by decide) (fun _ => rfl) (uW_ W)
theorem na_ : ∃ i, prog.info? 171 = some i ∧ i.size = 4 := ci_ (by kernel_rfl)
theorem vw_ (W : World) : Rd prog W 23 (fun xs : List aE_ => aN_ 4 aE_.cells xs) (a6_ aE_.wf) := by
 obtain ⟨i, h1, h2⟩ := na_
 exact b5_ (by kernel_rfl) h1 h2 (by decide) (fun _ => rfl) (rS_ W)
theorem ii_ : ay_ prog 25 0 = some (0, 22, 1) := by kernel_rfl
theorem nr_ : ay_ prog 25 1 = some (1, 23, 1) := by kernel_rfl
theorem u8_ (W : World) : Rd prog W 25 as_.cells as_.wf := by
 intro H enc fuel cs d ps hr
 obtain ⟨fs, _, hfs, _⟩ := ag_ ii_
 have hcl : prog.cellsOf 25 = 2 := by kernel_rfl
 obtain ⟨xs, n, _, _, hlen, hxl, hall⟩ := DataW.trod_struct hfs hr
 rw [hcl] at hlen
 obtain ⟨fs0, f0, u0, v0, o0, y0, z0⟩ := ag_ ii_
 rw [hfs] at u0; simp only [Option.some.injEq, TypeDesc.struct.injEq] at u0; subst u0
 obtain ⟨x0, w0, r0⟩ := ar_ (sz := 1) hall hxl v0 o0 (by rw [y0]; exact z0) (by rw [y0]; exact vZ_ W)
 obtain ⟨fs1, f1, u1, v1, o1, y1, z1⟩ := ag_ nr_
 rw [hfs] at u1; simp only [Option.some.injEq, TypeDesc.struct.injEq] at u1; subst u1
 obtain ⟨x1, w1, r1⟩ := ar_ (sz := 1) hall hxl v1 o1 (by rw [y1]; exact z1) (by rw [y1]; exact vw_ W)
 refine ⟨⟨x0, x1⟩, ⟨w0, w1, trivial⟩, ?_⟩
 have s2 : aj_ (Sit.all W) [] (cs.drop 2) := bz_ _ (drop_eq_nil_of_le (by omega))
 have s1 : aj_ (Sit.all W) ((aN_ 4 aE_.cells) x1 ++ ([])) (cs.drop 1) := am_ (o := 1) r1 s2
 have s0 : aj_ (Sit.all W) ((aN_ 4 a4_.cells) x0 ++ ((aN_ 4 aE_.cells) x1 ++ ([]))) (cs.drop 0) := am_ (o := 0) r0 s1
 rw [drop_zero] at s0
 exact s0
theorem hC_ : ay_ prog 174 0 = some (0, 9, 1) := by kernel_rfl
theorem k8_ : ay_ prog 174 1 = some (1, 69, 1) := by kernel_rfl
theorem mv_ : ay_ prog 174 2 = some (2, 9, 1) := by kernel_rfl
theorem tz_ (W : World) : Rd prog W 174 aQ_.cells aQ_.wf := by
 intro H enc fuel cs d ps hr
 obtain ⟨fs, _, hfs, _⟩ := ag_ hC_
 have hcl : prog.cellsOf 174 = 3 := by kernel_rfl
 obtain ⟨xs, n, _, _, hlen, hxl, hall⟩ := DataW.trod_struct hfs hr
 rw [hcl] at hlen
 obtain ⟨fs0, f0, u0, v0, o0, y0, z0⟩ := ag_ hC_
 rw [hfs] at u0; simp only [Option.some.injEq, TypeDesc.struct.injEq] at u0; subst u0
 obtain ⟨x0, w0, r0⟩ := ar_ (sz := 1) hall hxl v0 o0 (by rw [y0]; exact z0) (by rw [y0]; exact cy_ W)
 obtain ⟨fs1, f1, u1, v1, o1, y1, z1⟩ := ag_ k8_
 rw [hfs] at u1; simp only [Option.some.injEq, TypeDesc.struct.injEq] at u1; subst u1
 obtain ⟨x1, w1, r1⟩ := ar_ (sz := 1) hall hxl v1 o1 (by rw [y1]; exact z1) (by rw [y1]; exact ea_ W)
 obtain ⟨fs2, f2, u2, v2, o2, y2, z2⟩ := ag_ mv_
 rw [hfs] at u2; simp only [Option.some.injEq, TypeDesc.struct.injEq] at u2; subst u2
 obtain ⟨x2, w2, r2⟩ := ar_ (sz := 1) hall hxl v2 o2 (by rw [y2]; exact z2) (by rw [y2]; exact cy_ W)
 refine ⟨⟨x0, x1, x2⟩, ⟨w0, w1, w2, trivial⟩, ?_⟩
 have s3 : aj_ (Sit.all W) [] (cs.drop 3) := bz_ _ (drop_eq_nil_of_le (by omega))
 have s2 : aj_ (Sit.all W) (at_ x2 ++ ([])) (cs.drop 2) := am_ (o := 2) r2 s3
 have s1 : aj_ (Sit.all W) ((aN_ 1 at_) x1 ++ (at_ x2 ++ ([]))) (cs.drop 1) := am_ (o := 1) r1 s2
 have s0 : aj_ (Sit.all W) (at_ x0 ++ ((aN_ 1 at_) x1 ++ (at_ x2 ++ ([])))) (cs.drop 0) := am_ (o := 0) r0 s1
 rw [drop_zero] at s0
 exact s0
theorem oq_ : ∃ i, prog.info? 174 = some i ∧ i.size = 3 := ci_ (by kernel_rfl)
theorem v6_ (W : World) : Rd prog W 27 (fun xs : List aQ_ => aN_ 3 aQ_.cells xs) (a6_ aQ_.wf) := by
 obtain ⟨i, h1, h2⟩ := oq_
 exact b5_ (by kernel_rfl) h1 h2 (by decide) (fun _ => rfl) (tz_ W)
theorem if_ : ay_ prog 29 0 = some (0, 27, 1) := by kernel_rfl
theorem pp_ (W : World) : Rd prog W 29 aZ_.cells aZ_.wf := by
 intro H enc fuel cs d ps hr
 obtain ⟨fs, _, hfs, _⟩ := ag_ if_
 have hcl : prog.cellsOf 29 = 1 := by kernel_rfl
 obtain ⟨xs, n, _, _, hlen, hxl, hall⟩ := DataW.trod_struct hfs hr
 rw [hcl] at hlen
 obtain ⟨fs0, f0, u0, v0, o0, y0, z0⟩ := ag_ if_
 rw [hfs] at u0; simp only [Option.some.injEq, TypeDesc.struct.injEq] at u0; subst u0
 obtain ⟨x0, w0, r0⟩ := ar_ (sz := 1) hall hxl v0 o0 (by rw [y0]; exact z0) (by rw [y0]; exact v6_ W)
 refine ⟨⟨x0⟩, ⟨w0, trivial⟩, ?_⟩
 have s1 : aj_ (Sit.all W) [] (cs.drop 1) := bz_ _ (drop_eq_nil_of_le (by omega))
 have s0 : aj_ (Sit.all W) ((aN_ 3 aQ_.cells) x0 ++ ([])) (cs.drop 0) := am_ (o := 0) r0 s1
 rw [drop_zero] at s0
 exact s0
theorem g7_ : ay_ prog 176 0 = some (0, 2, 1) := by kernel_rfl
theorem ms_ : ay_ prog 176 1 = some (1, 2, 1) := by kernel_rfl
theorem k0_ : ay_ prog 176 2 = some (2, 9, 1) := by kernel_rfl
theorem me_ : ay_ prog 176 3 = some (3, 69, 1) := by kernel_rfl
theorem ri_ (W : World) : Rd prog W 176 au_.cells au_.wf := by
 intro H enc fuel cs d ps hr
 obtain ⟨fs, _, hfs, _⟩ := ag_ g7_
 have hcl : prog.cellsOf 176 = 4 := by kernel_rfl
 obtain ⟨xs, n, _, _, hlen, hxl, hall⟩ := DataW.trod_struct hfs hr
 rw [hcl] at hlen
 obtain ⟨fs0, f0, u0, v0, o0, y0, z0⟩ := ag_ g7_
 rw [hfs] at u0; simp only [Option.some.injEq, TypeDesc.struct.injEq] at u0; subst u0
 obtain ⟨x0, w0, r0⟩ := ar_ (sz := 1) hall hxl v0 o0 (by rw [y0]; exact z0) (by rw [y0]; exact b0_ W)
 obtain ⟨fs1, f1, u1, v1, o1, y1, z1⟩ := ag_ ms_
 rw [hfs] at u1; simp only [Option.some.injEq, TypeDesc.struct.injEq] at u1; subst u1
 obtain ⟨x1, w1, r1⟩ := ar_ (sz := 1) hall hxl v1 o1 (by rw [y1]; exact z1) (by rw [y1]; exact b0_ W)
 obtain ⟨fs2, f2, u2, v2, o2, y2, z2⟩ := ag_ k0_
 rw [hfs] at u2; simp only [Option.some.injEq, TypeDesc.struct.injEq] at u2; subst u2
 obtain ⟨x2, w2, r2⟩ := ar_ (sz := 1) hall hxl v2 o2 (by rw [y2]; exact z2) (by rw [y2]; exact cy_ W)
 obtain ⟨fs3, f3, u3, v3, o3, y3, z3⟩ := ag_ me_
 rw [hfs] at u3; simp only [Option.some.injEq, TypeDesc.struct.injEq] at u3; subst u3
 obtain ⟨x3, w3, r3⟩ := ar_ (sz := 1) hall hxl v3 o3 (by rw [y3]; exact z3) (by rw [y3]; exact ea_ W)
 refine ⟨⟨x0, x1, x2, x3⟩, ⟨w0, w1, w2, w3, trivial⟩, ?_⟩
 have s4 : aj_ (Sit.all W) [] (cs.drop 4) := bz_ _ (drop_eq_nil_of_le (by omega))
 have s3 : aj_ (Sit.all W) ((aN_ 1 at_) x3 ++ ([])) (cs.drop 3) := am_ (o := 3) r3 s4
 have s2 : aj_ (Sit.all W) (at_ x2 ++ ((aN_ 1 at_) x3 ++ ([]))) (cs.drop 2) := am_ (o := 2) r2 s3
 have s1 : aj_ (Sit.all W) (aT_ x1 ++ (at_ x2 ++ ((aN_ 1 at_) x3 ++ ([])))) (cs.drop 1) := am_ (o := 1) r1 s2
 have s0 : aj_ (Sit.all W) (aT_ x0 ++ (aT_ x1 ++ (at_ x2 ++ ((aN_ 1 at_) x3 ++ ([]))))) (cs.drop 0) := am_ (o := 0) r0 s1
 rw [drop_zero] at s0
 exact s0
theorem ho_ : ay_ prog 178 0 = some (0, 2, 1) := by kernel_rfl
theorem mB_ : ay_ prog 178 1 = some (1, 2, 1) := by kernel_rfl
theorem lF_ : ay_ prog 178 2 = some (2, 9, 1) := by kernel_rfl
theorem mh_ : ay_ prog 178 3 = some (3, 69, 1) := by kernel_rfl
theorem t0_ (W : World) : Rd prog W 178 aV_.cells aV_.wf := by
 intro H enc fuel cs d ps hr
 obtain ⟨fs, _, hfs, _⟩ := ag_ ho_
 have hcl : prog.cellsOf 178 = 4 := by kernel_rfl
 obtain ⟨xs, n, _, _, hlen, hxl, hall⟩ := DataW.trod_struct hfs hr
 rw [hcl] at hlen
 obtain ⟨fs0, f0, u0, v0, o0, y0, z0⟩ := ag_ ho_
 rw [hfs] at u0; simp only [Option.some.injEq, TypeDesc.struct.injEq] at u0; subst u0
 obtain ⟨x0, w0, r0⟩ := ar_ (sz := 1) hall hxl v0 o0 (by rw [y0]; exact z0) (by rw [y0]; exact b0_ W)
 obtain ⟨fs1, f1, u1, v1, o1, y1, z1⟩ := ag_ mB_
 rw [hfs] at u1; simp only [Option.some.injEq, TypeDesc.struct.injEq] at u1; subst u1
 obtain ⟨x1, w1, r1⟩ := ar_ (sz := 1) hall hxl v1 o1 (by rw [y1]; exact z1) (by rw [y1]; exact b0_ W)
 obtain ⟨fs2, f2, u2, v2, o2, y2, z2⟩ := ag_ lF_
 rw [hfs] at u2; simp only [Option.some.injEq, TypeDesc.struct.injEq] at u2; subst u2
 obtain ⟨x2, w2, r2⟩ := ar_ (sz := 1) hall hxl v2 o2 (by rw [y2]; exact z2) (by rw [y2]; exact cy_ W)
 obtain ⟨fs3, f3, u3, v3, o3, y3, z3⟩ := ag_ mh_
 rw [hfs] at u3; simp only [Option.some.injEq, TypeDesc.struct.injEq] at u3; subst u3
 obtain ⟨x3, w3, r3⟩ := ar_ (sz := 1) hall hxl v3 o3 (by rw [y3]; exact z3) (by rw [y3]; exact ea_ W)
 refine ⟨⟨x0, x1, x2, x3⟩, ⟨w0, w1, w2, w3, trivial⟩, ?_⟩
 have s4 : aj_ (Sit.all W) [] (cs.drop 4) := bz_ _ (drop_eq_nil_of_le (by omega))
 have s3 : aj_ (Sit.all W) ((aN_ 1 at_) x3 ++ ([])) (cs.drop 3) := am_ (o := 3) r3 s4
 have s2 : aj_ (Sit.all W) (at_ x2 ++ ((aN_ 1 at_) x3 ++ ([]))) (cs.drop 2) := am_ (o := 2) r2 s3
 have s1 : aj_ (Sit.all W) (aT_ x1 ++ (at_ x2 ++ ((aN_ 1 at_) x3 ++ ([])))) (cs.drop 1) := am_ (o := 1) r1 s2
 have s0 : aj_ (Sit.all W) (aT_ x0 ++ (aT_ x1 ++ (at_ x2 ++ ((aN_ 1 at_) x3 ++ ([]))))) (cs.drop 0) := am_ (o := 0) r0 s1
 rw [drop_zero] at s0
 exact s0
theorem od_ : ∃ i, prog.info? 176 = some i ∧ i.size = 4 := ci_ (by kernel_rfl)
theorem pJ_ (W : World) : Rd prog W 30 (fun xs : List au_ => aN_ 4 au_.cells xs) (a6_ au_.wf) := by
 obtain ⟨i, h1, h2⟩ := od_
 exact b5_ (by kernel_rfl) h1 h2 (by decide) (fun _ => rfl) (ri_ W)
theorem og_ : ∃ i, prog.info? 178 = some i ∧ i.size = 4 := ci_ (by kernel_rfl)
theorem vi_ (W : World) : Rd prog W 31 (fun xs : List aV_ => aN_ 4 aV_.cells xs) (a6_ aV_.wf) := by
 obtain ⟨i, h1, h2⟩ := og_
 exact b5_ (by kernel_rfl) h1 h2 (by decide) (fun _ => rfl) (t0_ W)
theorem h7_ : ay_ prog 33 0 = some (0, 30, 1) := by kernel_rfl
theorem n5_ : ay_ prog 33 1 = some (1, 31, 1) := by kernel_rfl
theorem vk_ (W : World) : Rd prog W 33 aL_.cells aL_.wf := by
 intro H enc fuel cs d ps hr
 obtain ⟨fs, _, hfs, _⟩ := ag_ h7_
 have hcl : prog.cellsOf 33 = 2 := by kernel_rfl
 obtain ⟨xs, n, _, _, hlen, hxl, hall⟩ := DataW.trod_struct hfs hr
 rw [hcl] at hlen
 obtain ⟨fs0, f0, u0, v0, o0, y0, z0⟩ := ag_ h7_
 rw [hfs] at u0; simp only [Option.some.injEq, TypeDesc.struct.injEq] at u0; subst u0
 obtain ⟨x0, w0, r0⟩ := ar_ (sz := 1) hall hxl v0 o0 (by rw [y0]; exact z0) (by rw [y0]; exact pJ_ W)
 obtain ⟨fs1, f1, u1, v1, o1, y1, z1⟩ := ag_ n5_
 rw [hfs] at u1; simp only [Option.some.injEq, TypeDesc.struct.injEq] at u1; subst u1
 obtain ⟨x1, w1, r1⟩ := ar_ (sz := 1) hall hxl v1 o1 (by rw [y1]; exact z1) (by rw [y1]; exact vi_ W)
 refine ⟨⟨x0, x1⟩, ⟨w0, w1, trivial⟩, ?_⟩
 have s2 : aj_ (Sit.all W) [] (cs.drop 2) := bz_ _ (drop_eq_nil_of_le (by omega))
 have s1 : aj_ (Sit.all W) ((aN_ 4 aV_.cells) x1 ++ ([])) (cs.drop 1) := am_ (o := 1) r1 s2
 have s0 : aj_ (Sit.all W) ((aN_ 4 au_.cells) x0 ++ ((aN_ 4 aV_.cells) x1 ++ ([]))) (cs.drop 0) := am_ (o := 0) r0 s1
 rw [drop_zero] at s0
 exact s0
theorem fs_ (W : World) : Rd prog W 4 bw_ (fun _ : Bool => True) := p5_ (by kernel_rfl)
theorem he_ : ay_ prog 101 0 = some (0, 2, 1) := by kernel_rfl
theorem mc_ : ay_ prog 101 1 = some (1, 9, 1) := by kernel_rfl
theorem lD_ : ay_ prog 101 2 = some (2, 69, 1) := by kernel_rfl
theorem lZ_ : ay_ prog 101 3 = some (3, 4, 1) := by kernel_rfl
theorem k5_ : ay_ prog 101 4 = some (4, 4, 1) := by kernel_rfl
theorem l8_ : ay_ prog 101 5 = some (5, 9, 1) := by kernel_rfl
theorem mz_ : ay_ prog 101 6 = some (6, 9, 1) := by kernel_rfl
theorem tu_ (W : World) : Rd prog W 101 ak_.cells ak_.wf := by
 intro H enc fuel cs d ps hr
 obtain ⟨fs, _, hfs, _⟩ := ag_ he_
 have hcl : prog.cellsOf 101 = 7 := by kernel_rfl
 obtain ⟨xs, n, _, _, hlen, hxl, hall⟩ := DataW.trod_struct hfs hr
 rw [hcl] at hlen
 obtain ⟨fs0, f0, u0, v0, o0, y0, z0⟩ := ag_ he_
 rw [hfs] at u0; simp only [Option.some.injEq, TypeDesc.struct.injEq] at u0; subst u0
 obtain ⟨x0, w0, r0⟩ := ar_ (sz := 1) hall hxl v0 o0 (by rw [y0]; exact z0) (by rw [y0]; exact b0_ W)
 obtain ⟨fs1, f1, u1, v1, o1, y1, z1⟩ := ag_ mc_
 rw [hfs] at u1; simp only [Option.some.injEq, TypeDesc.struct.injEq] at u1; subst u1
 obtain ⟨x1, w1, r1⟩ := ar_ (sz := 1) hall hxl v1 o1 (by rw [y1]; exact z1) (by rw [y1]; exact cy_ W)
 obtain ⟨fs2, f2, u2, v2, o2, y2, z2⟩ := ag_ lD_
 rw [hfs] at u2; simp only [Option.some.injEq, TypeDesc.struct.injEq] at u2; subst u2
 obtain ⟨x2, w2, r2⟩ := ar_ (sz := 1) hall hxl v2 o2 (by rw [y2]; exact z2) (by rw [y2]; exact ea_ W)
 obtain ⟨fs3, f3, u3, v3, o3, y3, z3⟩ := ag_ lZ_
 rw [hfs] at u3; simp only [Option.some.injEq, TypeDesc.struct.injEq] at u3; subst u3
 obtain ⟨x3, w3, r3⟩ := ar_ (sz := 1) hall hxl v3 o3 (by rw [y3]; exact z3) (by rw [y3]; exact fs_ W)
 obtain ⟨fs4, f4, u4, v4, o4, y4, z4⟩ := ag_ k5_
 rw [hfs] at u4; simp only [Option.some.injEq, TypeDesc.struct.injEq] at u4; subst u4
 obtain ⟨x4, w4, r4⟩ := ar_ (sz := 1) hall hxl v4 o4 (by rw [y4]; exact z4) (by rw [y4]; exact fs_ W)
 obtain ⟨fs5, f5, u5, v5, o5, y5, z5⟩ := ag_ l8_
 rw [hfs] at u5; simp only [Option.some.injEq, TypeDesc.struct.injEq] at u5; subst u5
 obtain ⟨x5, w5, r5⟩ := ar_ (sz := 1) hall hxl v5 o5 (by rw [y5]; exact z5) (by rw [y5]; exact cy_ W)
 obtain ⟨fs6, f6, u6, v6, o6, y6, z6⟩ := ag_ mz_
 rw [hfs] at u6; simp only [Option.some.injEq, TypeDesc.struct.injEq] at u6; subst u6
 obtain ⟨x6, w6, r6⟩ := ar_ (sz := 1) hall hxl v6 o6 (by rw [y6]; exact z6) (by rw [y6]; exact cy_ W)
 refine ⟨⟨x0, x1, x2, x3, x4, x5, x6⟩, ⟨w0, w1, w2, w3, w4, w5, w6, trivial⟩, ?_⟩
 have s7 : aj_ (Sit.all W) [] (cs.drop 7) := bz_ _ (drop_eq_nil_of_le (by omega))
 have s6 : aj_ (Sit.all W) (at_ x6 ++ ([])) (cs.drop 6) := am_ (o := 6) r6 s7
 have s5 : aj_ (Sit.all W) (at_ x5 ++ (at_ x6 ++ ([]))) (cs.drop 5) := am_ (o := 5) r5 s6
 have s4 : aj_ (Sit.all W) (bw_ x4 ++ (at_ x5 ++ (at_ x6 ++ ([])))) (cs.drop 4) := am_ (o := 4) r4 s5
 have s3 : aj_ (Sit.all W) (bw_ x3 ++ (bw_ x4 ++ (at_ x5 ++ (at_ x6 ++ ([]))))) (cs.drop 3) := am_ (o := 3) r3 s4
 have s2 : aj_ (Sit.all W) ((aN_ 1 at_) x2 ++ (bw_ x3 ++ (bw_ x4 ++ (at_ x5 ++ (at_ x6 ++ ([])))))) (cs.drop 2) := am_ (o := 2) r2 s3
 have s1 : aj_ (Sit.all W) (at_ x1 ++ ((aN_ 1 at_) x2 ++ (bw_ x3 ++ (bw_ x4 ++ (at_ x5 ++ (at_ x6 ++ ([]))))))) (cs.drop 1) := am_ (o := 1) r1 s2
 have s0 : aj_ (Sit.all W) (aT_ x0 ++ (at_ x1 ++ ((aN_ 1 at_) x2 ++ (bw_ x3 ++ (bw_ x4 ++ (at_ x5 ++ (at_ x6 ++ ([])))))))) (cs.drop 0) := am_ (o := 0) r0 s1
 rw [drop_zero] at s0
 exact s0
theorem hq_ : ay_ prog 115 0 = some (0, 4, 1) := by kernel_rfl
theorem mE_ : ay_ prog 115 1 = some (1, 9, 1) := by kernel_rfl
theorem l0_ : ay_ prog 115 2 = some (2, 69, 1) := by kernel_rfl
theorem mt_ (W : World) : Rd prog W 115 aH_.cells aH_.wf := by
 intro H enc fuel cs d ps hr
 obtain ⟨fs, _, hfs, _⟩ := ag_ hq_
 have hcl : prog.cellsOf 115 = 3 := by kernel_rfl
 obtain ⟨xs, n, _, _, hlen, hxl, hall⟩ := DataW.trod_struct hfs hr
 rw [hcl] at hlen
 obtain ⟨fs0, f0, u0, v0, o0, y0, z0⟩ := ag_ hq_
 rw [hfs] at u0; simp only [Option.some.injEq, TypeDesc.struct.injEq] at u0; subst u0
 obtain ⟨x0, w0, r0⟩ := ar_ (sz := 1) hall hxl v0 o0 (by rw [y0]; exact z0) (by rw [y0]; exact fs_ W)
 obtain ⟨fs1, f1, u1, v1, o1, y1, z1⟩ := ag_ mE_
 rw [hfs] at u1; simp only [Option.some.injEq, TypeDesc.struct.injEq] at u1; subst u1
 obtain ⟨x1, w1, r1⟩ := ar_ (sz := 1) hall hxl v1 o1 (by rw [y1]; exact z1) (by rw [y1]; exact cy_ W)
 obtain ⟨fs2, f2, u2, v2, o2, y2, z2⟩ := ag_ l0_
 rw [hfs] at u2; simp only [Option.some.injEq, TypeDesc.struct.injEq] at u2; subst u2
 obtain ⟨x2, w2, r2⟩ := ar_ (sz := 1) hall hxl v2 o2 (by rw [y2]; exact z2) (by rw [y2]; exact ea_ W)
 refine ⟨⟨x0, x1, x2⟩, ⟨w0, w1, w2, trivial⟩, ?_⟩
 have s3 : aj_ (Sit.all W) [] (cs.drop 3) := bz_ _ (drop_eq_nil_of_le (by omega))
 have s2 : aj_ (Sit.all W) ((aN_ 1 at_) x2 ++ ([])) (cs.drop 2) := am_ (o := 2) r2 s3
 have s1 : aj_ (Sit.all W) (at_ x1 ++ ((aN_ 1 at_) x2 ++ ([]))) (cs.drop 1) := am_ (o := 1) r1 s2
 have s0 : aj_ (Sit.all W) (bw_ x0 ++ (at_ x1 ++ ((aN_ 1 at_) x2 ++ ([])))) (cs.drop 0) := am_ (o := 0) r0 s1
 rw [drop_zero] at s0
 exact s0
theorem hB_ : ay_ prog 236 0 = some (0, 4, 1) := by kernel_rfl
theorem k9_ : ay_ prog 236 1 = some (1, 9, 1) := by kernel_rfl
theorem sB_ (W : World) : Rd prog W 236 aA_.cells aA_.wf := by
 intro H enc fuel cs d ps hr
 obtain ⟨fs, _, hfs, _⟩ := ag_ hB_
 have hcl : prog.cellsOf 236 = 2 := by kernel_rfl
 obtain ⟨xs, n, _, _, hlen, hxl, hall⟩ := DataW.trod_struct hfs hr
 rw [hcl] at hlen
 obtain ⟨fs0, f0, u0, v0, o0, y0, z0⟩ := ag_ hB_
 rw [hfs] at u0; simp only [Option.some.injEq, TypeDesc.struct.injEq] at u0; subst u0
 obtain ⟨x0, w0, r0⟩ := ar_ (sz := 1) hall hxl v0 o0 (by rw [y0]; exact z0) (by rw [y0]; exact fs_ W)
 obtain ⟨fs1, f1, u1, v1, o1, y1, z1⟩ := ag_ k9_
 rw [hfs] at u1; simp only [Option.some.injEq, TypeDesc.struct.injEq] at u1; subst u1
 obtain ⟨x1, w1, r1⟩ := ar_ (sz := 1) hall hxl v1 o1 (by rw [y1]; exact z1) (by rw [y1]; exact cy_ W)
 refine ⟨⟨x0, x1⟩, ⟨w0, w1, trivial⟩, ?_⟩
 have s2 : aj_ (Sit.all W) [] (cs.drop 2) := bz_ _ (drop_eq_nil_of_le (by omega))
 have s1 : aj_ (Sit.all W) (at_ x1 ++ ([])) (cs.drop 1) := am_ (o := 1) r1 s2
 have s0 : aj_ (Sit.all W) (bw_ x0 ++ (at_ x1 ++ ([]))) (cs.drop 0) := am_ (o := 0) r0 s1
 rw [drop_zero] at s0
 exact s0
theorem hu_ : ay_ prog 238 0 = some (0, 9, 1) := by kernel_rfl
theorem k6_ : ay_ prog 238 1 = some (1, 2, 1) := by kernel_rfl
theorem lH_ : ay_ prog 238 2 = some (2, 2, 1) := by kernel_rfl
theorem lI_ : ay_ prog 238 3 = some (3, 4, 1) := by kernel_rfl
theorem kT_ : ay_ prog 238 4 = some (4, 2, 1) := by kernel_rfl
theorem kQ_ : ay_ prog 238 5 = some (5, 2, 1) := by kernel_rfl
theorem sc_ (W : World) : Rd prog W 238 aR_.cells aR_.wf := by
 intro H enc fuel cs d ps hr
 obtain ⟨fs, _, hfs, _⟩ := ag_ hu_
 have hcl : prog.cellsOf 238 = 6 := by kernel_rfl
 obtain ⟨xs, n, _, _, hlen, hxl, hall⟩ := DataW.trod_struct hfs hr
 rw [hcl] at hlen
 obtain ⟨fs0, f0, u0, v0, o0, y0, z0⟩ := ag_ hu_
 rw [hfs] at u0; simp only [Option.some.injEq, TypeDesc.struct.injEq] at u0; subst u0
 obtain ⟨x0, w0, r0⟩ := ar_ (sz := 1) hall hxl v0 o0 (by rw [y0]; exact z0) (by rw [y0]; exact cy_ W)
 obtain ⟨fs1, f1, u1, v1, o1, y1, z1⟩ := ag_ k6_
 rw [hfs] at u1; simp only [Option.some.injEq, TypeDesc.struct.injEq] at u1; subst u1
 obtain ⟨x1, w1, r1⟩ := ar_ (sz := 1) hall hxl v1 o1 (by rw [y1]; exact z1) (by rw [y1]; exact b0_ W)
 obtain ⟨fs2, f2, u2, v2, o2, y2, z2⟩ := ag_ lH_
 rw [hfs] at u2; simp only [Option.some.injEq, TypeDesc.struct.injEq] at u2; subst u2
 obtain ⟨x2, w2, r2⟩ := ar_ (sz := 1) hall hxl v2 o2 (by rw [y2]; exact z2) (by rw [y2]; exact b0_ W)
 obtain ⟨fs3, f3, u3, v3, o3, y3, z3⟩ := ag_ lI_
 rw [hfs] at u3; simp only [Option.some.injEq, TypeDesc.struct.injEq] at u3; subst u3
 obtain ⟨x3, w3, r3⟩ := ar_ (sz := 1) hall hxl v3 o3 (by rw [y3]; exact z3) (by rw [y3]; exact fs_ W)
 obtain ⟨fs4, f4, u4, v4, o4, y4, z4⟩ := ag_ kT_
 rw [hfs] at u4; simp only [Option.some.injEq, TypeDesc.struct.injEq] at u4; subst u4
 obtain ⟨x4, w4, r4⟩ := ar_ (sz := 1) hall hxl v4 o4 (by rw [y4]; exact z4) (by rw [y4]; exact b0_ W)
 obtain ⟨fs5, f5, u5, v5, o5, y5, z5⟩ := ag_ kQ_
 rw [hfs] at u5; simp only [Option.some.injEq, TypeDesc.struct.injEq] at u5; subst u5
 obtain ⟨x5, w5, r5⟩ := ar_ (sz := 1) hall hxl v5 o5 (by rw [y5]; exact z5) (by rw [y5]; exact b0_ W)
 refine ⟨⟨x0, x1, x2, x3, x4, x5⟩, ⟨w0, w1, w2, w3, w4, w5, trivial⟩, ?_⟩
 have s6 : aj_ (Sit.all W) [] (cs.drop 6) := bz_ _ (drop_eq_nil_of_le (by omega))
 have s5 : aj_ (Sit.all W) (aT_ x5 ++ ([])) (cs.drop 5) := am_ (o := 5) r5 s6
 have s4 : aj_ (Sit.all W) (aT_ x4 ++ (aT_ x5 ++ ([]))) (cs.drop 4) := am_ (o := 4) r4 s5
 have s3 : aj_ (Sit.all W) (bw_ x3 ++ (aT_ x4 ++ (aT_ x5 ++ ([])))) (cs.drop 3) := am_ (o := 3) r3 s4
 have s2 : aj_ (Sit.all W) (aT_ x2 ++ (bw_ x3 ++ (aT_ x4 ++ (aT_ x5 ++ ([]))))) (cs.drop 2) := am_ (o := 2) r2 s3
 have s1 : aj_ (Sit.all W) (aT_ x1 ++ (aT_ x2 ++ (bw_ x3 ++ (aT_ x4 ++ (aT_ x5 ++ ([])))))) (cs.drop 1) := am_ (o := 1) r1 s2
 have s0 : aj_ (Sit.all W) (at_ x0 ++ (aT_ x1 ++ (aT_ x2 ++ (bw_ x3 ++ (aT_ x4 ++ (aT_ x5 ++ ([]))))))) (cs.drop 0) := am_ (o := 0) r0 s1
 rw [drop_zero] at s0
 exact s0
theorem hl_ : ay_ prog 240 0 = some (0, 2, 1) := by kernel_rfl
theorem lN_ : ay_ prog 240 1 = some (1, 4, 1) := by kernel_rfl
theorem mN_ : ay_ prog 240 2 = some (2, 4, 1) := by kernel_rfl
theorem kP_ : ay_ prog 240 3 = some (3, 2, 1) := by kernel_rfl
theorem kN_ : ay_ prog 240 4 = some (4, 2, 1) := by kernel_rfl
theorem mI_ : ay_ prog 240 5 = some (5, 2, 1) := by kernel_rfl
theorem mM_ : ay_ prog 240 6 = some (6, 2, 1) := by kernel_rfl
theorem lT_ : ay_ prog 240 7 = some (7, 9, 1) := by kernel_rfl
theorem lY_ : ay_ prog 240 8 = some (8, 9, 1) := by kernel_rfl
theorem sS_ (W : World) : Rd prog W 240 aF_.cells aF_.wf := by
 intro H enc fuel cs d ps hr
 obtain ⟨fs, _, hfs, _⟩ := ag_ hl_
 have hcl : prog.cellsOf 240 = 9 := by kernel_rfl
 obtain ⟨xs, n, _, _, hlen, hxl, hall⟩ := DataW.trod_struct hfs hr
 rw [hcl] at hlen
 obtain ⟨fs0, f0, u0, v0, o0, y0, z0⟩ := ag_ hl_
 rw [hfs] at u0; simp only [Option.some.injEq, TypeDesc.struct.injEq] at u0; subst u0
 obtain ⟨x0, w0, r0⟩ := ar_ (sz := 1) hall hxl v0 o0 (by rw [y0]; exact z0) (by rw [y0]; exact b0_ W)
 obtain ⟨fs1, f1, u1, v1, o1, y1, z1⟩ := ag_ lN_
 rw [hfs] at u1; simp only [Option.some.injEq, TypeDesc.struct.injEq] at u1; subst u1
 obtain ⟨x1, w1, r1⟩ := ar_ (sz := 1) hall hxl v1 o1 (by rw [y1]; exact z1) (by rw [y1]; exact fs_ W)
 obtain ⟨fs2, f2, u2, v2, o2, y2, z2⟩ := ag_ mN_
 rw [hfs] at u2; simp only [Option.some.injEq, TypeDesc.struct.injEq] at u2; subst u2
 obtain ⟨x2, w2, r2⟩ := ar_ (sz := 1) hall hxl v2 o2 (by rw [y2]; exact z2) (by rw [y2]; exact fs_ W)
 obtain ⟨fs3, f3, u3, v3, o3, y3, z3⟩ := ag_ kP_
 rw [hfs] at u3; simp only [Option.some.injEq, TypeDesc.struct.injEq] at u3; subst u3
 obtain ⟨x3, w3, r3⟩ := ar_ (sz := 1) hall hxl v3 o3 (by rw [y3]; exact z3) (by rw [y3]; exact b0_ W)
 obtain ⟨fs4, f4, u4, v4, o4, y4, z4⟩ := ag_ kN_
 rw [hfs] at u4; simp only [Option.some.injEq, TypeDesc.struct.injEq] at u4; subst u4
 obtain ⟨x4, w4, r4⟩ := ar_ (sz := 1) hall hxl v4 o4 (by rw [y4]; exact z4) (by rw [y4]; exact b0_ W)
 obtain ⟨fs5, f5, u5, v5, o5, y5, z5⟩ := ag_ mI_
 rw [hfs] at u5; simp only [Option.some.injEq, TypeDesc.struct.injEq] at u5; subst u5
 obtain ⟨x5, w5, r5⟩ := ar_ (sz := 1) hall hxl v5 o5 (by rw [y5]; exact z5) (by rw [y5]; exact b0_ W)
 obtain ⟨fs6, f6, u6, v6, o6, y6, z6⟩ := ag_ mM_
 rw [hfs] at u6; simp only [Option.some.injEq, TypeDesc.struct.injEq] at u6; subst u6
 obtain ⟨x6, w6, r6⟩ := ar_ (sz := 1) hall hxl v6 o6 (by rw [y6]; exact z6) (by rw [y6]; exact b0_ W)
 obtain ⟨fs7, f7, u7, v7, o7, y7, z7⟩ := ag_ lT_
 rw [hfs] at u7; simp only [Option.some.injEq, TypeDesc.struct.injEq] at u7; subst u7
 obtain ⟨x7, w7, r7⟩ := ar_ (sz := 1) hall hxl v7 o7 (by rw [y7]; exact z7) (by rw [y7]; exact cy_ W)
 obtain ⟨fs8, f8, u8, v8, o8, y8, z8⟩ := ag_ lY_
 rw [hfs] at u8; simp only [Option.some.injEq, TypeDesc.struct.injEq] at u8; subst u8
 obtain ⟨x8, w8, r8⟩ := ar_ (sz := 1) hall hxl v8 o8 (by rw [y8]; exact z8) (by rw [y8]; exact cy_ W)
 refine ⟨⟨x0, x1, x2, x3, x4, x5, x6, x7, x8⟩, ⟨w0, w1, w2, w3, w4, w5, w6, w7, w8, trivial⟩, ?_⟩
 have s9 : aj_ (Sit.all W) [] (cs.drop 9) := bz_ _ (drop_eq_nil_of_le (by omega))
 have s8 : aj_ (Sit.all W) (at_ x8 ++ ([])) (cs.drop 8) := am_ (o := 8) r8 s9
 have s7 : aj_ (Sit.all W) (at_ x7 ++ (at_ x8 ++ ([]))) (cs.drop 7) := am_ (o := 7) r7 s8
 have s6 : aj_ (Sit.all W) (aT_ x6 ++ (at_ x7 ++ (at_ x8 ++ ([])))) (cs.drop 6) := am_ (o := 6) r6 s7
 have s5 : aj_ (Sit.all W) (aT_ x5 ++ (aT_ x6 ++ (at_ x7 ++ (at_ x8 ++ ([]))))) (cs.drop 5) := am_ (o := 5) r5 s6
 have s4 : aj_ (Sit.all W) (aT_ x4 ++ (aT_ x5 ++ (aT_ x6 ++ (at_ x7 ++ (at_ x8 ++ ([])))))) (cs.drop 4) := am_ (o := 4) r4 s5
 have s3 : aj_ (Sit.all W) (aT_ x3 ++ (aT_ x4 ++ (aT_ x5 ++ (aT_ x6 ++ (at_ x7 ++ (at_ x8 ++ ([]))))))) (cs.drop 3) := am_ (o := 3) r3 s4
 have s2 : aj_ (Sit.all W) (bw_ x2 ++ (aT_ x3 ++ (aT_ x4 ++ (aT_ x5 ++ (aT_ x6 ++ (at_ x7 ++ (at_ x8 ++ ([])))))))) (cs.drop 2) := am_ (o := 2) r2 s3
 have s1 : aj_ (Sit.all W) (bw_ x1 ++ (bw_ x2 ++ (aT_ x3 ++ (aT_ x4 ++ (aT_ x5 ++ (aT_ x6 ++ (at_ x7 ++ (at_ x8 ++ ([]))))))))) (cs.drop 1) := am_ (o := 1) r1 s2
 have s0 : aj_ (Sit.all W) (aT_ x0 ++ (bw_ x1 ++ (bw_ x2 ++ (aT_ x3 ++ (aT_ x4 ++ (aT_ x5 ++ (aT_ x6 ++ (at_ x7 ++ (at_ x8 ++ ([])))))))))) (cs.drop 0) := am_ (o := 0) r0 s1
 rw [drop_zero] at s0
 exact s0
theorem hb_ : ay_ prog 256 0 = some (0, 9, 1) := by kernel_rfl
theorem mu_ : ay_ prog 256 1 = some (1, 2, 1) := by kernel_rfl
theorem qJ_ (W : World) : Rd prog W 256 aG_.cells aG_.wf := by
 intro H enc fuel cs d ps hr
 obtain ⟨fs, _, hfs, _⟩ := ag_ hb_
 have hcl : prog.cellsOf 256 = 2 := by kernel_rfl
 obtain ⟨xs, n, _, _, hlen, hxl, hall⟩ := DataW.trod_struct hfs hr
 rw [hcl] at hlen
 obtain ⟨fs0, f0, u0, v0, o0, y0, z0⟩ := ag_ hb_
 rw [hfs] at u0; simp only [Option.some.injEq, TypeDesc.struct.injEq] at u0; subst u0
 obtain ⟨x0, w0, r0⟩ := ar_ (sz := 1) hall hxl v0 o0 (by rw [y0]; exact z0) (by rw [y0]; exact cy_ W)
 obtain ⟨fs1, f1, u1, v1, o1, y1, z1⟩ := ag_ mu_
 rw [hfs] at u1; simp only [Option.some.injEq, TypeDesc.struct.injEq] at u1; subst u1
 obtain ⟨x1, w1, r1⟩ := ar_ (sz := 1) hall hxl v1 o1 (by rw [y1]; exact z1) (by rw [y1]; exact b0_ W)
 refine ⟨⟨x0, x1⟩, ⟨w0, w1, trivial⟩, ?_⟩
 have s2 : aj_ (Sit.all W) [] (cs.drop 2) := bz_ _ (drop_eq_nil_of_le (by omega))
 have s1 : aj_ (Sit.all W) (aT_ x1 ++ ([])) (cs.drop 1) := am_ (o := 1) r1 s2
 have s0 : aj_ (Sit.all W) (at_ x0 ++ (aT_ x1 ++ ([]))) (cs.drop 0) := am_ (o := 0) r0 s1
 rw [drop_zero] at s0
 exact s0
theorem hn_ : ay_ prog 259 0 = some (0, 2, 1) := by kernel_rfl
theorem lB_ : ay_ prog 259 1 = some (1, 29, 1) := by kernel_rfl
theorem rV_ (W : World) : Rd prog W 259 aM_.cells aM_.wf := by
 intro H enc fuel cs d ps hr
 obtain ⟨fs, _, hfs, _⟩ := ag_ hn_
 have hcl : prog.cellsOf 259 = 2 := by kernel_rfl
 obtain ⟨xs, n, _, _, hlen, hxl, hall⟩ := DataW.trod_struct hfs hr
 rw [hcl] at hlen
 obtain ⟨fs0, f0, u0, v0, o0, y0, z0⟩ := ag_ hn_
 rw [hfs] at u0; simp only [Option.some.injEq, TypeDesc.struct.injEq] at u0; subst u0
 obtain ⟨x0, w0, r0⟩ := ar_ (sz := 1) hall hxl v0 o0 (by rw [y0]; exact z0) (by rw [y0]; exact b0_ W)
 obtain ⟨fs1, f1, u1, v1, o1, y1, z1⟩ := ag_ lB_
 rw [hfs] at u1; simp only [Option.some.injEq, TypeDesc.struct.injEq] at u1; subst u1
 obtain ⟨x1, w1, r1⟩ := ar_ (sz := 1) hall hxl v1 o1 (by rw [y1]; exact z1) (by rw [y1]; exact pp_ W)
 refine ⟨⟨x0, x1⟩, ⟨w0, w1, trivial⟩, ?_⟩
 have s2 : aj_ (Sit.all W) [] (cs.drop 2) := bz_ _ (drop_eq_nil_of_le (by omega))
 have s1 : aj_ (Sit.all W) (aZ_.cells x1 ++ ([])) (cs.drop 1) := am_ (o := 1) r1 s2
 have s0 : aj_ (Sit.all W) (aT_ x0 ++ (aZ_.cells x1 ++ ([]))) (cs.drop 0) := am_ (o := 0) r0 s1
 rw [drop_zero] at s0
 exact s0
theorem nk_ : ∃ i, prog.info? 256 = some i ∧ i.size = 2 := ci_ (by kernel_rfl)
theorem mD_ (W : World) : Rd prog W 110 (fun xs : List aG_ => aN_ 2 aG_.cells xs) (a6_ aG_.wf) := by
 obtain ⟨i, h1, h2⟩ := nk_
 exact b5_ (by kernel_rfl) h1 h2 (by decide) (fun _ => rfl) (qJ_ W)
theorem g5_ : ay_ prog 262 0 = some (0, 110, 1) := by kernel_rfl
theorem rJ_ (W : World) : Rd prog W 262 aw_.cells aw_.wf := by
 intro H enc fuel cs d ps hr
 obtain ⟨fs, _, hfs, _⟩ := ag_ g5_
 have hcl : prog.cellsOf 262 = 1 := by kernel_rfl
 obtain ⟨xs, n, _, _, hlen, hxl, hall⟩ := DataW.trod_struct hfs hr
 rw [hcl] at hlen
 obtain ⟨fs0, f0, u0, v0, o0, y0, z0⟩ := ag_ g5_
 rw [hfs] at u0; simp only [Option.some.injEq, TypeDesc.struct.injEq] at u0; subst u0
 obtain ⟨x0, w0, r0⟩ := ar_ (sz := 1) hall hxl v0 o0 (by rw [y0]; exact z0) (by rw [y0]; exact mD_ W)
 refine ⟨⟨x0⟩, ⟨w0, trivial⟩, ?_⟩
 have s1 : aj_ (Sit.all W) [] (cs.drop 1) := bz_ _ (drop_eq_nil_of_le (by omega))
 have s0 : aj_ (Sit.all W) ((aN_ 2 aG_.cells) x0 ++ ([])) (cs.drop 0) := am_ (o := 0) r0 s1
 rw [drop_zero] at s0
 exact s0
theorem ne_ : ∃ i, prog.info? 259 = some i ∧ i.size = 2 := ci_ (by kernel_rfl)
theorem tF_ (W : World) : Rd prog W 111 (fun xs : List aM_ => aN_ 2 aM_.cells xs) (a6_ aM_.wf) := by
 obtain ⟨i, h1, h2⟩ := ne_
 exact b5_ (by kernel_rfl) h1 h2 (by decide) (fun _ => rfl) (rV_ W)
theorem no_ : ∃ i, prog.info? 262 = some i ∧ i.size = 1 := ci_ (by kernel_rfl)
theorem tx_ (W : World) : Rd prog W 112 (fun xs : List aw_ => aN_ 1 aw_.cells xs) (a6_ aw_.wf) := by
 obtain ⟨i, h1, h2⟩ := no_
 exact b5_ (by kernel_rfl) h1 h2 (by decide) (fun _ => rfl) (rJ_ W)
theorem hw_ : ay_ prog 114 0 = some (0, 2, 1) := by kernel_rfl
theorem lj_ : ay_ prog 114 1 = some (1, 110, 1) := by kernel_rfl
theorem lA_ : ay_ prog 114 2 = some (2, 111, 1) := by kernel_rfl
theorem lP_ : ay_ prog 114 3 = some (3, 112, 1) := by kernel_rfl
theorem ti_ (W : World) : Rd prog W 114 aU_.cells aU_.wf := by
 intro H enc fuel cs d ps hr
 obtain ⟨fs, _, hfs, _⟩ := ag_ hw_
 have hcl : prog.cellsOf 114 = 4 := by kernel_rfl
 obtain ⟨xs, n, _, _, hlen, hxl, hall⟩ := DataW.trod_struct hfs hr
 rw [hcl] at hlen
 obtain ⟨fs0, f0, u0, v0, o0, y0, z0⟩ := ag_ hw_
 rw [hfs] at u0; simp only [Option.some.injEq, TypeDesc.struct.injEq] at u0; subst u0
 obtain ⟨x0, w0, r0⟩ := ar_ (sz := 1) hall hxl v0 o0 (by rw [y0]; exact z0) (by rw [y0]; exact b0_ W)
 obtain ⟨fs1, f1, u1, v1, o1, y1, z1⟩ := ag_ lj_
 rw [hfs] at u1; simp only [Option.some.injEq, TypeDesc.struct.injEq] at u1; subst u1
 obtain ⟨x1, w1, r1⟩ := ar_ (sz := 1) hall hxl v1 o1 (by rw [y1]; exact z1) (by rw [y1]; exact mD_ W)
 obtain ⟨fs2, f2, u2, v2, o2, y2, z2⟩ := ag_ lA_
 rw [hfs] at u2; simp only [Option.some.injEq, TypeDesc.struct.injEq] at u2; subst u2
 obtain ⟨x2, w2, r2⟩ := ar_ (sz := 1) hall hxl v2 o2 (by rw [y2]; exact z2) (by rw [y2]; exact tF_ W)
 obtain ⟨fs3, f3, u3, v3, o3, y3, z3⟩ := ag_ lP_
 rw [hfs] at u3; simp only [Option.some.injEq, TypeDesc.struct.injEq] at u3; subst u3
 obtain ⟨x3, w3, r3⟩ := ar_ (sz := 1) hall hxl v3 o3 (by rw [y3]; exact z3) (by rw [y3]; exact tx_ W)
 refine ⟨⟨x0, x1, x2, x3⟩, ⟨w0, w1, w2, w3, trivial⟩, ?_⟩
 have s4 : aj_ (Sit.all W) [] (cs.drop 4) := bz_ _ (drop_eq_nil_of_le (by omega))
 have s3 : aj_ (Sit.all W) ((aN_ 1 aw_.cells) x3 ++ ([])) (cs.drop 3) := am_ (o := 3) r3 s4
 have s2 : aj_ (Sit.all W) ((aN_ 2 aM_.cells) x2 ++ ((aN_ 1 aw_.cells) x3 ++ ([]))) (cs.drop 2) := am_ (o := 2) r2 s3
 have s1 : aj_ (Sit.all W) ((aN_ 2 aG_.cells) x1 ++ ((aN_ 2 aM_.cells) x2 ++ ((aN_ 1 aw_.cells) x3 ++ ([])))) (cs.drop 1) := am_ (o := 1) r1 s2
 have s0 : aj_ (Sit.all W) (aT_ x0 ++ ((aN_ 2 aG_.cells) x1 ++ ((aN_ 2 aM_.cells) x2 ++ ((aN_ 1 aw_.cells) x3 ++ ([]))))) (cs.drop 0) := am_ (o := 0) r0 s1
 rw [drop_zero] at s0
 exact s0
theorem om_ : ∃ i, prog.info? 115 = some i ∧ i.size = 3 := ci_ (by kernel_rfl)
theorem sI_ (W : World) : Rd prog W 106 (fun xs : List aH_ => aN_ 3 aH_.cells xs) (a6_ aH_.wf) := by
 obtain ⟨i, h1, h2⟩ := om_
 exact b5_ (by kernel_rfl) h1 h2 (by decide) (fun _ => rfl) (mt_ W)
theorem oc_ : ∃ i, prog.info? 236 = some i ∧ i.size = 2 := ci_ (by kernel_rfl)
theorem r4_ (W : World) : Rd prog W 107 (fun xs : List aA_ => aN_ 2 aA_.cells xs) (a6_ aA_.wf) := by
 obtain ⟨i, h1, h2⟩ := oc_
 exact b5_ (by kernel_rfl) h1 h2 (by decide) (fun _ => rfl) (sB_ W)
theorem nt_ : ∃ i, prog.info? 238 = some i ∧ i.size = 6 := ci_ (by kernel_rfl)
theorem rT_ (W : World) : Rd prog W 108 (fun xs : List aR_ => aN_ 6 aR_.cells xs) (a6_ aR_.wf) := by
 obtain ⟨i, h1, h2⟩ := nt_
 exact b5_ (by kernel_rfl) h1 h2 (by decide) (fun _ => rfl) (sc_ W)
theorem n7_ : ∃ i, prog.info? 240 = some i ∧ i.size = 9 := ci_ (by kernel_rfl)
theorem tZ_ (W : World) : Rd prog W 109 (fun xs : List aF_ => aN_ 9 aF_.cells xs) (a6_ aF_.wf) := by
 obtain ⟨i, h1, h2⟩ := n7_
 exact b5_ (by kernel_rfl) h1 h2 (by decide) (fun _ => rfl) (sS_ W)
theorem ht_ : ay_ prog 117 0 = some (0, 2, 1) := by kernel_rfl
theorem kK_ : ay_ prog 117 1 = some (1, 2, 1) := by kernel_rfl
theorem mS_ : ay_ prog 117 2 = some (2, 69, 1) := by kernel_rfl
theorem lU_ : ay_ prog 117 3 = some (3, 106, 1) := by kernel_rfl
theorem mr_ : ay_ prog 117 4 = some (4, 107, 1) := by kernel_rfl
theorem lf_ : ay_ prog 117 5 = some (5, 108, 1) := by kernel_rfl
theorem l7_ : ay_ prog 117 6 = some (6, 109, 1) := by kernel_rfl
theorem lg_ : ay_ prog 117 7 = some (7, 114, 4) := by kernel_rfl
theorem lK_ : ay_ prog 117 8 = some (11, 4, 1) := by kernel_rfl
theorem mq_ : ay_ prog 117 9 = some (12, 4, 1) := by kernel_rfl
theorem jF_ : ay_ prog 117 10 = some (13, 115, 3) := by kernel_rfl
theorem j4_ : ay_ prog 117 11 = some (16, 2, 1) := by kernel_rfl
theorem jN_ : ay_ prog 117 12 = some (17, 2, 1) := by kernel_rfl
theorem jR_ : ay_ prog 117 13 = some (18, 2, 1) := by kernel_rfl
theorem jp_ : ay_ prog 117 14 = some (19, 2, 1) := by kernel_rfl
theorem jC_ : ay_ prog 117 15 = some (20, 9, 1) := by kernel_rfl
theorem lG_ (W : World) : Rd prog W 117 ah_.cells ah_.wf := by
 intro H enc fuel cs d ps hr
 obtain ⟨fs, _, hfs, _⟩ := ag_ ht_
 have hcl : prog.cellsOf 117 = 21 := by kernel_rfl
 obtain ⟨xs, n, _, _, hlen, hxl, hall⟩ := DataW.trod_struct hfs hr
 rw [hcl] at hlen
 obtain ⟨fs0, f0, u0, v0, o0, y0, z0⟩ := ag_ ht_
 rw [hfs] at u0; simp only [Option.some.injEq, TypeDesc.struct.injEq] at u0; subst u0
 obtain ⟨x0, w0, r0⟩ := ar_ (sz := 1) hall hxl v0 o0 (by rw [y0]; exact z0) (by rw [y0]; exact b0_ W)
 obtain ⟨fs1, f1, u1, v1, o1, y1, z1⟩ := ag_ kK_
 rw [hfs] at u1; simp only [Option.some.injEq, TypeDesc.struct.injEq] at u1; subst u1
 obtain ⟨x1, w1, r1⟩ := ar_ (sz := 1) hall hxl v1 o1 (by rw [y1]; exact z1) (by rw [y1]; exact b0_ W)
 obtain ⟨fs2, f2, u2, v2, o2, y2, z2⟩ := ag_ mS_
 rw [hfs] at u2; simp only [Option.some.injEq, TypeDesc.struct.injEq] at u2; subst u2
 obtain ⟨x2, w2, r2⟩ := ar_ (sz := 1) hall hxl v2 o2 (by rw [y2]; exact z2) (by rw [y2]; exact ea_ W)
 obtain ⟨fs3, f3, u3, v3, o3, y3, z3⟩ := ag_ lU_
 rw [hfs] at u3; simp only [Option.some.injEq, TypeDesc.struct.injEq] at u3; subst u3
 obtain ⟨x3, w3, r3⟩ := ar_ (sz := 1) hall hxl v3 o3 (by rw [y3]; exact z3) (by rw [y3]; exact sI_ W)
 obtain ⟨fs4, f4, u4, v4, o4, y4, z4⟩ := ag_ mr_
 rw [hfs] at u4; simp only [Option.some.injEq, TypeDesc.struct.injEq] at u4; subst u4
 obtain ⟨x4, w4, r4⟩ := ar_ (sz := 1) hall hxl v4 o4 (by rw [y4]; exact z4) (by rw [y4]; exact r4_ W)
 obtain ⟨fs5, f5, u5, v5, o5, y5, z5⟩ := ag_ lf_
 rw [hfs] at u5; simp only [Option.some.injEq, TypeDesc.struct.injEq] at u5; subst u5
 obtain ⟨x5, w5, r5⟩ := ar_ (sz := 1) hall hxl v5 o5 (by rw [y5]; exact z5) (by rw [y5]; exact rT_ W)
 obtain ⟨fs6, f6, u6, v6, o6, y6, z6⟩ := ag_ l7_
 rw [hfs] at u6; simp only [Option.some.injEq, TypeDesc.struct.injEq] at u6; subst u6
 obtain ⟨x6, w6, r6⟩ := ar_ (sz := 1) hall hxl v6 o6 (by rw [y6]; exact z6) (by rw [y6]; exact tZ_ W)
 obtain ⟨fs7, f7, u7, v7, o7, y7, z7⟩ := ag_ lg_
 rw [hfs] at u7; simp only [Option.some.injEq, TypeDesc.struct.injEq] at u7; subst u7
 obtain ⟨x7, w7, r7⟩ := ar_ (sz := 4) hall hxl v7 o7 (by rw [y7]; exact z7) (by rw [y7]; exact ti_ W)
 obtain ⟨fs8, f8, u8, v8, o8, y8, z8⟩ := ag_ lK_
 rw [hfs] at u8; simp only [Option.some.injEq, TypeDesc.struct.injEq] at u8; subst u8
 obtain ⟨x8, w8, r8⟩ := ar_ (sz := 1) hall hxl v8 o8 (by rw [y8]; exact z8) (by rw [y8]; exact fs_ W)
 obtain ⟨fs9, f9, u9, v9, o9, y9, z9⟩ := ag_ mq_
 rw [hfs] at u9; simp only [Option.some.injEq, TypeDesc.struct.injEq] at u9; subst u9
 obtain ⟨x9, w9, r9⟩ := ar_ (sz := 1) hall hxl v9 o9 (by rw [y9]; exact z9) (by rw [y9]; exact fs_ W)
 obtain ⟨fs10, f10, u10, v10, o10, y10, z10⟩ := ag_ jF_
 rw [hfs] at u10; simp only [Option.some.injEq, TypeDesc.struct.injEq] at u10; subst u10
 obtain ⟨x10, w10, r10⟩ := ar_ (sz := 3) hall hxl v10 o10 (by rw [y10]; exact z10) (by rw [y10]; exact mt_ W)
 obtain ⟨fs11, f11, u11, v11, o11, y11, z11⟩ := ag_ j4_
 rw [hfs] at u11; simp only [Option.some.injEq, TypeDesc.struct.injEq] at u11; subst u11
 obtain ⟨x11, w11, r11⟩ := ar_ (sz := 1) hall hxl v11 o11 (by rw [y11]; exact z11) (by rw [y11]; exact b0_ W)
 obtain ⟨fs12, f12, u12, v12, o12, y12, z12⟩ := ag_ jN_
 rw [hfs] at u12; simp only [Option.some.injEq, TypeDesc.struct.injEq] at u12; subst u12
 obtain ⟨x12, w12, r12⟩ := ar_ (sz := 1) hall hxl v12 o12 (by rw [y12]; exact z12) (by rw [y12]; exact b0_ W)
 obtain ⟨fs13, f13, u13, v13, o13, y13, z13⟩ := ag_ jR_
 rw [hfs] at u13; simp only [Option.some.injEq, TypeDesc.struct.injEq] at u13; subst u13
 obtain ⟨x13, w13, r13⟩ := ar_ (sz := 1) hall hxl v13 o13 (by rw [y13]; exact z13) (by rw [y13]; exact b0_ W)
 obtain ⟨fs14, f14, u14, v14, o14, y14, z14⟩ := ag_ jp_
 rw [hfs] at u14; simp only [Option.some.injEq, TypeDesc.struct.injEq] at u14; subst u14
 obtain ⟨x14, w14, r14⟩ := ar_ (sz := 1) hall hxl v14 o14 (by rw [y14]; exact z14) (by rw [y14]; exact b0_ W)
 obtain ⟨fs15, f15, u15, v15, o15, y15, z15⟩ := ag_ jC_
 rw [hfs] at u15; simp only [Option.some.injEq, TypeDesc.struct.injEq] at u15; subst u15
 obtain ⟨x15, w15, r15⟩ := ar_ (sz := 1) hall hxl v15 o15 (by rw [y15]; exact z15) (by rw [y15]; exact cy_ W)
 refine ⟨⟨x0, x1, x2, x3, x4, x5, x6, x7, x8, x9, x10, x11, x12, x13, x14, x15⟩, ⟨w0, w1, w2, w3, w4, w5, w6, w7, w8, w9, w10, w11, w12, w13, w14, w15, trivial⟩, ?_⟩
 have s16 : aj_ (Sit.all W) [] (cs.drop 21) := bz_ _ (drop_eq_nil_of_le (by omega))
 have s15 : aj_ (Sit.all W) (at_ x15 ++ ([])) (cs.drop 20) := am_ (o := 20) r15 s16
 have s14 : aj_ (Sit.all W) (aT_ x14 ++ (at_ x15 ++ ([]))) (cs.drop 19) := am_ (o := 19) r14 s15
 have s13 : aj_ (Sit.all W) (aT_ x13 ++ (aT_ x14 ++ (at_ x15 ++ ([])))) (cs.drop 18) := am_ (o := 18) r13 s14
 have s12 : aj_ (Sit.all W) (aT_ x12 ++ (aT_ x13 ++ (aT_ x14 ++ (at_ x15 ++ ([]))))) (cs.drop 17) := am_ (o := 17) r12 s13
 have s11 : aj_ (Sit.all W) (aT_ x11 ++ (aT_ x12 ++ (aT_ x13 ++ (aT_ x14 ++ (at_ x15 ++ ([])))))) (cs.drop 16) := am_ (o := 16) r11 s12
 have s10 : aj_ (Sit.all W) (aH_.cells x10 ++ (aT_ x11 ++ (aT_ x12 ++ (aT_ x13 ++ (aT_ x14 ++ (at_ x15 ++ ([]))))))) (cs.drop 13) := am_ (o := 13) r10 s11
 have s9 : aj_ (Sit.all W) (bw_ x9 ++ (aH_.cells x10 ++ (aT_ x11 ++ (aT_ x12 ++ (aT_ x13 ++ (aT_ x14 ++ (at_ x15 ++ ([])))))))) (cs.drop 12) := am_ (o := 12) r9 s10
 have s8 : aj_ (Sit.all W) (bw_ x8 ++ (bw_ x9 ++ (aH_.cells x10 ++ (aT_ x11 ++ (aT_ x12 ++ (aT_ x13 ++ (aT_ x14 ++ (at_ x15 ++ ([]))))))))) (cs.drop 11) := am_ (o := 11) r8 s9
 have s7 : aj_ (Sit.all W) (aU_.cells x7 ++ (bw_ x8 ++ (bw_ x9 ++ (aH_.cells x10 ++ (aT_ x11 ++ (aT_ x12 ++ (aT_ x13 ++ (aT_ x14 ++ (at_ x15 ++ ([])))))))))) (cs.drop 7) := am_ (o := 7) r7 s8
 have s6 : aj_ (Sit.all W) ((aN_ 9 aF_.cells) x6 ++ (aU_.cells x7 ++ (bw_ x8 ++ (bw_ x9 ++ (aH_.cells x10 ++ (aT_ x11 ++ (aT_ x12 ++ (aT_ x13 ++ (aT_ x14 ++ (at_ x15 ++ ([]))))))))))) (cs.drop 6) := am_ (o := 6) r6 s7
 have s5 : aj_ (Sit.all W) ((aN_ 6 aR_.cells) x5 ++ ((aN_ 9 aF_.cells) x6 ++ (aU_.cells x7 ++ (bw_ x8 ++ (bw_ x9 ++ (aH_.cells x10 ++ (aT_ x11 ++ (aT_ x12 ++ (aT_ x13 ++ (aT_ x14 ++ (at_ x15 ++ ([])))))))))))) (cs.drop 5) := am_ (o := 5) r5 s6
 have s4 : aj_ (Sit.all W) ((aN_ 2 aA_.cells) x4 ++ ((aN_ 6 aR_.cells) x5 ++ ((aN_ 9 aF_.cells) x6 ++ (aU_.cells x7 ++ (bw_ x8 ++ (bw_ x9 ++ (aH_.cells x10 ++ (aT_ x11 ++ (aT_ x12 ++ (aT_ x13 ++ (aT_ x14 ++ (at_ x15 ++ ([]))))))))))))) (cs.drop 4) := am_ (o := 4) r4 s5
 have s3 : aj_ (Sit.all W) ((aN_ 3 aH_.cells) x3 ++ ((aN_ 2 aA_.cells) x4 ++ ((aN_ 6 aR_.cells) x5 ++ ((aN_ 9 aF_.cells) x6 ++ (aU_.cells x7 ++ (bw_ x8 ++ (bw_ x9 ++ (aH_.cells x10 ++ (aT_ x11 ++ (aT_ x12 ++ (aT_ x13 ++ (aT_ x14 ++ (at_ x15 ++ ([])))))))))))))) (cs.drop 3) := am_ (o := 3) r3 s4
 have s2 : aj_ (Sit.all W) ((aN_ 1 at_) x2 ++ ((aN_ 3 aH_.cells) x3 ++ ((aN_ 2 aA_.cells) x4 ++ ((aN_ 6 aR_.cells) x5 ++ ((aN_ 9 aF_.cells) x6 ++ (aU_.cells x7 ++ (bw_ x8 ++ (bw_ x9 ++ (aH_.cells x10 ++ (aT_ x11 ++ (aT_ x12 ++ (aT_ x13 ++ (aT_ x14 ++ (at_ x15 ++ ([]))))))))))))))) (cs.drop 2) := am_ (o := 2) r2 s3
 have s1 : aj_ (Sit.all W) (aT_ x1 ++ ((aN_ 1 at_) x2 ++ ((aN_ 3 aH_.cells) x3 ++ ((aN_ 2 aA_.cells) x4 ++ ((aN_ 6 aR_.cells) x5 ++ ((aN_ 9 aF_.cells) x6 ++ (aU_.cells x7 ++ (bw_ x8 ++ (bw_ x9 ++ (aH_.cells x10 ++ (aT_ x11 ++ (aT_ x12 ++ (aT_ x13 ++ (aT_ x14 ++ (at_ x15 ++ ([])))))))))))))))) (cs.drop 1) := am_ (o := 1) r1 s2
 have s0 : aj_ (Sit.all W) (aT_ x0 ++ (aT_ x1 ++ ((aN_ 1 at_) x2 ++ ((aN_ 3 aH_.cells) x3 ++ ((aN_ 2 aA_.cells) x4 ++ ((aN_ 6 aR_.cells) x5 ++ ((aN_ 9 aF_.cells) x6 ++ (aU_.cells x7 ++ (bw_ x8 ++ (bw_ x9 ++ (aH_.cells x10 ++ (aT_ x11 ++ (aT_ x12 ++ (aT_ x13 ++ (aT_ x14 ++ (at_ x15 ++ ([]))))))))))))))))) (cs.drop 0) := am_ (o := 0) r0 s1
 rw [drop_zero] at s0
 exact s0
theorem hy_ : ay_ prog 215 0 = some (0, 2, 1) := by kernel_rfl
theorem mJ_ : ay_ prog 215 1 = some (1, 9, 1) := by kernel_rfl
theorem k4_ : ay_ prog 215 2 = some (2, 69, 1) := by kernel_rfl
theorem lh_ : ay_ prog 215 3 = some (3, 9, 1) := by kernel_rfl
theorem mn_ : ay_ prog 215 4 = some (4, 2, 1) := by kernel_rfl
theorem r9_ (W : World) : Rd prog W 215 ap_.cells ap_.wf := by
 intro H enc fuel cs d ps hr
 obtain ⟨fs, _, hfs, _⟩ := ag_ hy_
 have hcl : prog.cellsOf 215 = 5 := by kernel_rfl
 obtain ⟨xs, n, _, _, hlen, hxl, hall⟩ := DataW.trod_struct hfs hr
 rw [hcl] at hlen
 obtain ⟨fs0, f0, u0, v0, o0, y0, z0⟩ := ag_ hy_
 rw [hfs] at u0; simp only [Option.some.injEq, TypeDesc.struct.injEq] at u0; subst u0
 obtain ⟨x0, w0, r0⟩ := ar_ (sz := 1) hall hxl v0 o0 (by rw [y0]; exact z0) (by rw [y0]; exact b0_ W)
 obtain ⟨fs1, f1, u1, v1, o1, y1, z1⟩ := ag_ mJ_
 rw [hfs] at u1; simp only [Option.some.injEq, TypeDesc.struct.injEq] at u1; subst u1
 obtain ⟨x1, w1, r1⟩ := ar_ (sz := 1) hall hxl v1 o1 (by rw [y1]; exact z1) (by rw [y1]; exact cy_ W)
 obtain ⟨fs2, f2, u2, v2, o2, y2, z2⟩ := ag_ k4_
 rw [hfs] at u2; simp only [Option.some.injEq, TypeDesc.struct.injEq] at u2; subst u2
 obtain ⟨x2, w2, r2⟩ := ar_ (sz := 1) hall hxl v2 o2 (by rw [y2]; exact z2) (by rw [y2]; exact ea_ W)
 obtain ⟨fs3, f3, u3, v3, o3, y3, z3⟩ := ag_ lh_
 rw [hfs] at u3; simp only [Option.some.injEq, TypeDesc.struct.injEq] at u3; subst u3
 obtain ⟨x3, w3, r3⟩ := ar_ (sz := 1) hall hxl v3 o3 (by rw [y3]; exact z3) (by rw [y3]; exact cy_ W)
 obtain ⟨fs4, f4, u4, v4, o4, y4, z4⟩ := ag_ mn_
 rw [hfs] at u4; simp only [Option.some.injEq, TypeDesc.struct.injEq] at u4; subst u4
 obtain ⟨x4, w4, r4⟩ := ar_ (sz := 1) hall hxl v4 o4 (by rw [y4]; exact z4) (by rw [y4]; exact b0_ W)
 refine ⟨⟨x0, x1, x2, x3, x4⟩, ⟨w0, w1, w2, w3, w4, trivial⟩, ?_⟩
 have s5 : aj_ (Sit.all W) [] (cs.drop 5) := bz_ _ (drop_eq_nil_of_le (by omega))
 have s4 : aj_ (Sit.all W) (aT_ x4 ++ ([])) (cs.drop 4) := am_ (o := 4) r4 s5
 have s3 : aj_ (Sit.all W) (at_ x3 ++ (aT_ x4 ++ ([]))) (cs.drop 3) := am_ (o := 3) r3 s4
 have s2 : aj_ (Sit.all W) ((aN_ 1 at_) x2 ++ (at_ x3 ++ (aT_ x4 ++ ([])))) (cs.drop 2) := am_ (o := 2) r2 s3
 have s1 : aj_ (Sit.all W) (at_ x1 ++ ((aN_ 1 at_) x2 ++ (at_ x3 ++ (aT_ x4 ++ ([]))))) (cs.drop 1) := am_ (o := 1) r1 s2
 have s0 : aj_ (Sit.all W) (aT_ x0 ++ (at_ x1 ++ ((aN_ 1 at_) x2 ++ (at_ x3 ++ (aT_ x4 ++ ([])))))) (cs.drop 0) := am_ (o := 0) r0 s1
 rw [drop_zero] at s0
 exact s0
theorem op_ : ∃ i, prog.info? 215 = some i ∧ i.size = 5 := ci_ (by kernel_rfl)
theorem k1_ (W : World) : Rd prog W 118 (fun xs : List ap_ => aN_ 5 ap_.cells xs) (a6_ ap_.wf) := by
 obtain ⟨i, h1, h2⟩ := op_
 exact b5_ (by kernel_rfl) h1 h2 (by decide) (fun _ => rfl) (r9_ W)
theorem hg_ : ay_ prog 120 0 = some (0, 2, 1) := by kernel_rfl
theorem ll_ : ay_ prog 120 1 = some (1, 2, 1) := by kernel_rfl
theorem lO_ : ay_ prog 120 2 = some (2, 118, 1) := by kernel_rfl
theorem uh_ (W : World) : Rd prog W 120 aY_.cells aY_.wf := by
 intro H enc fuel cs d ps hr
 obtain ⟨fs, _, hfs, _⟩ := ag_ hg_
 have hcl : prog.cellsOf 120 = 3 := by kernel_rfl
 obtain ⟨xs, n, _, _, hlen, hxl, hall⟩ := DataW.trod_struct hfs hr
 rw [hcl] at hlen
 obtain ⟨fs0, f0, u0, v0, o0, y0, z0⟩ := ag_ hg_
 rw [hfs] at u0; simp only [Option.some.injEq, TypeDesc.struct.injEq] at u0; subst u0
 obtain ⟨x0, w0, r0⟩ := ar_ (sz := 1) hall hxl v0 o0 (by rw [y0]; exact z0) (by rw [y0]; exact b0_ W)
 obtain ⟨fs1, f1, u1, v1, o1, y1, z1⟩ := ag_ ll_
 rw [hfs] at u1; simp only [Option.some.injEq, TypeDesc.struct.injEq] at u1; subst u1
 obtain ⟨x1, w1, r1⟩ := ar_ (sz := 1) hall hxl v1 o1 (by rw [y1]; exact z1) (by rw [y1]; exact b0_ W)
 obtain ⟨fs2, f2, u2, v2, o2, y2, z2⟩ := ag_ lO_
 rw [hfs] at u2; simp only [Option.some.injEq, TypeDesc.struct.injEq] at u2; subst u2
 obtain ⟨x2, w2, r2⟩ := ar_ (sz := 1) hall hxl v2 o2 (by rw [y2]; exact z2) (by rw [y2]; exact k1_ W)
 refine ⟨⟨x0, x1, x2⟩, ⟨w0, w1, w2, trivial⟩, ?_⟩
 have s3 : aj_ (Sit.all W) [] (cs.drop 3) := bz_ _ (drop_eq_nil_of_le (by omega))
 have s2 : aj_ (Sit.all W) ((aN_ 5 ap_.cells) x2 ++ ([])) (cs.drop 2) := am_ (o := 2) r2 s3
 have s1 : aj_ (Sit.all W) (aT_ x1 ++ ((aN_ 5 ap_.cells) x2 ++ ([]))) (cs.drop 1) := am_ (o := 1) r1 s2
 have s0 : aj_ (Sit.all W) (aT_ x0 ++ (aT_ x1 ++ ((aN_ 5 ap_.cells) x2 ++ ([])))) (cs.drop 0) := am_ (o := 0) r0 s1
 rw [drop_zero] at s0
 exact s0
theorem hz_ : ay_ prog 122 0 = some (0, 2, 1) := by kernel_rfl
theorem mV_ : ay_ prog 122 1 = some (1, 117, 21) := by kernel_rfl
theorem kR_ : ay_ prog 122 2 = some (22, 120, 3) := by kernel_rfl
theorem lp_ : ay_ prog 122 3 = some (25, 117, 21) := by kernel_rfl
theorem l2_ : ay_ prog 122 4 = some (46, 9, 1) := by kernel_rfl
theorem mb_ : ay_ prog 122 5 = some (47, 69, 1) := by kernel_rfl
theorem mw_ : ay_ prog 122 6 = some (48, 30, 1) := by kernel_rfl
theorem lX_ : ay_ prog 122 7 = some (49, 2, 1) := by kernel_rfl
theorem mx_ : ay_ prog 122 8 = some (50, 69, 1) := by kernel_rfl
theorem mA_ : ay_ prog 122 9 = some (51, 9, 1) := by kernel_rfl
theorem qL_ (W : World) : Rd prog W 122 aD_.cells aD_.wf := by
 intro H enc fuel cs d ps hr
 obtain ⟨fs, _, hfs, _⟩ := ag_ hz_
 have hcl : prog.cellsOf 122 = 52 := by kernel_rfl
 obtain ⟨xs, n, _, _, hlen, hxl, hall⟩ := DataW.trod_struct hfs hr
 rw [hcl] at hlen
 obtain ⟨fs0, f0, u0, v0, o0, y0, z0⟩ := ag_ hz_
 rw [hfs] at u0; simp only [Option.some.injEq, TypeDesc.struct.injEq] at u0; subst u0
 obtain ⟨x0, w0, r0⟩ := ar_ (sz := 1) hall hxl v0 o0 (by rw [y0]; exact z0) (by rw [y0]; exact b0_ W)
 obtain ⟨fs1, f1, u1, v1, o1, y1, z1⟩ := ag_ mV_
 rw [hfs] at u1; simp only [Option.some.injEq, TypeDesc.struct.injEq] at u1; subst u1
 obtain ⟨x1, w1, r1⟩ := ar_ (sz := 21) hall hxl v1 o1 (by rw [y1]; exact z1) (by rw [y1]; exact lG_ W)
 obtain ⟨fs2, f2, u2, v2, o2, y2, z2⟩ := ag_ kR_
 rw [hfs] at u2; simp only [Option.some.injEq, TypeDesc.struct.injEq] at u2; subst u2
 obtain ⟨x2, w2, r2⟩ := ar_ (sz := 3) hall hxl v2 o2 (by rw [y2]; exact z2) (by rw [y2]; exact uh_ W)
 obtain ⟨fs3, f3, u3, v3, o3, y3, z3⟩ := ag_ lp_
 rw [hfs] at u3; simp only [Option.some.injEq, TypeDesc.struct.injEq] at u3; subst u3
 obtain ⟨x3, w3, r3⟩ := ar_ (sz := 21) hall hxl v3 o3 (by rw [y3]; exact z3) (by rw [y3]; exact lG_ W)
 obtain ⟨fs4, f4, u4, v4, o4, y4, z4⟩ := ag_ l2_
 rw [hfs] at u4; simp only [Option.some.injEq, TypeDesc.struct.injEq] at u4; subst u4
 obtain ⟨x4, w4, r4⟩ := ar_ (sz := 1) hall hxl v4 o4 (by rw [y4]; exact z4) (by rw [y4]; exact cy_ W)
 obtain ⟨fs5, f5, u5, v5, o5, y5, z5⟩ := ag_ mb_
 rw [hfs] at u5; simp only [Option.some.injEq, TypeDesc.struct.injEq] at u5; subst u5
 obtain ⟨x5, w5, r5⟩ := ar_ (sz := 1) hall hxl v5 o5 (by rw [y5]; exact z5) (by rw [y5]; exact ea_ W)
 obtain ⟨fs6, f6, u6, v6, o6, y6, z6⟩ := ag_ mw_
 rw [hfs] at u6; simp only [Option.some.injEq, TypeDesc.struct.injEq] at u6; subst u6
 obtain ⟨x6, w6, r6⟩ := ar_ (sz := 1) hall hxl v6 o6 (by rw [y6]; exact z6) (by rw [y6]; exact pJ_ W)
 obtain ⟨fs7, f7, u7, v7, o7, y7, z7⟩ := ag_ lX_
 rw [hfs] at u7; simp only [Option.some.injEq, TypeDesc.struct.injEq] at u7; subst u7
 obtain ⟨x7, w7, r7⟩ := ar_ (sz := 1) hall hxl v7 o7 (by rw [y7]; exact z7) (by rw [y7]; exact b0_ W)
 obtain ⟨fs8, f8, u8, v8, o8, y8, z8⟩ := ag_ mx_
 rw [hfs] at u8; simp only [Option.some.injEq, TypeDesc.struct.injEq] at u8; subst u8
 obtain ⟨x8, w8, r8⟩ := ar_ (sz := 1) hall hxl v8 o8 (by rw [y8]; exact z8) (by rw [y8]; exact ea_ W)
 obtain ⟨fs9, f9, u9, v9, o9, y9, z9⟩ := ag_ mA_
 rw [hfs] at u9; simp only [Option.some.injEq, TypeDesc.struct.injEq] at u9; subst u9
 obtain ⟨x9, w9, r9⟩ := ar_ (sz := 1) hall hxl v9 o9 (by rw [y9]; exact z9) (by rw [y9]; exact cy_ W)
 refine ⟨⟨x0, x1, x2, x3, x4, x5, x6, x7, x8, x9⟩, ⟨w0, w1, w2, w3, w4, w5, w6, w7, w8, w9, trivial⟩, ?_⟩
 have s10 : aj_ (Sit.all W) [] (cs.drop 52) := bz_ _ (drop_eq_nil_of_le (by omega))
 have s9 : aj_ (Sit.all W) (at_ x9 ++ ([])) (cs.drop 51) := am_ (o := 51) r9 s10
 have s8 : aj_ (Sit.all W) ((aN_ 1 at_) x8 ++ (at_ x9 ++ ([]))) (cs.drop 50) := am_ (o := 50) r8 s9
 have s7 : aj_ (Sit.all W) (aT_ x7 ++ ((aN_ 1 at_) x8 ++ (at_ x9 ++ ([])))) (cs.drop 49) := am_ (o := 49) r7 s8
 have s6 : aj_ (Sit.all W) ((aN_ 4 au_.cells) x6 ++ (aT_ x7 ++ ((aN_ 1 at_) x8 ++ (at_ x9 ++ ([]))))) (cs.drop 48) := am_ (o := 48) r6 s7
 have s5 : aj_ (Sit.all W) ((aN_ 1 at_) x5 ++ ((aN_ 4 au_.cells) x6 ++ (aT_ x7 ++ ((aN_ 1 at_) x8 ++ (at_ x9 ++ ([])))))) (cs.drop 47) := am_ (o := 47) r5 s6
 have s4 : aj_ (Sit.all W) (at_ x4 ++ ((aN_ 1 at_) x5 ++ ((aN_ 4 au_.cells) x6 ++ (aT_ x7 ++ ((aN_ 1 at_) x8 ++ (at_ x9 ++ ([]))))))) (cs.drop 46) := am_ (o := 46) r4 s5
 have s3 : aj_ (Sit.all W) (ah_.cells x3 ++ (at_ x4 ++ ((aN_ 1 at_) x5 ++ ((aN_ 4 au_.cells) x6 ++ (aT_ x7 ++ ((aN_ 1 at_) x8 ++ (at_ x9 ++ ([])))))))) (cs.drop 25) := am_ (o := 25) r3 s4
 have s2 : aj_ (Sit.all W) (aY_.cells x2 ++ (ah_.cells x3 ++ (at_ x4 ++ ((aN_ 1 at_) x5 ++ ((aN_ 4 au_.cells) x6 ++ (aT_ x7 ++ ((aN_ 1 at_) x8 ++ (at_ x9 ++ ([]))))))))) (cs.drop 22) := am_ (o := 22) r2 s3
 have s1 : aj_ (Sit.all W) (ah_.cells x1 ++ (aY_.cells x2 ++ (ah_.cells x3 ++ (at_ x4 ++ ((aN_ 1 at_) x5 ++ ((aN_ 4 au_.cells) x6 ++ (aT_ x7 ++ ((aN_ 1 at_) x8 ++ (at_ x9 ++ ([])))))))))) (cs.drop 1) := am_ (o := 1) r1 s2
 have s0 : aj_ (Sit.all W) (aT_ x0 ++ (ah_.cells x1 ++ (aY_.cells x2 ++ (ah_.cells x3 ++ (at_ x4 ++ ((aN_ 1 at_) x5 ++ ((aN_ 4 au_.cells) x6 ++ (aT_ x7 ++ ((aN_ 1 at_) x8 ++ (at_ x9 ++ ([]))))))))))) (cs.drop 0) := am_ (o := 0) r0 s1
 rw [drop_zero] at s0
 exact s0
theorem hm_ : ay_ prog 125 0 = some (0, 2, 1) := by kernel_rfl
theorem k7_ : ay_ prog 125 1 = some (1, 118, 1) := by kernel_rfl
theorem uG_ (W : World) : Rd prog W 125 av_.cells av_.wf := by
 intro H enc fuel cs d ps hr
 obtain ⟨fs, _, hfs, _⟩ := ag_ hm_
 have hcl : prog.cellsOf 125 = 2 := by kernel_rfl
 obtain ⟨xs, n, _, _, hlen, hxl, hall⟩ := DataW.trod_struct hfs hr
 rw [hcl] at hlen
 obtain ⟨fs0, f0, u0, v0, o0, y0, z0⟩ := ag_ hm_
 rw [hfs] at u0; simp only [Option.some.injEq, TypeDesc.struct.injEq] at u0; subst u0
 obtain ⟨x0, w0, r0⟩ := ar_ (sz := 1) hall hxl v0 o0 (by rw [y0]; exact z0) (by rw [y0]; exact b0_ W)
 obtain ⟨fs1, f1, u1, v1, o1, y1, z1⟩ := ag_ k7_
 rw [hfs] at u1; simp only [Option.some.injEq, TypeDesc.struct.injEq] at u1; subst u1
 obtain ⟨x1, w1, r1⟩ := ar_ (sz := 1) hall hxl v1 o1 (by rw [y1]; exact z1) (by rw [y1]; exact k1_ W)
 refine ⟨⟨x0, x1⟩, ⟨w0, w1, trivial⟩, ?_⟩
 have s2 : aj_ (Sit.all W) [] (cs.drop 2) := bz_ _ (drop_eq_nil_of_le (by omega))
 have s1 : aj_ (Sit.all W) ((aN_ 5 ap_.cells) x1 ++ ([])) (cs.drop 1) := am_ (o := 1) r1 s2
 have s0 : aj_ (Sit.all W) (aT_ x0 ++ ((aN_ 5 ap_.cells) x1 ++ ([]))) (cs.drop 0) := am_ (o := 0) r0 s1
 rw [drop_zero] at s0
 exact s0
theorem nj_ : ∃ i, prog.info? 101 = some i ∧ i.size = 7 := ci_ (by kernel_rfl)
theorem vT_ (W : World) : Rd prog W 26 (fun xs : List ak_ => aN_ 7 ak_.cells xs) (a6_ ak_.wf) := by
 obtain ⟨i, h1, h2⟩ := nj_
 exact b5_ (by kernel_rfl) h1 h2 (by decide) (fun _ => rfl) (tu_ W)
theorem mZ_ : ∃ i, prog.info? 122 = some i ∧ i.size = 52 := ci_ (by kernel_rfl)
theorem v0_ (W : World) : Rd prog W 34 (fun xs : List aD_ => aN_ 52 aD_.cells xs) (a6_ aD_.wf) := by
 obtain ⟨i, h1, h2⟩ := mZ_
 exact b5_ (by kernel_rfl) h1 h2 (by decide) (fun _ => rfl) (qL_ W)
theorem ol_ : ∃ i, prog.info? 125 = some i ∧ i.size = 2 := ci_ (by kernel_rfl)
theorem vW_ (W : World) : Rd prog W 35 (fun xs : List av_ => aN_ 2 av_.cells xs) (a6_ av_.wf) := by
 obtain ⟨i, h1, h2⟩ := ol_
 exact b5_ (by kernel_rfl) h1 h2 (by decide) (fun _ => rfl) (uG_ W)
theorem fq_ : ay_ prog 37 0 = some (0, 2, 1) := by kernel_rfl
theorem n1_ : ay_ prog 37 1 = some (1, 25, 2) := by kernel_rfl
theorem ns_ : ay_ prog 37 2 = some (3, 26, 1) := by kernel_rfl
theorem nP_ : ay_ prog 37 3 = some (4, 29, 1) := by kernel_rfl
theorem nc_ : ay_ prog 37 4 = some (5, 33, 2) := by kernel_rfl
theorem nw_ : ay_ prog 37 5 = some (7, 34, 1) := by kernel_rfl
theorem np_ : ay_ prog 37 6 = some (8, 2, 1) := by kernel_rfl
theorem nm_ : ay_ prog 37 7 = some (9, 35, 1) := by kernel_rfl
theorem pG_ (W : World) : Rd prog W 37 az_.cells az_.wf := by
 intro H enc fuel cs d ps hr
 obtain ⟨fs, _, hfs, _⟩ := ag_ fq_
 have hcl : prog.cellsOf 37 = 10 := by kernel_rfl
 obtain ⟨xs, n, _, _, hlen, hxl, hall⟩ := DataW.trod_struct hfs hr
 rw [hcl] at hlen
 obtain ⟨fs0, f0, u0, v0, o0, y0, z0⟩ := ag_ fq_
 rw [hfs] at u0; simp only [Option.some.injEq, TypeDesc.struct.injEq] at u0; subst u0
 obtain ⟨x0, w0, r0⟩ := ar_ (sz := 1) hall hxl v0 o0 (by rw [y0]; exact z0) (by rw [y0]; exact b0_ W)
 obtain ⟨fs1, f1, u1, v1, o1, y1, z1⟩ := ag_ n1_
 rw [hfs] at u1; simp only [Option.some.injEq, TypeDesc.struct.injEq] at u1; subst u1
 obtain ⟨x1, w1, r1⟩ := ar_ (sz := 2) hall hxl v1 o1 (by rw [y1]; exact z1) (by rw [y1]; exact u8_ W)
 obtain ⟨fs2, f2, u2, v2, o2, y2, z2⟩ := ag_ ns_
 rw [hfs] at u2; simp only [Option.some.injEq, TypeDesc.struct.injEq] at u2; subst u2
 obtain ⟨x2, w2, r2⟩ := ar_ (sz := 1) hall hxl v2 o2 (by rw [y2]; exact z2) (by rw [y2]; exact vT_ W)
 obtain ⟨fs3, f3, u3, v3, o3, y3, z3⟩ := ag_ nP_
 rw [hfs] at u3; simp only [Option.some.injEq, TypeDesc.struct.injEq] at u3; subst u3
 obtain ⟨x3, w3, r3⟩ := ar_ (sz := 1) hall hxl v3 o3 (by rw [y3]; exact z3) (by rw [y3]; exact pp_ W)
 obtain ⟨fs4, f4, u4, v4, o4, y4, z4⟩ := ag_ nc_
 rw [hfs] at u4; simp only [Option.some.injEq, TypeDesc.struct.injEq] at u4; subst u4
 obtain ⟨x4, w4, r4⟩ := ar_ (sz := 2) hall hxl v4 o4 (by rw [y4]; exact z4) (by rw [y4]; exact vk_ W)
 obtain ⟨fs5, f5, u5, v5, o5, y5, z5⟩ := ag_ nw_
 rw [hfs] at u5; simp only [Option.some.injEq, TypeDesc.struct.injEq] at u5; subst u5
 obtain ⟨x5, w5, r5⟩ := ar_ (sz := 1) hall hxl v5 o5 (by rw [y5]; exact z5) (by rw [y5]; exact v0_ W)
 obtain ⟨fs6, f6, u6, v6, o6, y6, z6⟩ := ag_ np_
 rw [hfs] at u6; simp only [Option.some.injEq, TypeDesc.struct.injEq] at u6; subst u6
 obtain ⟨x6, w6, r6⟩ := ar_ (sz := 1) hall hxl v6 o6 (by rw [y6]; exact z6) (by rw [y6]; exact b0_ W)
 obtain ⟨fs7, f7, u7, v7, o7, y7, z7⟩ := ag_ nm_
 rw [hfs] at u7; simp only [Option.some.injEq, TypeDesc.struct.injEq] at u7; subst u7
 obtain ⟨x7, w7, r7⟩ := ar_ (sz := 1) hall hxl v7 o7 (by rw [y7]; exact z7) (by rw [y7]; exact vW_ W)
 refine ⟨⟨x0, x1, x2, x3, x4, x5, x6, x7⟩, ⟨w0, w1, w2, w3, w4, w5, w6, w7, trivial⟩, ?_⟩
 have s8 : aj_ (Sit.all W) [] (cs.drop 10) := bz_ _ (drop_eq_nil_of_le (by omega))
 have s7 : aj_ (Sit.all W) ((aN_ 2 av_.cells) x7 ++ ([])) (cs.drop 9) := am_ (o := 9) r7 s8
 have s6 : aj_ (Sit.all W) (aT_ x6 ++ ((aN_ 2 av_.cells) x7 ++ ([]))) (cs.drop 8) := am_ (o := 8) r6 s7
 have s5 : aj_ (Sit.all W) ((aN_ 52 aD_.cells) x5 ++ (aT_ x6 ++ ((aN_ 2 av_.cells) x7 ++ ([])))) (cs.drop 7) := am_ (o := 7) r5 s6
 have s4 : aj_ (Sit.all W) (aL_.cells x4 ++ ((aN_ 52 aD_.cells) x5 ++ (aT_ x6 ++ ((aN_ 2 av_.cells) x7 ++ ([]))))) (cs.drop 5) := am_ (o := 5) r4 s5
 have s3 : aj_ (Sit.all W) (aZ_.cells x3 ++ (aL_.cells x4 ++ ((aN_ 52 aD_.cells) x5 ++ (aT_ x6 ++ ((aN_ 2 av_.cells) x7 ++ ([])))))) (cs.drop 4) := am_ (o := 4) r3 s4
 have s2 : aj_ (Sit.all W) ((aN_ 7 ak_.cells) x2 ++ (aZ_.cells x3 ++ (aL_.cells x4 ++ ((aN_ 52 aD_.cells) x5 ++ (aT_ x6 ++ ((aN_ 2 av_.cells) x7 ++ ([]))))))) (cs.drop 3) := am_ (o := 3) r2 s3
 have s1 : aj_ (Sit.all W) (as_.cells x1 ++ ((aN_ 7 ak_.cells) x2 ++ (aZ_.cells x3 ++ (aL_.cells x4 ++ ((aN_ 52 aD_.cells) x5 ++ (aT_ x6 ++ ((aN_ 2 av_.cells) x7 ++ ([])))))))) (cs.drop 1) := am_ (o := 1) r1 s2
 have s0 : aj_ (Sit.all W) (aT_ x0 ++ (as_.cells x1 ++ ((aN_ 7 ak_.cells) x2 ++ (aZ_.cells x3 ++ (aL_.cells x4 ++ ((aN_ 52 aD_.cells) x5 ++ (aT_ x6 ++ ((aN_ 2 av_.cells) x7 ++ ([]))))))))) (cs.drop 0) := am_ (o := 0) r0 s1
 rw [drop_zero] at s0
 exact s0
theorem wI_ (W : World) : cB_ prog (Sit.all W) := by
 constructor
 ·intro p hp g hg
  simp only [th_, mem_singleton] at hp
  subst hp
  have e : prog.globalNamed "internal/strconv.uint64pow10" = none := by kernel_rfl
  rw [e] at hg
  cases hg
 ·intro g hg
  have e : prog.globalNamed "internal/bytealg.MaxLen" = none := by kernel_rfl
  rw [e] at hg
  cases hg
theorem mixed : Tryz.prog.follows .mixedOrders = true := by kernel_rfl
end Go.Proofs.YthahmhkbcdpkjaaGreat
