/-
 The data types of the laws arguments, and that the arguments of a row, read as data, are such data. No conditions.
-/
import Derived.Test.YtclhpcfpchpbnaaGreatDoorProg
import Derived.Test.YtclhpcfpchpbnaaGreatDoorAwB
import Derived.KernelRfl
namespace Go.Proofs.YtclhpcfpchpbnaaGreatDoor
open Go.AW
set_option linter.unusedVariables false

structure GBind where
 Name : ByteArray
 Cell : Int

def GBind.cells (x : GBind) : List AV := [.val (.string x.Name), .val (.int .i64 x.Cell)]
def GBind.wf (x : GBind) : Prop := wfStr x.Name ∧ wfInt x.Cell ∧ True
def GBind.sz (x : GBind) : Nat := ByteArray.size x.Name
theorem GBind.sz_Name {x : GBind} {b : Nat} (h : GBind.sz x ≤ b) : ByteArray.size x.Name ≤ b := by unfold GBind.sz at h; omega

structure GNode where
 Name : ByteArray
 Subs : List ByteArray
 Value : ByteArray

def GNode.cells (x : GNode) : List AV := [.val (.string x.Name), .list 0 1 (x.Subs.map cStr), .val (.string x.Value)]
def GNode.wf (x : GNode) : Prop := wfStr x.Name ∧ (wfList wfStr) x.Subs ∧ wfStr x.Value ∧ True
def GNode.sz (x : GNode) : Nat := ByteArray.size x.Name + (szList ByteArray.size) x.Subs + ByteArray.size x.Value
theorem GNode.sz_Name {x : GNode} {b : Nat} (h : GNode.sz x ≤ b) : ByteArray.size x.Name ≤ b := by unfold GNode.sz at h; omega
theorem GNode.sz_Subs {x : GNode} {b : Nat} (h : GNode.sz x ≤ b) : (szList ByteArray.size) x.Subs ≤ b := by unfold GNode.sz at h; omega
structure GTree where
 Nodes : List GNode

def GTree.cells (x : GTree) : List AV := [.list 0 3 (x.Nodes.map GNode.cells)]
def GTree.wf (x : GTree) : Prop := (wfList GNode.wf) x.Nodes ∧ True
def GTree.sz (x : GTree) : Nat := (szList GNode.sz) x.Nodes
theorem GTree.sz_Nodes {x : GTree} {b : Nat} (h : GTree.sz x ≤ b) : (szList GNode.sz) x.Nodes ≤ b := by unfold GTree.sz at h; omega

structure GCell where
 Id : Int
 Tree : GTree

def GCell.cells (x : GCell) : List AV := [.val (.int .i64 x.Id), .list 0 3 (x.Tree.Nodes.map GNode.cells)]
def GCell.wf (x : GCell) : Prop := wfInt x.Id ∧ GTree.wf x.Tree ∧ True
def GCell.sz (x : GCell) : Nat := GTree.sz x.Tree
theorem GCell.sz_Tree {x : GCell} {b : Nat} (h : GCell.sz x ≤ b) : GTree.sz x.Tree ≤ b := by unfold GCell.sz at h; omega

structure GLevel where
 Saved : List GBind

def GLevel.cells (x : GLevel) : List AV := [.list 0 2 (x.Saved.map GBind.cells)]
def GLevel.wf (x : GLevel) : Prop := (wfList GBind.wf) x.Saved ∧ True
def GLevel.sz (x : GLevel) : Nat := (szList GBind.sz) x.Saved
theorem GLevel.sz_Saved {x : GLevel} {b : Nat} (h : GLevel.sz x ≤ b) : (szList GBind.sz) x.Saved ≤ b := by unfold GLevel.sz at h; omega

structure GLocals where
 Next : Int
 Binds : List GBind
 Cells : List GCell
 Levels : List GLevel

def GLocals.cells (x : GLocals) : List AV := [.val (.int .i64 x.Next), .list 0 2 (x.Binds.map GBind.cells), .list 0 2 (x.Cells.map GCell.cells), .list 0 1 (x.Levels.map GLevel.cells)]
def GLocals.wf (x : GLocals) : Prop := wfInt x.Next ∧ (wfList GBind.wf) x.Binds ∧ (wfList GCell.wf) x.Cells ∧ (wfList GLevel.wf) x.Levels ∧ True
def GLocals.sz (x : GLocals) : Nat := (szList GBind.sz) x.Binds + (szList GCell.sz) x.Cells + (szList GLevel.sz) x.Levels
theorem GLocals.sz_Binds {x : GLocals} {b : Nat} (h : GLocals.sz x ≤ b) : (szList GBind.sz) x.Binds ≤ b := by unfold GLocals.sz at h; omega
theorem GLocals.sz_Cells {x : GLocals} {b : Nat} (h : GLocals.sz x ≤ b) : (szList GCell.sz) x.Cells ≤ b := by unfold GLocals.sz at h; omega
theorem GLocals.sz_Levels {x : GLocals} {b : Nat} (h : GLocals.sz x ≤ b) : (szList GLevel.sz) x.Levels ≤ b := by unfold GLocals.sz at h; omega

structure GEvent where
 Kind : Int
 Name : ByteArray
 Subs : List ByteArray
 Value : ByteArray
 N : Int

def GEvent.cells (x : GEvent) : List AV := [.val (.int .i64 x.Kind), .val (.string x.Name), .list 0 1 (x.Subs.map cStr), .val (.string x.Value), .val (.int .i64 x.N)]
def GEvent.wf (x : GEvent) : Prop := wfInt x.Kind ∧ wfStr x.Name ∧ (wfList wfStr) x.Subs ∧ wfStr x.Value ∧ wfInt x.N ∧ True
def GEvent.sz (x : GEvent) : Nat := ByteArray.size x.Name + (szList ByteArray.size) x.Subs + ByteArray.size x.Value
theorem GEvent.sz_Name {x : GEvent} {b : Nat} (h : GEvent.sz x ≤ b) : ByteArray.size x.Name ≤ b := by unfold GEvent.sz at h; omega
theorem GEvent.sz_Subs {x : GEvent} {b : Nat} (h : GEvent.sz x ≤ b) : (szList ByteArray.size) x.Subs ≤ b := by unfold GEvent.sz at h; omega
theorem rd_9 (W : World) : Rd Tryz.prog W 9 cStr wfStr := rd_string (by kernel_rfl)
theorem rd_2 (W : World) : Rd Tryz.prog W 2 cInt wfInt := rd_int (by kernel_rfl)
theorem fld_109_0 : fieldOf Tryz.prog 109 0 = some (0, 9, 1) := by kernel_rfl
theorem fld_109_1 : fieldOf Tryz.prog 109 1 = some (1, 2, 1) := by kernel_rfl
theorem rd_109 (W : World) : Rd Tryz.prog W 109 GBind.cells GBind.wf := by
 intro H enc fuel cs d ps hr
 obtain ⟨fs, _, hfs, _⟩ := fieldOf_spec fld_109_0
 have hcl : Tryz.prog.cellsOf 109 = 2 := by kernel_rfl
 obtain ⟨xs, n, _, _, hlen, hxl, hall⟩ := DataW.trod_struct hfs hr
 rw [hcl] at hlen
 obtain ⟨fs0, f0, u0, v0, o0, y0, z0⟩ := fieldOf_spec fld_109_0
 rw [hfs] at u0; simp only [Option.some.injEq, TypeDesc.struct.injEq] at u0; subst u0
 obtain ⟨x0, w0, r0⟩ := rd_field (sz := 1) hall hxl v0 o0 (by rw [y0]; exact z0) (by rw [y0]; exact rd_9 W)
 obtain ⟨fs1, f1, u1, v1, o1, y1, z1⟩ := fieldOf_spec fld_109_1
 rw [hfs] at u1; simp only [Option.some.injEq, TypeDesc.struct.injEq] at u1; subst u1
 obtain ⟨x1, w1, r1⟩ := rd_field (sz := 1) hall hxl v1 o1 (by rw [y1]; exact z1) (by rw [y1]; exact rd_2 W)
 refine ⟨⟨x0, x1⟩, ⟨w0, w1, trivial⟩, ?_⟩
 have s2 : RepL (Sit.all W) [] (cs.drop 2) := RepL_nil _ (List.drop_eq_nil_of_le (by omega))
 have s1 : RepL (Sit.all W) (cInt x1 ++ ([])) (cs.drop 1) := RepL_split (o := 1) r1 s2
 have s0 : RepL (Sit.all W) (cStr x0 ++ (cInt x1 ++ ([]))) (cs.drop 0) := RepL_split (o := 0) r0 s1
 rw [List.drop_zero] at s0
 exact s0
theorem info_9 : ∃ i, Tryz.prog.info? 9 = some i ∧ i.size = 1 := info_of (by kernel_rfl)
theorem rd_38 (W : World) : Rd Tryz.prog W 38 (fun xs : List ByteArray => cList 1 cStr xs) (wfList wfStr) := by
 obtain ⟨i, h1, h2⟩ := info_9
 exact rd_slice (by kernel_rfl) h1 h2 (by decide) (fun _ => rfl) (rd_9 W)
theorem fld_149_0 : fieldOf Tryz.prog 149 0 = some (0, 9, 1) := by kernel_rfl
theorem fld_149_1 : fieldOf Tryz.prog 149 1 = some (1, 38, 1) := by kernel_rfl
theorem fld_149_2 : fieldOf Tryz.prog 149 2 = some (2, 9, 1) := by kernel_rfl
theorem rd_149 (W : World) : Rd Tryz.prog W 149 GNode.cells GNode.wf := by
 intro H enc fuel cs d ps hr
 obtain ⟨fs, _, hfs, _⟩ := fieldOf_spec fld_149_0
 have hcl : Tryz.prog.cellsOf 149 = 3 := by kernel_rfl
 obtain ⟨xs, n, _, _, hlen, hxl, hall⟩ := DataW.trod_struct hfs hr
 rw [hcl] at hlen
 obtain ⟨fs0, f0, u0, v0, o0, y0, z0⟩ := fieldOf_spec fld_149_0
 rw [hfs] at u0; simp only [Option.some.injEq, TypeDesc.struct.injEq] at u0; subst u0
 obtain ⟨x0, w0, r0⟩ := rd_field (sz := 1) hall hxl v0 o0 (by rw [y0]; exact z0) (by rw [y0]; exact rd_9 W)
 obtain ⟨fs1, f1, u1, v1, o1, y1, z1⟩ := fieldOf_spec fld_149_1
 rw [hfs] at u1; simp only [Option.some.injEq, TypeDesc.struct.injEq] at u1; subst u1
 obtain ⟨x1, w1, r1⟩ := rd_field (sz := 1) hall hxl v1 o1 (by rw [y1]; exact z1) (by rw [y1]; exact rd_38 W)
 obtain ⟨fs2, f2, u2, v2, o2, y2, z2⟩ := fieldOf_spec fld_149_2
 rw [hfs] at u2; simp only [Option.some.injEq, TypeDesc.struct.injEq] at u2; subst u2
 obtain ⟨x2, w2, r2⟩ := rd_field (sz := 1) hall hxl v2 o2 (by rw [y2]; exact z2) (by rw [y2]; exact rd_9 W)
 refine ⟨⟨x0, x1, x2⟩, ⟨w0, w1, w2, trivial⟩, ?_⟩
 have s3 : RepL (Sit.all W) [] (cs.drop 3) := RepL_nil _ (List.drop_eq_nil_of_le (by omega))
 have s2 : RepL (Sit.all W) (cStr x2 ++ ([])) (cs.drop 2) := RepL_split (o := 2) r2 s3
 have s1 : RepL (Sit.all W) ((cList 1 cStr) x1 ++ (cStr x2 ++ ([]))) (cs.drop 1) := RepL_split (o := 1) r1 s2
 have s0 : RepL (Sit.all W) (cStr x0 ++ ((cList 1 cStr) x1 ++ (cStr x2 ++ ([])))) (cs.drop 0) := RepL_split (o := 0) r0 s1
 rw [List.drop_zero] at s0
 exact s0
theorem info_149 : ∃ i, Tryz.prog.info? 149 = some i ∧ i.size = 3 := info_of (by kernel_rfl)
theorem rd_55 (W : World) : Rd Tryz.prog W 55 (fun xs : List GNode => cList 3 GNode.cells xs) (wfList GNode.wf) := by
 obtain ⟨i, h1, h2⟩ := info_149
 exact rd_slice (by kernel_rfl) h1 h2 (by decide) (fun _ => rfl) (rd_149 W)
theorem fld_57_0 : fieldOf Tryz.prog 57 0 = some (0, 55, 1) := by kernel_rfl
theorem rd_57 (W : World) : Rd Tryz.prog W 57 GTree.cells GTree.wf := by
 intro H enc fuel cs d ps hr
 obtain ⟨fs, _, hfs, _⟩ := fieldOf_spec fld_57_0
 have hcl : Tryz.prog.cellsOf 57 = 1 := by kernel_rfl
 obtain ⟨xs, n, _, _, hlen, hxl, hall⟩ := DataW.trod_struct hfs hr
 rw [hcl] at hlen
 obtain ⟨fs0, f0, u0, v0, o0, y0, z0⟩ := fieldOf_spec fld_57_0
 rw [hfs] at u0; simp only [Option.some.injEq, TypeDesc.struct.injEq] at u0; subst u0
 obtain ⟨x0, w0, r0⟩ := rd_field (sz := 1) hall hxl v0 o0 (by rw [y0]; exact z0) (by rw [y0]; exact rd_55 W)
 refine ⟨⟨x0⟩, ⟨w0, trivial⟩, ?_⟩
 have s1 : RepL (Sit.all W) [] (cs.drop 1) := RepL_nil _ (List.drop_eq_nil_of_le (by omega))
 have s0 : RepL (Sit.all W) ((cList 3 GNode.cells) x0 ++ ([])) (cs.drop 0) := RepL_split (o := 0) r0 s1
 rw [List.drop_zero] at s0
 exact s0
theorem fld_112_0 : fieldOf Tryz.prog 112 0 = some (0, 2, 1) := by kernel_rfl
theorem fld_112_1 : fieldOf Tryz.prog 112 1 = some (1, 57, 1) := by kernel_rfl
theorem rd_112 (W : World) : Rd Tryz.prog W 112 GCell.cells GCell.wf := by
 intro H enc fuel cs d ps hr
 obtain ⟨fs, _, hfs, _⟩ := fieldOf_spec fld_112_0
 have hcl : Tryz.prog.cellsOf 112 = 2 := by kernel_rfl
 obtain ⟨xs, n, _, _, hlen, hxl, hall⟩ := DataW.trod_struct hfs hr
 rw [hcl] at hlen
 obtain ⟨fs0, f0, u0, v0, o0, y0, z0⟩ := fieldOf_spec fld_112_0
 rw [hfs] at u0; simp only [Option.some.injEq, TypeDesc.struct.injEq] at u0; subst u0
 obtain ⟨x0, w0, r0⟩ := rd_field (sz := 1) hall hxl v0 o0 (by rw [y0]; exact z0) (by rw [y0]; exact rd_2 W)
 obtain ⟨fs1, f1, u1, v1, o1, y1, z1⟩ := fieldOf_spec fld_112_1
 rw [hfs] at u1; simp only [Option.some.injEq, TypeDesc.struct.injEq] at u1; subst u1
 obtain ⟨x1, w1, r1⟩ := rd_field (sz := 1) hall hxl v1 o1 (by rw [y1]; exact z1) (by rw [y1]; exact rd_57 W)
 refine ⟨⟨x0, x1⟩, ⟨w0, w1, trivial⟩, ?_⟩
 have s2 : RepL (Sit.all W) [] (cs.drop 2) := RepL_nil _ (List.drop_eq_nil_of_le (by omega))
 have s1 : RepL (Sit.all W) (GTree.cells x1 ++ ([])) (cs.drop 1) := RepL_split (o := 1) r1 s2
 have s0 : RepL (Sit.all W) (cInt x0 ++ (GTree.cells x1 ++ ([]))) (cs.drop 0) := RepL_split (o := 0) r0 s1
 rw [List.drop_zero] at s0
 exact s0
theorem info_109 : ∃ i, Tryz.prog.info? 109 = some i ∧ i.size = 2 := info_of (by kernel_rfl)
theorem rd_22 (W : World) : Rd Tryz.prog W 22 (fun xs : List GBind => cList 2 GBind.cells xs) (wfList GBind.wf) := by
 obtain ⟨i, h1, h2⟩ := info_109
 exact rd_slice (by kernel_rfl) h1 h2 (by decide) (fun _ => rfl) (rd_109 W)
theorem fld_115_0 : fieldOf Tryz.prog 115 0 = some (0, 22, 1) := by kernel_rfl
theorem rd_115 (W : World) : Rd Tryz.prog W 115 GLevel.cells GLevel.wf := by
 intro H enc fuel cs d ps hr
 obtain ⟨fs, _, hfs, _⟩ := fieldOf_spec fld_115_0
 have hcl : Tryz.prog.cellsOf 115 = 1 := by kernel_rfl
 obtain ⟨xs, n, _, _, hlen, hxl, hall⟩ := DataW.trod_struct hfs hr
 rw [hcl] at hlen
 obtain ⟨fs0, f0, u0, v0, o0, y0, z0⟩ := fieldOf_spec fld_115_0
 rw [hfs] at u0; simp only [Option.some.injEq, TypeDesc.struct.injEq] at u0; subst u0
 obtain ⟨x0, w0, r0⟩ := rd_field (sz := 1) hall hxl v0 o0 (by rw [y0]; exact z0) (by rw [y0]; exact rd_22 W)
 refine ⟨⟨x0⟩, ⟨w0, trivial⟩, ?_⟩
 have s1 : RepL (Sit.all W) [] (cs.drop 1) := RepL_nil _ (List.drop_eq_nil_of_le (by omega))
 have s0 : RepL (Sit.all W) ((cList 2 GBind.cells) x0 ++ ([])) (cs.drop 0) := RepL_split (o := 0) r0 s1
 rw [List.drop_zero] at s0
 exact s0
theorem info_112 : ∃ i, Tryz.prog.info? 112 = some i ∧ i.size = 2 := info_of (by kernel_rfl)
theorem rd_23 (W : World) : Rd Tryz.prog W 23 (fun xs : List GCell => cList 2 GCell.cells xs) (wfList GCell.wf) := by
 obtain ⟨i, h1, h2⟩ := info_112
 exact rd_slice (by kernel_rfl) h1 h2 (by decide) (fun _ => rfl) (rd_112 W)
theorem info_115 : ∃ i, Tryz.prog.info? 115 = some i ∧ i.size = 1 := info_of (by kernel_rfl)
theorem rd_24 (W : World) : Rd Tryz.prog W 24 (fun xs : List GLevel => cList 1 GLevel.cells xs) (wfList GLevel.wf) := by
 obtain ⟨i, h1, h2⟩ := info_115
 exact rd_slice (by kernel_rfl) h1 h2 (by decide) (fun _ => rfl) (rd_115 W)
theorem fld_26_0 : fieldOf Tryz.prog 26 0 = some (0, 2, 1) := by kernel_rfl
theorem fld_26_1 : fieldOf Tryz.prog 26 1 = some (1, 22, 1) := by kernel_rfl
theorem fld_26_2 : fieldOf Tryz.prog 26 2 = some (2, 23, 1) := by kernel_rfl
theorem fld_26_3 : fieldOf Tryz.prog 26 3 = some (3, 24, 1) := by kernel_rfl
theorem rd_26 (W : World) : Rd Tryz.prog W 26 GLocals.cells GLocals.wf := by
 intro H enc fuel cs d ps hr
 obtain ⟨fs, _, hfs, _⟩ := fieldOf_spec fld_26_0
 have hcl : Tryz.prog.cellsOf 26 = 4 := by kernel_rfl
 obtain ⟨xs, n, _, _, hlen, hxl, hall⟩ := DataW.trod_struct hfs hr
 rw [hcl] at hlen
 obtain ⟨fs0, f0, u0, v0, o0, y0, z0⟩ := fieldOf_spec fld_26_0
 rw [hfs] at u0; simp only [Option.some.injEq, TypeDesc.struct.injEq] at u0; subst u0
 obtain ⟨x0, w0, r0⟩ := rd_field (sz := 1) hall hxl v0 o0 (by rw [y0]; exact z0) (by rw [y0]; exact rd_2 W)
 obtain ⟨fs1, f1, u1, v1, o1, y1, z1⟩ := fieldOf_spec fld_26_1
 rw [hfs] at u1; simp only [Option.some.injEq, TypeDesc.struct.injEq] at u1; subst u1
 obtain ⟨x1, w1, r1⟩ := rd_field (sz := 1) hall hxl v1 o1 (by rw [y1]; exact z1) (by rw [y1]; exact rd_22 W)
 obtain ⟨fs2, f2, u2, v2, o2, y2, z2⟩ := fieldOf_spec fld_26_2
 rw [hfs] at u2; simp only [Option.some.injEq, TypeDesc.struct.injEq] at u2; subst u2
 obtain ⟨x2, w2, r2⟩ := rd_field (sz := 1) hall hxl v2 o2 (by rw [y2]; exact z2) (by rw [y2]; exact rd_23 W)
 obtain ⟨fs3, f3, u3, v3, o3, y3, z3⟩ := fieldOf_spec fld_26_3
 rw [hfs] at u3; simp only [Option.some.injEq, TypeDesc.struct.injEq] at u3; subst u3
 obtain ⟨x3, w3, r3⟩ := rd_field (sz := 1) hall hxl v3 o3 (by rw [y3]; exact z3) (by rw [y3]; exact rd_24 W)
 refine ⟨⟨x0, x1, x2, x3⟩, ⟨w0, w1, w2, w3, trivial⟩, ?_⟩
 have s4 : RepL (Sit.all W) [] (cs.drop 4) := RepL_nil _ (List.drop_eq_nil_of_le (by omega))
 have s3 : RepL (Sit.all W) ((cList 1 GLevel.cells) x3 ++ ([])) (cs.drop 3) := RepL_split (o := 3) r3 s4
 have s2 : RepL (Sit.all W) ((cList 2 GCell.cells) x2 ++ ((cList 1 GLevel.cells) x3 ++ ([]))) (cs.drop 2) := RepL_split (o := 2) r2 s3
 have s1 : RepL (Sit.all W) ((cList 2 GBind.cells) x1 ++ ((cList 2 GCell.cells) x2 ++ ((cList 1 GLevel.cells) x3 ++ ([])))) (cs.drop 1) := RepL_split (o := 1) r1 s2
 have s0 : RepL (Sit.all W) (cInt x0 ++ ((cList 2 GBind.cells) x1 ++ ((cList 2 GCell.cells) x2 ++ ((cList 1 GLevel.cells) x3 ++ ([]))))) (cs.drop 0) := RepL_split (o := 0) r0 s1
 rw [List.drop_zero] at s0
 exact s0
end Go.Proofs.YtclhpcfpchpbnaaGreatDoor
