/-
  The data types of the laws arguments, and that the arguments of a row, read as data, are such data. No conditions.
-/
import Derived.Test.YtkddmakjmjmokaaGreatDoorProg
import Derived.Test.YtkddmakjmjmokaaGreatDoorAwB
import Derived.KernelRfl
namespace Go.Proofs.YtkddmakjmjmokaaGreatDoor
open Go.AW
set_option linter.unusedVariables false

structure GNode where
  Name : ByteArray
  Subs : List ByteArray
  Value : ByteArray

def GNode.cells (x : GNode) : List AV := [.val (.string x.Name), .list 0 1 (x.Subs.map cStr), .val (.string x.Value)]
def GNode.wf (x : GNode) : Prop := wfStr x.Name ∧ (wfList wfStr) x.Subs ∧ wfStr x.Value ∧ True
def GNode.sz (x : GNode) : Nat := ByteArray.size x.Name + (szList ByteArray.size) x.Subs + ByteArray.size x.Value
theorem GNode.sz_Name {x : GNode} {b : Nat} (h : GNode.sz x ≤ b) : ByteArray.size x.Name ≤ b := by unfold GNode.sz at h; omega
theorem GNode.sz_Subs {x : GNode} {b : Nat} (h : GNode.sz x ≤ b) : (szList ByteArray.size) x.Subs ≤ b := by unfold GNode.sz at h; omega
theorem GNode.sz_Value {x : GNode} {b : Nat} (h : GNode.sz x ≤ b) : ByteArray.size x.Value ≤ b := by unfold GNode.sz at h; omega

structure GTree where
  Nodes : List GNode

def GTree.cells (x : GTree) : List AV := [.list 0 3 (x.Nodes.map GNode.cells)]
def GTree.wf (x : GTree) : Prop := (wfList GNode.wf) x.Nodes ∧ True
def GTree.sz (x : GTree) : Nat := (szList GNode.sz) x.Nodes
theorem GTree.sz_Nodes {x : GTree} {b : Nat} (h : GTree.sz x ≤ b) : (szList GNode.sz) x.Nodes ≤ b := by unfold GTree.sz at h; omega

structure GTable where
  Name : ByteArray
  Global : ByteArray
  Columns : List ByteArray
  Indexes : List ByteArray

def GTable.cells (x : GTable) : List AV := [.val (.string x.Name), .val (.string x.Global), .list 0 1 (x.Columns.map cStr), .list 0 1 (x.Indexes.map cStr)]
def GTable.wf (x : GTable) : Prop := wfStr x.Name ∧ wfStr x.Global ∧ (wfList wfStr) x.Columns ∧ (wfList wfStr) x.Indexes ∧ True
def GTable.sz (x : GTable) : Nat := ByteArray.size x.Name + ByteArray.size x.Global + (szList ByteArray.size) x.Columns + (szList ByteArray.size) x.Indexes
theorem GTable.sz_Name {x : GTable} {b : Nat} (h : GTable.sz x ≤ b) : ByteArray.size x.Name ≤ b := by unfold GTable.sz at h; omega
theorem GTable.sz_Global {x : GTable} {b : Nat} (h : GTable.sz x ≤ b) : ByteArray.size x.Global ≤ b := by unfold GTable.sz at h; omega
theorem GTable.sz_Columns {x : GTable} {b : Nat} (h : GTable.sz x ≤ b) : (szList ByteArray.size) x.Columns ≤ b := by unfold GTable.sz at h; omega
theorem GTable.sz_Indexes {x : GTable} {b : Nat} (h : GTable.sz x ≤ b) : (szList ByteArray.size) x.Indexes ≤ b := by unfold GTable.sz at h; omega

theorem rd_9 (W : World) : Rd Tryz.prog W 9 cStr wfStr := rd_string (by kernel_rfl)
theorem info_9 : ∃ i, Tryz.prog.info? 9 = some i ∧ i.size = 1 := info_of (by kernel_rfl)
theorem rd_25 (W : World) : Rd Tryz.prog W 25 (fun xs : List ByteArray => cList 1 cStr xs) (wfList wfStr) := by
  obtain ⟨i, h1, h2⟩ := info_9
  exact rd_slice (by kernel_rfl) h1 h2 (by decide) (fun _ => rfl) (rd_9 W)
theorem fld_59_0 : fieldOf Tryz.prog 59 0 = some (0, 9, 1) := by kernel_rfl
theorem fld_59_1 : fieldOf Tryz.prog 59 1 = some (1, 25, 1) := by kernel_rfl
theorem fld_59_2 : fieldOf Tryz.prog 59 2 = some (2, 9, 1) := by kernel_rfl
theorem rd_59 (W : World) : Rd Tryz.prog W 59 GNode.cells GNode.wf := by
  intro H enc fuel cs d ps hr
  obtain ⟨fs, _, hfs, _⟩ := fieldOf_spec fld_59_0
  have hcl : Tryz.prog.cellsOf 59 = 3 := by kernel_rfl
  obtain ⟨xs, n, _, _, hlen, hxl, hall⟩ := DataW.trod_struct hfs hr
  rw [hcl] at hlen
  obtain ⟨fs0, f0, u0, v0, o0, y0, z0⟩ := fieldOf_spec fld_59_0
  rw [hfs] at u0; simp only [Option.some.injEq, TypeDesc.struct.injEq] at u0; subst u0
  obtain ⟨x0, w0, r0⟩ := rd_field (sz := 1) hall hxl v0 o0 (by rw [y0]; exact z0) (by rw [y0]; exact rd_9 W)
  obtain ⟨fs1, f1, u1, v1, o1, y1, z1⟩ := fieldOf_spec fld_59_1
  rw [hfs] at u1; simp only [Option.some.injEq, TypeDesc.struct.injEq] at u1; subst u1
  obtain ⟨x1, w1, r1⟩ := rd_field (sz := 1) hall hxl v1 o1 (by rw [y1]; exact z1) (by rw [y1]; exact rd_25 W)
  obtain ⟨fs2, f2, u2, v2, o2, y2, z2⟩ := fieldOf_spec fld_59_2
  rw [hfs] at u2; simp only [Option.some.injEq, TypeDesc.struct.injEq] at u2; subst u2
  obtain ⟨x2, w2, r2⟩ := rd_field (sz := 1) hall hxl v2 o2 (by rw [y2]; exact z2) (by rw [y2]; exact rd_9 W)
  refine ⟨⟨x0, x1, x2⟩, ⟨w0, w1, w2, trivial⟩, ?_⟩
  have s3 : RepL (Sit.all W) [] (cs.drop 3) := RepL_nil _ (List.drop_eq_nil_of_le (by omega))
  have s2 : RepL (Sit.all W) (cStr x2 ++ ([])) (cs.drop 2) := RepL_split (o := 2) r2 s3
  have s1 : RepL (Sit.all W) ((cList 1 cStr) x1 ++ (cStr x2 ++ ([]))) (cs.drop 1) := RepL_split (o := 1) r1 s2
  have s0 : RepL (Sit.all W) (cStr x0 ++ ((cList 1 cStr) x1 ++ (cStr x2 ++ ([])))) (cs.drop 0) := RepL_split (o := 0) r0 s1
  rw [List.drop_zero] at s0
  exact s0
theorem info_59 : ∃ i, Tryz.prog.info? 59 = some i ∧ i.size = 3 := info_of (by kernel_rfl)
theorem rd_22 (W : World) : Rd Tryz.prog W 22 (fun xs : List GNode => cList 3 GNode.cells xs) (wfList GNode.wf) := by
  obtain ⟨i, h1, h2⟩ := info_59
  exact rd_slice (by kernel_rfl) h1 h2 (by decide) (fun _ => rfl) (rd_59 W)
theorem fld_24_0 : fieldOf Tryz.prog 24 0 = some (0, 22, 1) := by kernel_rfl
theorem rd_24 (W : World) : Rd Tryz.prog W 24 GTree.cells GTree.wf := by
  intro H enc fuel cs d ps hr
  obtain ⟨fs, _, hfs, _⟩ := fieldOf_spec fld_24_0
  have hcl : Tryz.prog.cellsOf 24 = 1 := by kernel_rfl
  obtain ⟨xs, n, _, _, hlen, hxl, hall⟩ := DataW.trod_struct hfs hr
  rw [hcl] at hlen
  obtain ⟨fs0, f0, u0, v0, o0, y0, z0⟩ := fieldOf_spec fld_24_0
  rw [hfs] at u0; simp only [Option.some.injEq, TypeDesc.struct.injEq] at u0; subst u0
  obtain ⟨x0, w0, r0⟩ := rd_field (sz := 1) hall hxl v0 o0 (by rw [y0]; exact z0) (by rw [y0]; exact rd_22 W)
  refine ⟨⟨x0⟩, ⟨w0, trivial⟩, ?_⟩
  have s1 : RepL (Sit.all W) [] (cs.drop 1) := RepL_nil _ (List.drop_eq_nil_of_le (by omega))
  have s0 : RepL (Sit.all W) ((cList 3 GNode.cells) x0 ++ ([])) (cs.drop 0) := RepL_split (o := 0) r0 s1
  rw [List.drop_zero] at s0
  exact s0
theorem fld_27_0 : fieldOf Tryz.prog 27 0 = some (0, 9, 1) := by kernel_rfl
theorem fld_27_1 : fieldOf Tryz.prog 27 1 = some (1, 9, 1) := by kernel_rfl
theorem fld_27_2 : fieldOf Tryz.prog 27 2 = some (2, 25, 1) := by kernel_rfl
theorem fld_27_3 : fieldOf Tryz.prog 27 3 = some (3, 25, 1) := by kernel_rfl
theorem rd_27 (W : World) : Rd Tryz.prog W 27 GTable.cells GTable.wf := by
  intro H enc fuel cs d ps hr
  obtain ⟨fs, _, hfs, _⟩ := fieldOf_spec fld_27_0
  have hcl : Tryz.prog.cellsOf 27 = 4 := by kernel_rfl
  obtain ⟨xs, n, _, _, hlen, hxl, hall⟩ := DataW.trod_struct hfs hr
  rw [hcl] at hlen
  obtain ⟨fs0, f0, u0, v0, o0, y0, z0⟩ := fieldOf_spec fld_27_0
  rw [hfs] at u0; simp only [Option.some.injEq, TypeDesc.struct.injEq] at u0; subst u0
  obtain ⟨x0, w0, r0⟩ := rd_field (sz := 1) hall hxl v0 o0 (by rw [y0]; exact z0) (by rw [y0]; exact rd_9 W)
  obtain ⟨fs1, f1, u1, v1, o1, y1, z1⟩ := fieldOf_spec fld_27_1
  rw [hfs] at u1; simp only [Option.some.injEq, TypeDesc.struct.injEq] at u1; subst u1
  obtain ⟨x1, w1, r1⟩ := rd_field (sz := 1) hall hxl v1 o1 (by rw [y1]; exact z1) (by rw [y1]; exact rd_9 W)
  obtain ⟨fs2, f2, u2, v2, o2, y2, z2⟩ := fieldOf_spec fld_27_2
  rw [hfs] at u2; simp only [Option.some.injEq, TypeDesc.struct.injEq] at u2; subst u2
  obtain ⟨x2, w2, r2⟩ := rd_field (sz := 1) hall hxl v2 o2 (by rw [y2]; exact z2) (by rw [y2]; exact rd_25 W)
  obtain ⟨fs3, f3, u3, v3, o3, y3, z3⟩ := fieldOf_spec fld_27_3
  rw [hfs] at u3; simp only [Option.some.injEq, TypeDesc.struct.injEq] at u3; subst u3
  obtain ⟨x3, w3, r3⟩ := rd_field (sz := 1) hall hxl v3 o3 (by rw [y3]; exact z3) (by rw [y3]; exact rd_25 W)
  refine ⟨⟨x0, x1, x2, x3⟩, ⟨w0, w1, w2, w3, trivial⟩, ?_⟩
  have s4 : RepL (Sit.all W) [] (cs.drop 4) := RepL_nil _ (List.drop_eq_nil_of_le (by omega))
  have s3 : RepL (Sit.all W) ((cList 1 cStr) x3 ++ ([])) (cs.drop 3) := RepL_split (o := 3) r3 s4
  have s2 : RepL (Sit.all W) ((cList 1 cStr) x2 ++ ((cList 1 cStr) x3 ++ ([]))) (cs.drop 2) := RepL_split (o := 2) r2 s3
  have s1 : RepL (Sit.all W) (cStr x1 ++ ((cList 1 cStr) x2 ++ ((cList 1 cStr) x3 ++ ([])))) (cs.drop 1) := RepL_split (o := 1) r1 s2
  have s0 : RepL (Sit.all W) (cStr x0 ++ (cStr x1 ++ ((cList 1 cStr) x2 ++ ((cList 1 cStr) x3 ++ ([]))))) (cs.drop 0) := RepL_split (o := 0) r0 s1
  rw [List.drop_zero] at s0
  exact s0
end Go.Proofs.YtkddmakjmjmokaaGreatDoor
