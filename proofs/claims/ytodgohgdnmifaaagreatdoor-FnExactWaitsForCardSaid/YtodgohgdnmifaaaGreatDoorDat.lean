/-
  The data types of the laws arguments, and that the arguments of a row, read as data, are such data. No conditions.
-/
import Derived.Test.YtodgohgdnmifaaaGreatDoorProg
import Derived.Test.YtodgohgdnmifaaaGreatDoorAwB
import Derived.KernelRfl
namespace Go.Proofs.YtodgohgdnmifaaaGreatDoor
open Go.AW
set_option linter.unusedVariables false

structure GLock where
  Job : Int
  Count : Int
  Name : ByteArray
  Subs : List ByteArray

def GLock.cells (x : GLock) : List AV := [.val (.int .i64 x.Job), .val (.int .i64 x.Count), .val (.string x.Name), .list 0 1 (x.Subs.map cStr)]
def GLock.wf (x : GLock) : Prop := wfInt x.Job ∧ wfInt x.Count ∧ wfStr x.Name ∧ (wfList wfStr) x.Subs ∧ True
def GLock.sz (x : GLock) : Nat := ByteArray.size x.Name + (szList ByteArray.size) x.Subs
theorem GLock.sz_Name {x : GLock} {b : Nat} (h : GLock.sz x ≤ b) : ByteArray.size x.Name ≤ b := by unfold GLock.sz at h; omega
theorem GLock.sz_Subs {x : GLock} {b : Nat} (h : GLock.sz x ≤ b) : (szList ByteArray.size) x.Subs ≤ b := by unfold GLock.sz at h; omega

structure GAsk where
  Job : Int
  Until : Int
  Name : ByteArray
  Subs : List ByteArray

def GAsk.cells (x : GAsk) : List AV := [.val (.int .i64 x.Job), .val (.int .i64 x.Until), .val (.string x.Name), .list 0 1 (x.Subs.map cStr)]
def GAsk.wf (x : GAsk) : Prop := wfInt x.Job ∧ wfInt x.Until ∧ wfStr x.Name ∧ (wfList wfStr) x.Subs ∧ True
def GAsk.sz (x : GAsk) : Nat := ByteArray.size x.Name + (szList ByteArray.size) x.Subs
theorem GAsk.sz_Name {x : GAsk} {b : Nat} (h : GAsk.sz x ≤ b) : ByteArray.size x.Name ≤ b := by unfold GAsk.sz at h; omega
theorem GAsk.sz_Subs {x : GAsk} {b : Nat} (h : GAsk.sz x ≤ b) : (szList ByteArray.size) x.Subs ≤ b := by unfold GAsk.sz at h; omega

structure GLocks where
  Held : List GLock
  Asks : List GAsk

def GLocks.cells (x : GLocks) : List AV := [.list 0 4 (x.Held.map GLock.cells), .list 0 4 (x.Asks.map GAsk.cells)]
def GLocks.wf (x : GLocks) : Prop := (wfList GLock.wf) x.Held ∧ (wfList GAsk.wf) x.Asks ∧ True
def GLocks.sz (x : GLocks) : Nat := (szList GLock.sz) x.Held + (szList GAsk.sz) x.Asks
theorem GLocks.sz_Held {x : GLocks} {b : Nat} (h : GLocks.sz x ≤ b) : (szList GLock.sz) x.Held ≤ b := by unfold GLocks.sz at h; omega
theorem GLocks.sz_Asks {x : GLocks} {b : Nat} (h : GLocks.sz x ≤ b) : (szList GAsk.sz) x.Asks ≤ b := by unfold GLocks.sz at h; omega

theorem rd_2 (W : World) : Rd Tryz.prog W 2 cInt wfInt := rd_int (by kernel_rfl)
theorem rd_9 (W : World) : Rd Tryz.prog W 9 cStr wfStr := rd_string (by kernel_rfl)
theorem info_9 : ∃ i, Tryz.prog.info? 9 = some i ∧ i.size = 1 := info_of (by kernel_rfl)
theorem rd_41 (W : World) : Rd Tryz.prog W 41 (fun xs : List ByteArray => cList 1 cStr xs) (wfList wfStr) := by
  obtain ⟨i, h1, h2⟩ := info_9
  exact rd_slice (by kernel_rfl) h1 h2 (by decide) (fun _ => rfl) (rd_9 W)
theorem fld_87_0 : fieldOf Tryz.prog 87 0 = some (0, 2, 1) := by kernel_rfl
theorem fld_87_1 : fieldOf Tryz.prog 87 1 = some (1, 2, 1) := by kernel_rfl
theorem fld_87_2 : fieldOf Tryz.prog 87 2 = some (2, 9, 1) := by kernel_rfl
theorem fld_87_3 : fieldOf Tryz.prog 87 3 = some (3, 41, 1) := by kernel_rfl
theorem rd_87 (W : World) : Rd Tryz.prog W 87 GLock.cells GLock.wf := by
  intro H enc fuel cs d ps hr
  obtain ⟨fs, _, hfs, _⟩ := fieldOf_spec fld_87_0
  have hcl : Tryz.prog.cellsOf 87 = 4 := by kernel_rfl
  obtain ⟨xs, n, _, _, hlen, hxl, hall⟩ := DataW.trod_struct hfs hr
  rw [hcl] at hlen
  obtain ⟨fs0, f0, u0, v0, o0, y0, z0⟩ := fieldOf_spec fld_87_0
  rw [hfs] at u0; simp only [Option.some.injEq, TypeDesc.struct.injEq] at u0; subst u0
  obtain ⟨x0, w0, r0⟩ := rd_field (sz := 1) hall hxl v0 o0 (by rw [y0]; exact z0) (by rw [y0]; exact rd_2 W)
  obtain ⟨fs1, f1, u1, v1, o1, y1, z1⟩ := fieldOf_spec fld_87_1
  rw [hfs] at u1; simp only [Option.some.injEq, TypeDesc.struct.injEq] at u1; subst u1
  obtain ⟨x1, w1, r1⟩ := rd_field (sz := 1) hall hxl v1 o1 (by rw [y1]; exact z1) (by rw [y1]; exact rd_2 W)
  obtain ⟨fs2, f2, u2, v2, o2, y2, z2⟩ := fieldOf_spec fld_87_2
  rw [hfs] at u2; simp only [Option.some.injEq, TypeDesc.struct.injEq] at u2; subst u2
  obtain ⟨x2, w2, r2⟩ := rd_field (sz := 1) hall hxl v2 o2 (by rw [y2]; exact z2) (by rw [y2]; exact rd_9 W)
  obtain ⟨fs3, f3, u3, v3, o3, y3, z3⟩ := fieldOf_spec fld_87_3
  rw [hfs] at u3; simp only [Option.some.injEq, TypeDesc.struct.injEq] at u3; subst u3
  obtain ⟨x3, w3, r3⟩ := rd_field (sz := 1) hall hxl v3 o3 (by rw [y3]; exact z3) (by rw [y3]; exact rd_41 W)
  refine ⟨⟨x0, x1, x2, x3⟩, ⟨w0, w1, w2, w3, trivial⟩, ?_⟩
  have s4 : RepL (Sit.all W) [] (cs.drop 4) := RepL_nil _ (List.drop_eq_nil_of_le (by omega))
  have s3 : RepL (Sit.all W) ((cList 1 cStr) x3 ++ ([])) (cs.drop 3) := RepL_split (o := 3) r3 s4
  have s2 : RepL (Sit.all W) (cStr x2 ++ ((cList 1 cStr) x3 ++ ([]))) (cs.drop 2) := RepL_split (o := 2) r2 s3
  have s1 : RepL (Sit.all W) (cInt x1 ++ (cStr x2 ++ ((cList 1 cStr) x3 ++ ([])))) (cs.drop 1) := RepL_split (o := 1) r1 s2
  have s0 : RepL (Sit.all W) (cInt x0 ++ (cInt x1 ++ (cStr x2 ++ ((cList 1 cStr) x3 ++ ([]))))) (cs.drop 0) := RepL_split (o := 0) r0 s1
  rw [List.drop_zero] at s0
  exact s0
theorem fld_89_0 : fieldOf Tryz.prog 89 0 = some (0, 2, 1) := by kernel_rfl
theorem fld_89_1 : fieldOf Tryz.prog 89 1 = some (1, 2, 1) := by kernel_rfl
theorem fld_89_2 : fieldOf Tryz.prog 89 2 = some (2, 9, 1) := by kernel_rfl
theorem fld_89_3 : fieldOf Tryz.prog 89 3 = some (3, 41, 1) := by kernel_rfl
theorem rd_89 (W : World) : Rd Tryz.prog W 89 GAsk.cells GAsk.wf := by
  intro H enc fuel cs d ps hr
  obtain ⟨fs, _, hfs, _⟩ := fieldOf_spec fld_89_0
  have hcl : Tryz.prog.cellsOf 89 = 4 := by kernel_rfl
  obtain ⟨xs, n, _, _, hlen, hxl, hall⟩ := DataW.trod_struct hfs hr
  rw [hcl] at hlen
  obtain ⟨fs0, f0, u0, v0, o0, y0, z0⟩ := fieldOf_spec fld_89_0
  rw [hfs] at u0; simp only [Option.some.injEq, TypeDesc.struct.injEq] at u0; subst u0
  obtain ⟨x0, w0, r0⟩ := rd_field (sz := 1) hall hxl v0 o0 (by rw [y0]; exact z0) (by rw [y0]; exact rd_2 W)
  obtain ⟨fs1, f1, u1, v1, o1, y1, z1⟩ := fieldOf_spec fld_89_1
  rw [hfs] at u1; simp only [Option.some.injEq, TypeDesc.struct.injEq] at u1; subst u1
  obtain ⟨x1, w1, r1⟩ := rd_field (sz := 1) hall hxl v1 o1 (by rw [y1]; exact z1) (by rw [y1]; exact rd_2 W)
  obtain ⟨fs2, f2, u2, v2, o2, y2, z2⟩ := fieldOf_spec fld_89_2
  rw [hfs] at u2; simp only [Option.some.injEq, TypeDesc.struct.injEq] at u2; subst u2
  obtain ⟨x2, w2, r2⟩ := rd_field (sz := 1) hall hxl v2 o2 (by rw [y2]; exact z2) (by rw [y2]; exact rd_9 W)
  obtain ⟨fs3, f3, u3, v3, o3, y3, z3⟩ := fieldOf_spec fld_89_3
  rw [hfs] at u3; simp only [Option.some.injEq, TypeDesc.struct.injEq] at u3; subst u3
  obtain ⟨x3, w3, r3⟩ := rd_field (sz := 1) hall hxl v3 o3 (by rw [y3]; exact z3) (by rw [y3]; exact rd_41 W)
  refine ⟨⟨x0, x1, x2, x3⟩, ⟨w0, w1, w2, w3, trivial⟩, ?_⟩
  have s4 : RepL (Sit.all W) [] (cs.drop 4) := RepL_nil _ (List.drop_eq_nil_of_le (by omega))
  have s3 : RepL (Sit.all W) ((cList 1 cStr) x3 ++ ([])) (cs.drop 3) := RepL_split (o := 3) r3 s4
  have s2 : RepL (Sit.all W) (cStr x2 ++ ((cList 1 cStr) x3 ++ ([]))) (cs.drop 2) := RepL_split (o := 2) r2 s3
  have s1 : RepL (Sit.all W) (cInt x1 ++ (cStr x2 ++ ((cList 1 cStr) x3 ++ ([])))) (cs.drop 1) := RepL_split (o := 1) r1 s2
  have s0 : RepL (Sit.all W) (cInt x0 ++ (cInt x1 ++ (cStr x2 ++ ((cList 1 cStr) x3 ++ ([]))))) (cs.drop 0) := RepL_split (o := 0) r0 s1
  rw [List.drop_zero] at s0
  exact s0
theorem info_87 : ∃ i, Tryz.prog.info? 87 = some i ∧ i.size = 4 := info_of (by kernel_rfl)
theorem rd_22 (W : World) : Rd Tryz.prog W 22 (fun xs : List GLock => cList 4 GLock.cells xs) (wfList GLock.wf) := by
  obtain ⟨i, h1, h2⟩ := info_87
  exact rd_slice (by kernel_rfl) h1 h2 (by decide) (fun _ => rfl) (rd_87 W)
theorem info_89 : ∃ i, Tryz.prog.info? 89 = some i ∧ i.size = 4 := info_of (by kernel_rfl)
theorem rd_23 (W : World) : Rd Tryz.prog W 23 (fun xs : List GAsk => cList 4 GAsk.cells xs) (wfList GAsk.wf) := by
  obtain ⟨i, h1, h2⟩ := info_89
  exact rd_slice (by kernel_rfl) h1 h2 (by decide) (fun _ => rfl) (rd_89 W)
theorem fld_25_0 : fieldOf Tryz.prog 25 0 = some (0, 22, 1) := by kernel_rfl
theorem fld_25_1 : fieldOf Tryz.prog 25 1 = some (1, 23, 1) := by kernel_rfl
theorem rd_25 (W : World) : Rd Tryz.prog W 25 GLocks.cells GLocks.wf := by
  intro H enc fuel cs d ps hr
  obtain ⟨fs, _, hfs, _⟩ := fieldOf_spec fld_25_0
  have hcl : Tryz.prog.cellsOf 25 = 2 := by kernel_rfl
  obtain ⟨xs, n, _, _, hlen, hxl, hall⟩ := DataW.trod_struct hfs hr
  rw [hcl] at hlen
  obtain ⟨fs0, f0, u0, v0, o0, y0, z0⟩ := fieldOf_spec fld_25_0
  rw [hfs] at u0; simp only [Option.some.injEq, TypeDesc.struct.injEq] at u0; subst u0
  obtain ⟨x0, w0, r0⟩ := rd_field (sz := 1) hall hxl v0 o0 (by rw [y0]; exact z0) (by rw [y0]; exact rd_22 W)
  obtain ⟨fs1, f1, u1, v1, o1, y1, z1⟩ := fieldOf_spec fld_25_1
  rw [hfs] at u1; simp only [Option.some.injEq, TypeDesc.struct.injEq] at u1; subst u1
  obtain ⟨x1, w1, r1⟩ := rd_field (sz := 1) hall hxl v1 o1 (by rw [y1]; exact z1) (by rw [y1]; exact rd_23 W)
  refine ⟨⟨x0, x1⟩, ⟨w0, w1, trivial⟩, ?_⟩
  have s2 : RepL (Sit.all W) [] (cs.drop 2) := RepL_nil _ (List.drop_eq_nil_of_le (by omega))
  have s1 : RepL (Sit.all W) ((cList 4 GAsk.cells) x1 ++ ([])) (cs.drop 1) := RepL_split (o := 1) r1 s2
  have s0 : RepL (Sit.all W) ((cList 4 GLock.cells) x0 ++ ((cList 4 GAsk.cells) x1 ++ ([]))) (cs.drop 0) := RepL_split (o := 0) r0 s1
  rw [List.drop_zero] at s0
  exact s0
end Go.Proofs.YtodgohgdnmifaaaGreatDoor
