/-
  The data types of the laws arguments, and that the arguments of a row, read as data, are such data. No conditions.
-/
import Derived.Test.YtpahjgcpecmolaaProg
import Derived.Test.YtpahjgcpecmolaaAwB
import Derived.KernelRfl
namespace Go.Proofs.Ytpahjgcpecmolaa
open Go.AW
set_option linter.unusedVariables false

structure GTrigger where
  Id : Int
  Name : ByteArray
  Subs : List ByteArray
  OnSet : Bool
  OnKill : Bool
  Routine : ByteArray
  Label : ByteArray

def GTrigger.cells (x : GTrigger) : List AV := [.val (.int .i64 x.Id), .val (.string x.Name), .list 0 1 (x.Subs.map cStr), .val (.bool x.OnSet), .val (.bool x.OnKill), .val (.string x.Routine), .val (.string x.Label)]
def GTrigger.wf (x : GTrigger) : Prop := wfInt x.Id ∧ wfStr x.Name ∧ (wfList wfStr) x.Subs ∧ (fun _ : Bool => True) x.OnSet ∧ (fun _ : Bool => True) x.OnKill ∧ wfStr x.Routine ∧ wfStr x.Label ∧ True
def GTrigger.sz (x : GTrigger) : Nat := ByteArray.size x.Name + (szList ByteArray.size) x.Subs + ByteArray.size x.Routine + ByteArray.size x.Label
theorem GTrigger.sz_Name {x : GTrigger} {b : Nat} (h : GTrigger.sz x ≤ b) : ByteArray.size x.Name ≤ b := by unfold GTrigger.sz at h; omega
theorem GTrigger.sz_Subs {x : GTrigger} {b : Nat} (h : GTrigger.sz x ≤ b) : (szList ByteArray.size) x.Subs ≤ b := by unfold GTrigger.sz at h; omega
theorem GTrigger.sz_Routine {x : GTrigger} {b : Nat} (h : GTrigger.sz x ≤ b) : ByteArray.size x.Routine ≤ b := by unfold GTrigger.sz at h; omega
theorem GTrigger.sz_Label {x : GTrigger} {b : Nat} (h : GTrigger.sz x ≤ b) : ByteArray.size x.Label ≤ b := by unfold GTrigger.sz at h; omega

structure GChange where
  Kind : Int
  Name : ByteArray
  Subs : List ByteArray
  Value : ByteArray

def GChange.cells (x : GChange) : List AV := [.val (.int .i64 x.Kind), .val (.string x.Name), .list 0 1 (x.Subs.map cStr), .val (.string x.Value)]
def GChange.wf (x : GChange) : Prop := wfInt x.Kind ∧ wfStr x.Name ∧ (wfList wfStr) x.Subs ∧ wfStr x.Value ∧ True
def GChange.sz (x : GChange) : Nat := ByteArray.size x.Name + (szList ByteArray.size) x.Subs + ByteArray.size x.Value
theorem GChange.sz_Name {x : GChange} {b : Nat} (h : GChange.sz x ≤ b) : ByteArray.size x.Name ≤ b := by unfold GChange.sz at h; omega
theorem GChange.sz_Subs {x : GChange} {b : Nat} (h : GChange.sz x ≤ b) : (szList ByteArray.size) x.Subs ≤ b := by unfold GChange.sz at h; omega
theorem GChange.sz_Value {x : GChange} {b : Nat} (h : GChange.sz x ≤ b) : ByteArray.size x.Value ≤ b := by unfold GChange.sz at h; omega

theorem rd_2 (W : World) : Rd Try.prog W 2 cInt wfInt := rd_int (by kernel_rfl)
theorem rd_9 (W : World) : Rd Try.prog W 9 cStr wfStr := rd_string (by kernel_rfl)
theorem info_9 : ∃ i, Try.prog.info? 9 = some i ∧ i.size = 1 := info_of (by kernel_rfl)
theorem rd_22 (W : World) : Rd Try.prog W 22 (fun xs : List ByteArray => cList 1 cStr xs) (wfList wfStr) := by
  obtain ⟨i, h1, h2⟩ := info_9
  exact rd_slice (by kernel_rfl) h1 h2 (by decide) (fun _ => rfl) (rd_9 W)
theorem rd_4 (W : World) : Rd Try.prog W 4 cBool (fun _ : Bool => True) := rd_bool (by kernel_rfl)
theorem fld_24_0 : fieldOf Try.prog 24 0 = some (0, 2, 1) := by kernel_rfl
theorem fld_24_1 : fieldOf Try.prog 24 1 = some (1, 9, 1) := by kernel_rfl
theorem fld_24_2 : fieldOf Try.prog 24 2 = some (2, 22, 1) := by kernel_rfl
theorem fld_24_3 : fieldOf Try.prog 24 3 = some (3, 4, 1) := by kernel_rfl
theorem fld_24_4 : fieldOf Try.prog 24 4 = some (4, 4, 1) := by kernel_rfl
theorem fld_24_5 : fieldOf Try.prog 24 5 = some (5, 9, 1) := by kernel_rfl
theorem fld_24_6 : fieldOf Try.prog 24 6 = some (6, 9, 1) := by kernel_rfl
theorem rd_24 (W : World) : Rd Try.prog W 24 GTrigger.cells GTrigger.wf := by
  intro H enc fuel cs d ps hr
  obtain ⟨fs, _, hfs, _⟩ := fieldOf_spec fld_24_0
  have hcl : Try.prog.cellsOf 24 = 7 := by kernel_rfl
  obtain ⟨xs, n, _, _, hlen, hxl, hall⟩ := DataW.trod_struct hfs hr
  rw [hcl] at hlen
  obtain ⟨fs0, f0, u0, v0, o0, y0, z0⟩ := fieldOf_spec fld_24_0
  rw [hfs] at u0; simp only [Option.some.injEq, TypeDesc.struct.injEq] at u0; subst u0
  obtain ⟨x0, w0, r0⟩ := rd_field (sz := 1) hall hxl v0 o0 (by rw [y0]; exact z0) (by rw [y0]; exact rd_2 W)
  obtain ⟨fs1, f1, u1, v1, o1, y1, z1⟩ := fieldOf_spec fld_24_1
  rw [hfs] at u1; simp only [Option.some.injEq, TypeDesc.struct.injEq] at u1; subst u1
  obtain ⟨x1, w1, r1⟩ := rd_field (sz := 1) hall hxl v1 o1 (by rw [y1]; exact z1) (by rw [y1]; exact rd_9 W)
  obtain ⟨fs2, f2, u2, v2, o2, y2, z2⟩ := fieldOf_spec fld_24_2
  rw [hfs] at u2; simp only [Option.some.injEq, TypeDesc.struct.injEq] at u2; subst u2
  obtain ⟨x2, w2, r2⟩ := rd_field (sz := 1) hall hxl v2 o2 (by rw [y2]; exact z2) (by rw [y2]; exact rd_22 W)
  obtain ⟨fs3, f3, u3, v3, o3, y3, z3⟩ := fieldOf_spec fld_24_3
  rw [hfs] at u3; simp only [Option.some.injEq, TypeDesc.struct.injEq] at u3; subst u3
  obtain ⟨x3, w3, r3⟩ := rd_field (sz := 1) hall hxl v3 o3 (by rw [y3]; exact z3) (by rw [y3]; exact rd_4 W)
  obtain ⟨fs4, f4, u4, v4, o4, y4, z4⟩ := fieldOf_spec fld_24_4
  rw [hfs] at u4; simp only [Option.some.injEq, TypeDesc.struct.injEq] at u4; subst u4
  obtain ⟨x4, w4, r4⟩ := rd_field (sz := 1) hall hxl v4 o4 (by rw [y4]; exact z4) (by rw [y4]; exact rd_4 W)
  obtain ⟨fs5, f5, u5, v5, o5, y5, z5⟩ := fieldOf_spec fld_24_5
  rw [hfs] at u5; simp only [Option.some.injEq, TypeDesc.struct.injEq] at u5; subst u5
  obtain ⟨x5, w5, r5⟩ := rd_field (sz := 1) hall hxl v5 o5 (by rw [y5]; exact z5) (by rw [y5]; exact rd_9 W)
  obtain ⟨fs6, f6, u6, v6, o6, y6, z6⟩ := fieldOf_spec fld_24_6
  rw [hfs] at u6; simp only [Option.some.injEq, TypeDesc.struct.injEq] at u6; subst u6
  obtain ⟨x6, w6, r6⟩ := rd_field (sz := 1) hall hxl v6 o6 (by rw [y6]; exact z6) (by rw [y6]; exact rd_9 W)
  refine ⟨⟨x0, x1, x2, x3, x4, x5, x6⟩, ⟨w0, w1, w2, w3, w4, w5, w6, trivial⟩, ?_⟩
  have s7 : RepL (Sit.all W) [] (cs.drop 7) := RepL_nil _ (List.drop_eq_nil_of_le (by omega))
  have s6 : RepL (Sit.all W) (cStr x6 ++ ([])) (cs.drop 6) := RepL_split (o := 6) r6 s7
  have s5 : RepL (Sit.all W) (cStr x5 ++ (cStr x6 ++ ([]))) (cs.drop 5) := RepL_split (o := 5) r5 s6
  have s4 : RepL (Sit.all W) (cBool x4 ++ (cStr x5 ++ (cStr x6 ++ ([])))) (cs.drop 4) := RepL_split (o := 4) r4 s5
  have s3 : RepL (Sit.all W) (cBool x3 ++ (cBool x4 ++ (cStr x5 ++ (cStr x6 ++ ([]))))) (cs.drop 3) := RepL_split (o := 3) r3 s4
  have s2 : RepL (Sit.all W) ((cList 1 cStr) x2 ++ (cBool x3 ++ (cBool x4 ++ (cStr x5 ++ (cStr x6 ++ ([])))))) (cs.drop 2) := RepL_split (o := 2) r2 s3
  have s1 : RepL (Sit.all W) (cStr x1 ++ ((cList 1 cStr) x2 ++ (cBool x3 ++ (cBool x4 ++ (cStr x5 ++ (cStr x6 ++ ([]))))))) (cs.drop 1) := RepL_split (o := 1) r1 s2
  have s0 : RepL (Sit.all W) (cInt x0 ++ (cStr x1 ++ ((cList 1 cStr) x2 ++ (cBool x3 ++ (cBool x4 ++ (cStr x5 ++ (cStr x6 ++ ([])))))))) (cs.drop 0) := RepL_split (o := 0) r0 s1
  rw [List.drop_zero] at s0
  exact s0
theorem fld_26_0 : fieldOf Try.prog 26 0 = some (0, 2, 1) := by kernel_rfl
theorem fld_26_1 : fieldOf Try.prog 26 1 = some (1, 9, 1) := by kernel_rfl
theorem fld_26_2 : fieldOf Try.prog 26 2 = some (2, 22, 1) := by kernel_rfl
theorem fld_26_3 : fieldOf Try.prog 26 3 = some (3, 9, 1) := by kernel_rfl
theorem rd_26 (W : World) : Rd Try.prog W 26 GChange.cells GChange.wf := by
  intro H enc fuel cs d ps hr
  obtain ⟨fs, _, hfs, _⟩ := fieldOf_spec fld_26_0
  have hcl : Try.prog.cellsOf 26 = 4 := by kernel_rfl
  obtain ⟨xs, n, _, _, hlen, hxl, hall⟩ := DataW.trod_struct hfs hr
  rw [hcl] at hlen
  obtain ⟨fs0, f0, u0, v0, o0, y0, z0⟩ := fieldOf_spec fld_26_0
  rw [hfs] at u0; simp only [Option.some.injEq, TypeDesc.struct.injEq] at u0; subst u0
  obtain ⟨x0, w0, r0⟩ := rd_field (sz := 1) hall hxl v0 o0 (by rw [y0]; exact z0) (by rw [y0]; exact rd_2 W)
  obtain ⟨fs1, f1, u1, v1, o1, y1, z1⟩ := fieldOf_spec fld_26_1
  rw [hfs] at u1; simp only [Option.some.injEq, TypeDesc.struct.injEq] at u1; subst u1
  obtain ⟨x1, w1, r1⟩ := rd_field (sz := 1) hall hxl v1 o1 (by rw [y1]; exact z1) (by rw [y1]; exact rd_9 W)
  obtain ⟨fs2, f2, u2, v2, o2, y2, z2⟩ := fieldOf_spec fld_26_2
  rw [hfs] at u2; simp only [Option.some.injEq, TypeDesc.struct.injEq] at u2; subst u2
  obtain ⟨x2, w2, r2⟩ := rd_field (sz := 1) hall hxl v2 o2 (by rw [y2]; exact z2) (by rw [y2]; exact rd_22 W)
  obtain ⟨fs3, f3, u3, v3, o3, y3, z3⟩ := fieldOf_spec fld_26_3
  rw [hfs] at u3; simp only [Option.some.injEq, TypeDesc.struct.injEq] at u3; subst u3
  obtain ⟨x3, w3, r3⟩ := rd_field (sz := 1) hall hxl v3 o3 (by rw [y3]; exact z3) (by rw [y3]; exact rd_9 W)
  refine ⟨⟨x0, x1, x2, x3⟩, ⟨w0, w1, w2, w3, trivial⟩, ?_⟩
  have s4 : RepL (Sit.all W) [] (cs.drop 4) := RepL_nil _ (List.drop_eq_nil_of_le (by omega))
  have s3 : RepL (Sit.all W) (cStr x3 ++ ([])) (cs.drop 3) := RepL_split (o := 3) r3 s4
  have s2 : RepL (Sit.all W) ((cList 1 cStr) x2 ++ (cStr x3 ++ ([]))) (cs.drop 2) := RepL_split (o := 2) r2 s3
  have s1 : RepL (Sit.all W) (cStr x1 ++ ((cList 1 cStr) x2 ++ (cStr x3 ++ ([])))) (cs.drop 1) := RepL_split (o := 1) r1 s2
  have s0 : RepL (Sit.all W) (cInt x0 ++ (cStr x1 ++ ((cList 1 cStr) x2 ++ (cStr x3 ++ ([]))))) (cs.drop 0) := RepL_split (o := 0) r0 s1
  rw [List.drop_zero] at s0
  exact s0
theorem info_24 : ∃ i, Try.prog.info? 24 = some i ∧ i.size = 7 := info_of (by kernel_rfl)
theorem rd_42 (W : World) : Rd Try.prog W 42 (fun xs : List GTrigger => cList 7 GTrigger.cells xs) (wfList GTrigger.wf) := by
  obtain ⟨i, h1, h2⟩ := info_24
  exact rd_slice (by kernel_rfl) h1 h2 (by decide) (fun _ => rfl) (rd_24 W)
theorem glob (W : World) : Glob Try.prog (Sit.all W) := by
  intro p hp g hg
  simp only [tabs, List.mem_singleton] at hp
  subst hp
  have e : Try.prog.globalNamed "internal/strconv.uint64pow10" = none := by kernel_rfl
  rw [e] at hg
  cases hg
end Go.Proofs.Ytpahjgcpecmolaa
