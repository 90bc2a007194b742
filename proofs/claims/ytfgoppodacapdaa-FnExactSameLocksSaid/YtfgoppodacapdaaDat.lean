/-
  The data types of the laws arguments, and that the arguments of a row, read as data, are such data. No conditions.
-/
import Derived.Test.YtfgoppodacapdaaProg
import Derived.Test.YtfgoppodacapdaaAwB
import Derived.KernelRfl
namespace Go.Proofs.Ytfgoppodacapdaa
open Go.AW
set_option linter.unusedVariables false

structure GEvent where
  Kind : Int
  Name : ByteArray
  Subs : List ByteArray
  Value : ByteArray
  N : Int

def GEvent.cells (x : GEvent) : List AV := [.val (.int .i64 x.Kind), .val (.string x.Name), .list 0 1 (x.Subs.map cStr), .val (.string x.Value), .val (.int .i64 x.N)]
def GEvent.wf (x : GEvent) : Prop := wfInt x.Kind ∧ wfStr x.Name ∧ (wfList wfStr) x.Subs ∧ wfStr x.Value ∧ wfInt x.N ∧ True
def GEvent.sz (x : GEvent) : Nat := ByteArray.size x.Name + (szList ByteArray.size) x.Subs + ByteArray.size x.Value
theorem GEvent.sz_Name {x : GEvent} {b : Nat} (h : GEvent.sz x ≤ b) : ByteArray.size x.Name ≤ b := by unfold GEvent.sz at h; omega
theorem GEvent.sz_Subs {x : GEvent} {b : Nat} (h : GEvent.sz x ≤ b) : (szList ByteArray.size) x.Subs ≤ b := by unfold GEvent.sz at h; omega
theorem GEvent.sz_Value {x : GEvent} {b : Nat} (h : GEvent.sz x ≤ b) : ByteArray.size x.Value ≤ b := by unfold GEvent.sz at h; omega

structure GTrigger where
  Id : Int
  Name : ByteArray
  Subs : List ByteArray
  OnSet : Bool
  OnKill : Bool
  Routine : ByteArray
  Label : ByteArray

def GTrigger.cells (x : GTrigger) : List AV := [.val (.int .i64 x.Id), .val (.string x.Name), .list 0 1 (x.Subs.map cStr), .val (.bool x.OnSet), .val (.bool x.OnKill), .val (.string x.Routine), .val (.string x.Label)]
def GTrigger.wf (x : GTrigger) : Prop := wfInt x.Id ∧ wfStr x.Name ∧ (wfList wfStr) x.Subs ∧ (fun _ : Bool => True) x.OnSet ∧ (fun _ : Bool => True) x.OnKill ∧ wfStr x.Routine ∧ wfStr x.Label ∧ True
def GTrigger.sz (x : GTrigger) : Nat := ByteArray.size x.Name + (szList ByteArray.size) x.Subs + ByteArray.size x.Routine + ByteArray.size x.Label
theorem GTrigger.sz_Name {x : GTrigger} {b : Nat} (h : GTrigger.sz x ≤ b) : ByteArray.size x.Name ≤ b := by unfold GTrigger.sz at h; omega
theorem GTrigger.sz_Subs {x : GTrigger} {b : Nat} (h : GTrigger.sz x ≤ b) : (szList ByteArray.size) x.Subs ≤ b := by unfold GTrigger.sz at h; omega
theorem GTrigger.sz_Routine {x : GTrigger} {b : Nat} (h : GTrigger.sz x ≤ b) : ByteArray.size x.Routine ≤ b := by unfold GTrigger.sz at h; omega
theorem GTrigger.sz_Label {x : GTrigger} {b : Nat} (h : GTrigger.sz x ≤ b) : ByteArray.size x.Label ≤ b := by unfold GTrigger.sz at h; omega

structure GTrans where
  Depth : Int
  Restarts : Int
  Events : List GEvent

def GTrans.cells (x : GTrans) : List AV := [.val (.int .i64 x.Depth), .val (.int .i64 x.Restarts), .list 0 5 (x.Events.map GEvent.cells)]
def GTrans.wf (x : GTrans) : Prop := wfInt x.Depth ∧ wfInt x.Restarts ∧ (wfList GEvent.wf) x.Events ∧ True
def GTrans.sz (x : GTrans) : Nat := (szList GEvent.sz) x.Events
theorem GTrans.sz_Events {x : GTrans} {b : Nat} (h : GTrans.sz x ≤ b) : (szList GEvent.sz) x.Events ≤ b := by unfold GTrans.sz at h; omega

structure GLock where
  Job : Int
  Count : Int
  Name : ByteArray
  Subs : List ByteArray

def GLock.cells (x : GLock) : List AV := [.val (.int .i64 x.Job), .val (.int .i64 x.Count), .val (.string x.Name), .list 0 1 (x.Subs.map cStr)]
def GLock.wf (x : GLock) : Prop := wfInt x.Job ∧ wfInt x.Count ∧ wfStr x.Name ∧ (wfList wfStr) x.Subs ∧ True
def GLock.sz (x : GLock) : Nat := ByteArray.size x.Name + (szList ByteArray.size) x.Subs
theorem GLock.sz_Name {x : GLock} {b : Nat} (h : GLock.sz x ≤ b) : ByteArray.size x.Name ≤ b := by unfold GLock.sz at h; omega
theorem GLock.sz_Subs {x : GLock} {b : Nat} (h : GLock.sz x ≤ b) : (szList ByteArray.size) x.Subs ≤ b := by unfold GLock.sz at h; omega

structure GAsk where
  Job : Int
  Until : Int
  Name : ByteArray
  Subs : List ByteArray

def GAsk.cells (x : GAsk) : List AV := [.val (.int .i64 x.Job), .val (.int .i64 x.Until), .val (.string x.Name), .list 0 1 (x.Subs.map cStr)]
def GAsk.wf (x : GAsk) : Prop := wfInt x.Job ∧ wfInt x.Until ∧ wfStr x.Name ∧ (wfList wfStr) x.Subs ∧ True
def GAsk.sz (x : GAsk) : Nat := ByteArray.size x.Name + (szList ByteArray.size) x.Subs
theorem GAsk.sz_Name {x : GAsk} {b : Nat} (h : GAsk.sz x ≤ b) : ByteArray.size x.Name ≤ b := by unfold GAsk.sz at h; omega
theorem GAsk.sz_Subs {x : GAsk} {b : Nat} (h : GAsk.sz x ≤ b) : (szList ByteArray.size) x.Subs ≤ b := by unfold GAsk.sz at h; omega

structure GLocks where
  Held : List GLock
  Asks : List GAsk

def GLocks.cells (x : GLocks) : List AV := [.list 0 4 (x.Held.map GLock.cells), .list 0 4 (x.Asks.map GAsk.cells)]
def GLocks.wf (x : GLocks) : Prop := (wfList GLock.wf) x.Held ∧ (wfList GAsk.wf) x.Asks ∧ True
def GLocks.sz (x : GLocks) : Nat := (szList GLock.sz) x.Held + (szList GAsk.sz) x.Asks
theorem GLocks.sz_Held {x : GLocks} {b : Nat} (h : GLocks.sz x ≤ b) : (szList GLock.sz) x.Held ≤ b := by unfold GLocks.sz at h; omega
theorem GLocks.sz_Asks {x : GLocks} {b : Nat} (h : GLocks.sz x ≤ b) : (szList GAsk.sz) x.Asks ≤ b := by unfold GLocks.sz at h; omega

structure GChange where
  Kind : Int
  Name : ByteArray
  Subs : List ByteArray
  Value : ByteArray

def GChange.cells (x : GChange) : List AV := [.val (.int .i64 x.Kind), .val (.string x.Name), .list 0 1 (x.Subs.map cStr), .val (.string x.Value)]
def GChange.wf (x : GChange) : Prop := wfInt x.Kind ∧ wfStr x.Name ∧ (wfList wfStr) x.Subs ∧ wfStr x.Value ∧ True
def GChange.sz (x : GChange) : Nat := ByteArray.size x.Name + (szList ByteArray.size) x.Subs + ByteArray.size x.Value
theorem GChange.sz_Name {x : GChange} {b : Nat} (h : GChange.sz x ≤ b) : ByteArray.size x.Name ≤ b := by unfold GChange.sz at h; omega
theorem GChange.sz_Subs {x : GChange} {b : Nat} (h : GChange.sz x ≤ b) : (szList ByteArray.size) x.Subs ≤ b := by unfold GChange.sz at h; omega
theorem GChange.sz_Value {x : GChange} {b : Nat} (h : GChange.sz x ≤ b) : ByteArray.size x.Value ≤ b := by unfold GChange.sz at h; omega

structure GRow where
  Cells : List ByteArray

def GRow.cells (x : GRow) : List AV := [.list 0 1 (x.Cells.map cStr)]
def GRow.wf (x : GRow) : Prop := (wfList wfStr) x.Cells ∧ True
def GRow.sz (x : GRow) : Nat := (szList ByteArray.size) x.Cells
theorem GRow.sz_Cells {x : GRow} {b : Nat} (h : GRow.sz x ≤ b) : (szList ByteArray.size) x.Cells ≤ b := by unfold GRow.sz at h; omega

structure GBatch where
  Job : Int
  Events : List GEvent

def GBatch.cells (x : GBatch) : List AV := [.val (.int .i64 x.Job), .list 0 5 (x.Events.map GEvent.cells)]
def GBatch.wf (x : GBatch) : Prop := wfInt x.Job ∧ (wfList GEvent.wf) x.Events ∧ True
def GBatch.sz (x : GBatch) : Nat := (szList GEvent.sz) x.Events
theorem GBatch.sz_Events {x : GBatch} {b : Nat} (h : GBatch.sz x ≤ b) : (szList GEvent.sz) x.Events ≤ b := by unfold GBatch.sz at h; omega

theorem rd_2 (W : World) : Rd Try.prog W 2 cInt wfInt := rd_int (by kernel_rfl)
theorem rd_9 (W : World) : Rd Try.prog W 9 cStr wfStr := rd_string (by kernel_rfl)
theorem info_9 : ∃ i, Try.prog.info? 9 = some i ∧ i.size = 1 := info_of (by kernel_rfl)
theorem rd_22 (W : World) : Rd Try.prog W 22 (fun xs : List ByteArray => cList 1 cStr xs) (wfList wfStr) := by
  obtain ⟨i, h1, h2⟩ := info_9
  exact rd_slice (by kernel_rfl) h1 h2 (by decide) (fun _ => rfl) (rd_9 W)
theorem fld_24_0 : fieldOf Try.prog 24 0 = some (0, 2, 1) := by kernel_rfl
theorem fld_24_1 : fieldOf Try.prog 24 1 = some (1, 9, 1) := by kernel_rfl
theorem fld_24_2 : fieldOf Try.prog 24 2 = some (2, 22, 1) := by kernel_rfl
theorem fld_24_3 : fieldOf Try.prog 24 3 = some (3, 9, 1) := by kernel_rfl
theorem fld_24_4 : fieldOf Try.prog 24 4 = some (4, 2, 1) := by kernel_rfl
theorem rd_24 (W : World) : Rd Try.prog W 24 GEvent.cells GEvent.wf := by
  intro H enc fuel cs d ps hr
  obtain ⟨fs, _, hfs, _⟩ := fieldOf_spec fld_24_0
  have hcl : Try.prog.cellsOf 24 = 5 := by kernel_rfl
  obtain ⟨xs, n, _, _, hlen, hxl, hall⟩ := DataW.trod_struct hfs hr
  rw [hcl] at hlen
  obtain ⟨fs0, f0, u0, v0, o0, y0, z0⟩ := fieldOf_spec fld_24_0
  rw [hfs] at u0; simp only [Option.some.injEq, TypeDesc.struct.injEq] at u0; subst u0
  obtain ⟨x0, w0, r0⟩ := rd_field (sz := 1) hall hxl v0 o0 (by rw [y0]; exact z0) (by rw [y0]; exact rd_2 W)
  obtain ⟨fs1, f1, u1, v1, o1, y1, z1⟩ := fieldOf_spec fld_24_1
  rw [hfs] at u1; simp only [Option.some.injEq, TypeDesc.struct.injEq] at u1; subst u1
  obtain ⟨x1, w1, r1⟩ := rd_field (sz := 1) hall hxl v1 o1 (by rw [y1]; exact z1) (by rw [y1]; exact rd_9 W)
  obtain ⟨fs2, f2, u2, v2, o2, y2, z2⟩ := fieldOf_spec fld_24_2
  rw [hfs] at u2; simp only [Option.some.injEq, TypeDesc.struct.injEq] at u2; subst u2
  obtain ⟨x2, w2, r2⟩ := rd_field (sz := 1) hall hxl v2 o2 (by rw [y2]; exact z2) (by rw [y2]; exact rd_22 W)
  obtain ⟨fs3, f3, u3, v3, o3, y3, z3⟩ := fieldOf_spec fld_24_3
  rw [hfs] at u3; simp only [Option.some.injEq, TypeDesc.struct.injEq] at u3; subst u3
  obtain ⟨x3, w3, r3⟩ := rd_field (sz := 1) hall hxl v3 o3 (by rw [y3]; exact z3) (by rw [y3]; exact rd_9 W)
  obtain ⟨fs4, f4, u4, v4, o4, y4, z4⟩ := fieldOf_spec fld_24_4
  rw [hfs] at u4; simp only [Option.some.injEq, TypeDesc.struct.injEq] at u4; subst u4
  obtain ⟨x4, w4, r4⟩ := rd_field (sz := 1) hall hxl v4 o4 (by rw [y4]; exact z4) (by rw [y4]; exact rd_2 W)
  refine ⟨⟨x0, x1, x2, x3, x4⟩, ⟨w0, w1, w2, w3, w4, trivial⟩, ?_⟩
  have s5 : RepL (Sit.all W) [] (cs.drop 5) := RepL_nil _ (List.drop_eq_nil_of_le (by omega))
  have s4 : RepL (Sit.all W) (cInt x4 ++ ([])) (cs.drop 4) := RepL_split (o := 4) r4 s5
  have s3 : RepL (Sit.all W) (cStr x3 ++ (cInt x4 ++ ([]))) (cs.drop 3) := RepL_split (o := 3) r3 s4
  have s2 : RepL (Sit.all W) ((cList 1 cStr) x2 ++ (cStr x3 ++ (cInt x4 ++ ([])))) (cs.drop 2) := RepL_split (o := 2) r2 s3
  have s1 : RepL (Sit.all W) (cStr x1 ++ ((cList 1 cStr) x2 ++ (cStr x3 ++ (cInt x4 ++ ([]))))) (cs.drop 1) := RepL_split (o := 1) r1 s2
  have s0 : RepL (Sit.all W) (cInt x0 ++ (cStr x1 ++ ((cList 1 cStr) x2 ++ (cStr x3 ++ (cInt x4 ++ ([])))))) (cs.drop 0) := RepL_split (o := 0) r0 s1
  rw [List.drop_zero] at s0
  exact s0
theorem rd_4 (W : World) : Rd Try.prog W 4 cBool (fun _ : Bool => True) := rd_bool (by kernel_rfl)
theorem fld_42_0 : fieldOf Try.prog 42 0 = some (0, 2, 1) := by kernel_rfl
theorem fld_42_1 : fieldOf Try.prog 42 1 = some (1, 9, 1) := by kernel_rfl
theorem fld_42_2 : fieldOf Try.prog 42 2 = some (2, 22, 1) := by kernel_rfl
theorem fld_42_3 : fieldOf Try.prog 42 3 = some (3, 4, 1) := by kernel_rfl
theorem fld_42_4 : fieldOf Try.prog 42 4 = some (4, 4, 1) := by kernel_rfl
theorem fld_42_5 : fieldOf Try.prog 42 5 = some (5, 9, 1) := by kernel_rfl
theorem fld_42_6 : fieldOf Try.prog 42 6 = some (6, 9, 1) := by kernel_rfl
theorem rd_42 (W : World) : Rd Try.prog W 42 GTrigger.cells GTrigger.wf := by
  intro H enc fuel cs d ps hr
  obtain ⟨fs, _, hfs, _⟩ := fieldOf_spec fld_42_0
  have hcl : Try.prog.cellsOf 42 = 7 := by kernel_rfl
  obtain ⟨xs, n, _, _, hlen, hxl, hall⟩ := DataW.trod_struct hfs hr
  rw [hcl] at hlen
  obtain ⟨fs0, f0, u0, v0, o0, y0, z0⟩ := fieldOf_spec fld_42_0
  rw [hfs] at u0; simp only [Option.some.injEq, TypeDesc.struct.injEq] at u0; subst u0
  obtain ⟨x0, w0, r0⟩ := rd_field (sz := 1) hall hxl v0 o0 (by rw [y0]; exact z0) (by rw [y0]; exact rd_2 W)
  obtain ⟨fs1, f1, u1, v1, o1, y1, z1⟩ := fieldOf_spec fld_42_1
  rw [hfs] at u1; simp only [Option.some.injEq, TypeDesc.struct.injEq] at u1; subst u1
  obtain ⟨x1, w1, r1⟩ := rd_field (sz := 1) hall hxl v1 o1 (by rw [y1]; exact z1) (by rw [y1]; exact rd_9 W)
  obtain ⟨fs2, f2, u2, v2, o2, y2, z2⟩ := fieldOf_spec fld_42_2
  rw [hfs] at u2; simp only [Option.some.injEq, TypeDesc.struct.injEq] at u2; subst u2
  obtain ⟨x2, w2, r2⟩ := rd_field (sz := 1) hall hxl v2 o2 (by rw [y2]; exact z2) (by rw [y2]; exact rd_22 W)
  obtain ⟨fs3, f3, u3, v3, o3, y3, z3⟩ := fieldOf_spec fld_42_3
  rw [hfs] at u3; simp only [Option.some.injEq, TypeDesc.struct.injEq] at u3; subst u3
  obtain ⟨x3, w3, r3⟩ := rd_field (sz := 1) hall hxl v3 o3 (by rw [y3]; exact z3) (by rw [y3]; exact rd_4 W)
  obtain ⟨fs4, f4, u4, v4, o4, y4, z4⟩ := fieldOf_spec fld_42_4
  rw [hfs] at u4; simp only [Option.some.injEq, TypeDesc.struct.injEq] at u4; subst u4
  obtain ⟨x4, w4, r4⟩ := rd_field (sz := 1) hall hxl v4 o4 (by rw [y4]; exact z4) (by rw [y4]; exact rd_4 W)
  obtain ⟨fs5, f5, u5, v5, o5, y5, z5⟩ := fieldOf_spec fld_42_5
  rw [hfs] at u5; simp only [Option.some.injEq, TypeDesc.struct.injEq] at u5; subst u5
  obtain ⟨x5, w5, r5⟩ := rd_field (sz := 1) hall hxl v5 o5 (by rw [y5]; exact z5) (by rw [y5]; exact rd_9 W)
  obtain ⟨fs6, f6, u6, v6, o6, y6, z6⟩ := fieldOf_spec fld_42_6
  rw [hfs] at u6; simp only [Option.some.injEq, TypeDesc.struct.injEq] at u6; subst u6
  obtain ⟨x6, w6, r6⟩ := rd_field (sz := 1) hall hxl v6 o6 (by rw [y6]; exact z6) (by rw [y6]; exact rd_9 W)
  refine ⟨⟨x0, x1, x2, x3, x4, x5, x6⟩, ⟨w0, w1, w2, w3, w4, w5, w6, trivial⟩, ?_⟩
  have s7 : RepL (Sit.all W) [] (cs.drop 7) := RepL_nil _ (List.drop_eq_nil_of_le (by omega))
  have s6 : RepL (Sit.all W) (cStr x6 ++ ([])) (cs.drop 6) := RepL_split (o := 6) r6 s7
  have s5 : RepL (Sit.all W) (cStr x5 ++ (cStr x6 ++ ([]))) (cs.drop 5) := RepL_split (o := 5) r5 s6
  have s4 : RepL (Sit.all W) (cBool x4 ++ (cStr x5 ++ (cStr x6 ++ ([])))) (cs.drop 4) := RepL_split (o := 4) r4 s5
  have s3 : RepL (Sit.all W) (cBool x3 ++ (cBool x4 ++ (cStr x5 ++ (cStr x6 ++ ([]))))) (cs.drop 3) := RepL_split (o := 3) r3 s4
  have s2 : RepL (Sit.all W) ((cList 1 cStr) x2 ++ (cBool x3 ++ (cBool x4 ++ (cStr x5 ++ (cStr x6 ++ ([])))))) (cs.drop 2) := RepL_split (o := 2) r2 s3
  have s1 : RepL (Sit.all W) (cStr x1 ++ ((cList 1 cStr) x2 ++ (cBool x3 ++ (cBool x4 ++ (cStr x5 ++ (cStr x6 ++ ([]))))))) (cs.drop 1) := RepL_split (o := 1) r1 s2
  have s0 : RepL (Sit.all W) (cInt x0 ++ (cStr x1 ++ ((cList 1 cStr) x2 ++ (cBool x3 ++ (cBool x4 ++ (cStr x5 ++ (cStr x6 ++ ([])))))))) (cs.drop 0) := RepL_split (o := 0) r0 s1
  rw [List.drop_zero] at s0
  exact s0
theorem info_24 : ∃ i, Try.prog.info? 24 = some i ∧ i.size = 5 := info_of (by kernel_rfl)
theorem rd_55 (W : World) : Rd Try.prog W 55 (fun xs : List GEvent => cList 5 GEvent.cells xs) (wfList GEvent.wf) := by
  obtain ⟨i, h1, h2⟩ := info_24
  exact rd_slice (by kernel_rfl) h1 h2 (by decide) (fun _ => rfl) (rd_24 W)
theorem fld_57_0 : fieldOf Try.prog 57 0 = some (0, 2, 1) := by kernel_rfl
theorem fld_57_1 : fieldOf Try.prog 57 1 = some (1, 2, 1) := by kernel_rfl
theorem fld_57_2 : fieldOf Try.prog 57 2 = some (2, 55, 1) := by kernel_rfl
theorem rd_57 (W : World) : Rd Try.prog W 57 GTrans.cells GTrans.wf := by
  intro H enc fuel cs d ps hr
  obtain ⟨fs, _, hfs, _⟩ := fieldOf_spec fld_57_0
  have hcl : Try.prog.cellsOf 57 = 3 := by kernel_rfl
  obtain ⟨xs, n, _, _, hlen, hxl, hall⟩ := DataW.trod_struct hfs hr
  rw [hcl] at hlen
  obtain ⟨fs0, f0, u0, v0, o0, y0, z0⟩ := fieldOf_spec fld_57_0
  rw [hfs] at u0; simp only [Option.some.injEq, TypeDesc.struct.injEq] at u0; subst u0
  obtain ⟨x0, w0, r0⟩ := rd_field (sz := 1) hall hxl v0 o0 (by rw [y0]; exact z0) (by rw [y0]; exact rd_2 W)
  obtain ⟨fs1, f1, u1, v1, o1, y1, z1⟩ := fieldOf_spec fld_57_1
  rw [hfs] at u1; simp only [Option.some.injEq, TypeDesc.struct.injEq] at u1; subst u1
  obtain ⟨x1, w1, r1⟩ := rd_field (sz := 1) hall hxl v1 o1 (by rw [y1]; exact z1) (by rw [y1]; exact rd_2 W)
  obtain ⟨fs2, f2, u2, v2, o2, y2, z2⟩ := fieldOf_spec fld_57_2
  rw [hfs] at u2; simp only [Option.some.injEq, TypeDesc.struct.injEq] at u2; subst u2
  obtain ⟨x2, w2, r2⟩ := rd_field (sz := 1) hall hxl v2 o2 (by rw [y2]; exact z2) (by rw [y2]; exact rd_55 W)
  refine ⟨⟨x0, x1, x2⟩, ⟨w0, w1, w2, trivial⟩, ?_⟩
  have s3 : RepL (Sit.all W) [] (cs.drop 3) := RepL_nil _ (List.drop_eq_nil_of_le (by omega))
  have s2 : RepL (Sit.all W) ((cList 5 GEvent.cells) x2 ++ ([])) (cs.drop 2) := RepL_split (o := 2) r2 s3
  have s1 : RepL (Sit.all W) (cInt x1 ++ ((cList 5 GEvent.cells) x2 ++ ([]))) (cs.drop 1) := RepL_split (o := 1) r1 s2
  have s0 : RepL (Sit.all W) (cInt x0 ++ (cInt x1 ++ ((cList 5 GEvent.cells) x2 ++ ([])))) (cs.drop 0) := RepL_split (o := 0) r0 s1
  rw [List.drop_zero] at s0
  exact s0
theorem fld_147_0 : fieldOf Try.prog 147 0 = some (0, 2, 1) := by kernel_rfl
theorem fld_147_1 : fieldOf Try.prog 147 1 = some (1, 2, 1) := by kernel_rfl
theorem fld_147_2 : fieldOf Try.prog 147 2 = some (2, 9, 1) := by kernel_rfl
theorem fld_147_3 : fieldOf Try.prog 147 3 = some (3, 22, 1) := by kernel_rfl
theorem rd_147 (W : World) : Rd Try.prog W 147 GLock.cells GLock.wf := by
  intro H enc fuel cs d ps hr
  obtain ⟨fs, _, hfs, _⟩ := fieldOf_spec fld_147_0
  have hcl : Try.prog.cellsOf 147 = 4 := by kernel_rfl
  obtain ⟨xs, n, _, _, hlen, hxl, hall⟩ := DataW.trod_struct hfs hr
  rw [hcl] at hlen
  obtain ⟨fs0, f0, u0, v0, o0, y0, z0⟩ := fieldOf_spec fld_147_0
  rw [hfs] at u0; simp only [Option.some.injEq, TypeDesc.struct.injEq] at u0; subst u0
  obtain ⟨x0, w0, r0⟩ := rd_field (sz := 1) hall hxl v0 o0 (by rw [y0]; exact z0) (by rw [y0]; exact rd_2 W)
  obtain ⟨fs1, f1, u1, v1, o1, y1, z1⟩ := fieldOf_spec fld_147_1
  rw [hfs] at u1; simp only [Option.some.injEq, TypeDesc.struct.injEq] at u1; subst u1
  obtain ⟨x1, w1, r1⟩ := rd_field (sz := 1) hall hxl v1 o1 (by rw [y1]; exact z1) (by rw [y1]; exact rd_2 W)
  obtain ⟨fs2, f2, u2, v2, o2, y2, z2⟩ := fieldOf_spec fld_147_2
  rw [hfs] at u2; simp only [Option.some.injEq, TypeDesc.struct.injEq] at u2; subst u2
  obtain ⟨x2, w2, r2⟩ := rd_field (sz := 1) hall hxl v2 o2 (by rw [y2]; exact z2) (by rw [y2]; exact rd_9 W)
  obtain ⟨fs3, f3, u3, v3, o3, y3, z3⟩ := fieldOf_spec fld_147_3
  rw [hfs] at u3; simp only [Option.some.injEq, TypeDesc.struct.injEq] at u3; subst u3
  obtain ⟨x3, w3, r3⟩ := rd_field (sz := 1) hall hxl v3 o3 (by rw [y3]; exact z3) (by rw [y3]; exact rd_22 W)
  refine ⟨⟨x0, x1, x2, x3⟩, ⟨w0, w1, w2, w3, trivial⟩, ?_⟩
  have s4 : RepL (Sit.all W) [] (cs.drop 4) := RepL_nil _ (List.drop_eq_nil_of_le (by omega))
  have s3 : RepL (Sit.all W) ((cList 1 cStr) x3 ++ ([])) (cs.drop 3) := RepL_split (o := 3) r3 s4
  have s2 : RepL (Sit.all W) (cStr x2 ++ ((cList 1 cStr) x3 ++ ([]))) (cs.drop 2) := RepL_split (o := 2) r2 s3
  have s1 : RepL (Sit.all W) (cInt x1 ++ (cStr x2 ++ ((cList 1 cStr) x3 ++ ([])))) (cs.drop 1) := RepL_split (o := 1) r1 s2
  have s0 : RepL (Sit.all W) (cInt x0 ++ (cInt x1 ++ (cStr x2 ++ ((cList 1 cStr) x3 ++ ([]))))) (cs.drop 0) := RepL_split (o := 0) r0 s1
  rw [List.drop_zero] at s0
  exact s0
theorem fld_149_0 : fieldOf Try.prog 149 0 = some (0, 2, 1) := by kernel_rfl
theorem fld_149_1 : fieldOf Try.prog 149 1 = some (1, 2, 1) := by kernel_rfl
theorem fld_149_2 : fieldOf Try.prog 149 2 = some (2, 9, 1) := by kernel_rfl
theorem fld_149_3 : fieldOf Try.prog 149 3 = some (3, 22, 1) := by kernel_rfl
theorem rd_149 (W : World) : Rd Try.prog W 149 GAsk.cells GAsk.wf := by
  intro H enc fuel cs d ps hr
  obtain ⟨fs, _, hfs, _⟩ := fieldOf_spec fld_149_0
  have hcl : Try.prog.cellsOf 149 = 4 := by kernel_rfl
  obtain ⟨xs, n, _, _, hlen, hxl, hall⟩ := DataW.trod_struct hfs hr
  rw [hcl] at hlen
  obtain ⟨fs0, f0, u0, v0, o0, y0, z0⟩ := fieldOf_spec fld_149_0
  rw [hfs] at u0; simp only [Option.some.injEq, TypeDesc.struct.injEq] at u0; subst u0
  obtain ⟨x0, w0, r0⟩ := rd_field (sz := 1) hall hxl v0 o0 (by rw [y0]; exact z0) (by rw [y0]; exact rd_2 W)
  obtain ⟨fs1, f1, u1, v1, o1, y1, z1⟩ := fieldOf_spec fld_149_1
  rw [hfs] at u1; simp only [Option.some.injEq, TypeDesc.struct.injEq] at u1; subst u1
  obtain ⟨x1, w1, r1⟩ := rd_field (sz := 1) hall hxl v1 o1 (by rw [y1]; exact z1) (by rw [y1]; exact rd_2 W)
  obtain ⟨fs2, f2, u2, v2, o2, y2, z2⟩ := fieldOf_spec fld_149_2
  rw [hfs] at u2; simp only [Option.some.injEq, TypeDesc.struct.injEq] at u2; subst u2
  obtain ⟨x2, w2, r2⟩ := rd_field (sz := 1) hall hxl v2 o2 (by rw [y2]; exact z2) (by rw [y2]; exact rd_9 W)
  obtain ⟨fs3, f3, u3, v3, o3, y3, z3⟩ := fieldOf_spec fld_149_3
  rw [hfs] at u3; simp only [Option.some.injEq, TypeDesc.struct.injEq] at u3; subst u3
  obtain ⟨x3, w3, r3⟩ := rd_field (sz := 1) hall hxl v3 o3 (by rw [y3]; exact z3) (by rw [y3]; exact rd_22 W)
  refine ⟨⟨x0, x1, x2, x3⟩, ⟨w0, w1, w2, w3, trivial⟩, ?_⟩
  have s4 : RepL (Sit.all W) [] (cs.drop 4) := RepL_nil _ (List.drop_eq_nil_of_le (by omega))
  have s3 : RepL (Sit.all W) ((cList 1 cStr) x3 ++ ([])) (cs.drop 3) := RepL_split (o := 3) r3 s4
  have s2 : RepL (Sit.all W) (cStr x2 ++ ((cList 1 cStr) x3 ++ ([]))) (cs.drop 2) := RepL_split (o := 2) r2 s3
  have s1 : RepL (Sit.all W) (cInt x1 ++ (cStr x2 ++ ((cList 1 cStr) x3 ++ ([])))) (cs.drop 1) := RepL_split (o := 1) r1 s2
  have s0 : RepL (Sit.all W) (cInt x0 ++ (cInt x1 ++ (cStr x2 ++ ((cList 1 cStr) x3 ++ ([]))))) (cs.drop 0) := RepL_split (o := 0) r0 s1
  rw [List.drop_zero] at s0
  exact s0
theorem info_147 : ∃ i, Try.prog.info? 147 = some i ∧ i.size = 4 := info_of (by kernel_rfl)
theorem rd_73 (W : World) : Rd Try.prog W 73 (fun xs : List GLock => cList 4 GLock.cells xs) (wfList GLock.wf) := by
  obtain ⟨i, h1, h2⟩ := info_147
  exact rd_slice (by kernel_rfl) h1 h2 (by decide) (fun _ => rfl) (rd_147 W)
theorem info_149 : ∃ i, Try.prog.info? 149 = some i ∧ i.size = 4 := info_of (by kernel_rfl)
theorem rd_74 (W : World) : Rd Try.prog W 74 (fun xs : List GAsk => cList 4 GAsk.cells xs) (wfList GAsk.wf) := by
  obtain ⟨i, h1, h2⟩ := info_149
  exact rd_slice (by kernel_rfl) h1 h2 (by decide) (fun _ => rfl) (rd_149 W)
theorem fld_76_0 : fieldOf Try.prog 76 0 = some (0, 73, 1) := by kernel_rfl
theorem fld_76_1 : fieldOf Try.prog 76 1 = some (1, 74, 1) := by kernel_rfl
theorem rd_76 (W : World) : Rd Try.prog W 76 GLocks.cells GLocks.wf := by
  intro H enc fuel cs d ps hr
  obtain ⟨fs, _, hfs, _⟩ := fieldOf_spec fld_76_0
  have hcl : Try.prog.cellsOf 76 = 2 := by kernel_rfl
  obtain ⟨xs, n, _, _, hlen, hxl, hall⟩ := DataW.trod_struct hfs hr
  rw [hcl] at hlen
  obtain ⟨fs0, f0, u0, v0, o0, y0, z0⟩ := fieldOf_spec fld_76_0
  rw [hfs] at u0; simp only [Option.some.injEq, TypeDesc.struct.injEq] at u0; subst u0
  obtain ⟨x0, w0, r0⟩ := rd_field (sz := 1) hall hxl v0 o0 (by rw [y0]; exact z0) (by rw [y0]; exact rd_73 W)
  obtain ⟨fs1, f1, u1, v1, o1, y1, z1⟩ := fieldOf_spec fld_76_1
  rw [hfs] at u1; simp only [Option.some.injEq, TypeDesc.struct.injEq] at u1; subst u1
  obtain ⟨x1, w1, r1⟩ := rd_field (sz := 1) hall hxl v1 o1 (by rw [y1]; exact z1) (by rw [y1]; exact rd_74 W)
  refine ⟨⟨x0, x1⟩, ⟨w0, w1, trivial⟩, ?_⟩
  have s2 : RepL (Sit.all W) [] (cs.drop 2) := RepL_nil _ (List.drop_eq_nil_of_le (by omega))
  have s1 : RepL (Sit.all W) ((cList 4 GAsk.cells) x1 ++ ([])) (cs.drop 1) := RepL_split (o := 1) r1 s2
  have s0 : RepL (Sit.all W) ((cList 4 GLock.cells) x0 ++ ((cList 4 GAsk.cells) x1 ++ ([]))) (cs.drop 0) := RepL_split (o := 0) r0 s1
  rw [List.drop_zero] at s0
  exact s0
theorem fld_86_0 : fieldOf Try.prog 86 0 = some (0, 2, 1) := by kernel_rfl
theorem fld_86_1 : fieldOf Try.prog 86 1 = some (1, 9, 1) := by kernel_rfl
theorem fld_86_2 : fieldOf Try.prog 86 2 = some (2, 22, 1) := by kernel_rfl
theorem fld_86_3 : fieldOf Try.prog 86 3 = some (3, 9, 1) := by kernel_rfl
theorem rd_86 (W : World) : Rd Try.prog W 86 GChange.cells GChange.wf := by
  intro H enc fuel cs d ps hr
  obtain ⟨fs, _, hfs, _⟩ := fieldOf_spec fld_86_0
  have hcl : Try.prog.cellsOf 86 = 4 := by kernel_rfl
  obtain ⟨xs, n, _, _, hlen, hxl, hall⟩ := DataW.trod_struct hfs hr
  rw [hcl] at hlen
  obtain ⟨fs0, f0, u0, v0, o0, y0, z0⟩ := fieldOf_spec fld_86_0
  rw [hfs] at u0; simp only [Option.some.injEq, TypeDesc.struct.injEq] at u0; subst u0
  obtain ⟨x0, w0, r0⟩ := rd_field (sz := 1) hall hxl v0 o0 (by rw [y0]; exact z0) (by rw [y0]; exact rd_2 W)
  obtain ⟨fs1, f1, u1, v1, o1, y1, z1⟩ := fieldOf_spec fld_86_1
  rw [hfs] at u1; simp only [Option.some.injEq, TypeDesc.struct.injEq] at u1; subst u1
  obtain ⟨x1, w1, r1⟩ := rd_field (sz := 1) hall hxl v1 o1 (by rw [y1]; exact z1) (by rw [y1]; exact rd_9 W)
  obtain ⟨fs2, f2, u2, v2, o2, y2, z2⟩ := fieldOf_spec fld_86_2
  rw [hfs] at u2; simp only [Option.some.injEq, TypeDesc.struct.injEq] at u2; subst u2
  obtain ⟨x2, w2, r2⟩ := rd_field (sz := 1) hall hxl v2 o2 (by rw [y2]; exact z2) (by rw [y2]; exact rd_22 W)
  obtain ⟨fs3, f3, u3, v3, o3, y3, z3⟩ := fieldOf_spec fld_86_3
  rw [hfs] at u3; simp only [Option.some.injEq, TypeDesc.struct.injEq] at u3; subst u3
  obtain ⟨x3, w3, r3⟩ := rd_field (sz := 1) hall hxl v3 o3 (by rw [y3]; exact z3) (by rw [y3]; exact rd_9 W)
  refine ⟨⟨x0, x1, x2, x3⟩, ⟨w0, w1, w2, w3, trivial⟩, ?_⟩
  have s4 : RepL (Sit.all W) [] (cs.drop 4) := RepL_nil _ (List.drop_eq_nil_of_le (by omega))
  have s3 : RepL (Sit.all W) (cStr x3 ++ ([])) (cs.drop 3) := RepL_split (o := 3) r3 s4
  have s2 : RepL (Sit.all W) ((cList 1 cStr) x2 ++ (cStr x3 ++ ([]))) (cs.drop 2) := RepL_split (o := 2) r2 s3
  have s1 : RepL (Sit.all W) (cStr x1 ++ ((cList 1 cStr) x2 ++ (cStr x3 ++ ([])))) (cs.drop 1) := RepL_split (o := 1) r1 s2
  have s0 : RepL (Sit.all W) (cInt x0 ++ (cStr x1 ++ ((cList 1 cStr) x2 ++ (cStr x3 ++ ([]))))) (cs.drop 0) := RepL_split (o := 0) r0 s1
  rw [List.drop_zero] at s0
  exact s0
theorem fld_105_0 : fieldOf Try.prog 105 0 = some (0, 22, 1) := by kernel_rfl
theorem rd_105 (W : World) : Rd Try.prog W 105 GRow.cells GRow.wf := by
  intro H enc fuel cs d ps hr
  obtain ⟨fs, _, hfs, _⟩ := fieldOf_spec fld_105_0
  have hcl : Try.prog.cellsOf 105 = 1 := by kernel_rfl
  obtain ⟨xs, n, _, _, hlen, hxl, hall⟩ := DataW.trod_struct hfs hr
  rw [hcl] at hlen
  obtain ⟨fs0, f0, u0, v0, o0, y0, z0⟩ := fieldOf_spec fld_105_0
  rw [hfs] at u0; simp only [Option.some.injEq, TypeDesc.struct.injEq] at u0; subst u0
  obtain ⟨x0, w0, r0⟩ := rd_field (sz := 1) hall hxl v0 o0 (by rw [y0]; exact z0) (by rw [y0]; exact rd_22 W)
  refine ⟨⟨x0⟩, ⟨w0, trivial⟩, ?_⟩
  have s1 : RepL (Sit.all W) [] (cs.drop 1) := RepL_nil _ (List.drop_eq_nil_of_le (by omega))
  have s0 : RepL (Sit.all W) ((cList 1 cStr) x0 ++ ([])) (cs.drop 0) := RepL_split (o := 0) r0 s1
  rw [List.drop_zero] at s0
  exact s0
theorem fld_119_0 : fieldOf Try.prog 119 0 = some (0, 2, 1) := by kernel_rfl
theorem fld_119_1 : fieldOf Try.prog 119 1 = some (1, 55, 1) := by kernel_rfl
theorem rd_119 (W : World) : Rd Try.prog W 119 GBatch.cells GBatch.wf := by
  intro H enc fuel cs d ps hr
  obtain ⟨fs, _, hfs, _⟩ := fieldOf_spec fld_119_0
  have hcl : Try.prog.cellsOf 119 = 2 := by kernel_rfl
  obtain ⟨xs, n, _, _, hlen, hxl, hall⟩ := DataW.trod_struct hfs hr
  rw [hcl] at hlen
  obtain ⟨fs0, f0, u0, v0, o0, y0, z0⟩ := fieldOf_spec fld_119_0
  rw [hfs] at u0; simp only [Option.some.injEq, TypeDesc.struct.injEq] at u0; subst u0
  obtain ⟨x0, w0, r0⟩ := rd_field (sz := 1) hall hxl v0 o0 (by rw [y0]; exact z0) (by rw [y0]; exact rd_2 W)
  obtain ⟨fs1, f1, u1, v1, o1, y1, z1⟩ := fieldOf_spec fld_119_1
  rw [hfs] at u1; simp only [Option.some.injEq, TypeDesc.struct.injEq] at u1; subst u1
  obtain ⟨x1, w1, r1⟩ := rd_field (sz := 1) hall hxl v1 o1 (by rw [y1]; exact z1) (by rw [y1]; exact rd_55 W)
  refine ⟨⟨x0, x1⟩, ⟨w0, w1, trivial⟩, ?_⟩
  have s2 : RepL (Sit.all W) [] (cs.drop 2) := RepL_nil _ (List.drop_eq_nil_of_le (by omega))
  have s1 : RepL (Sit.all W) ((cList 5 GEvent.cells) x1 ++ ([])) (cs.drop 1) := RepL_split (o := 1) r1 s2
  have s0 : RepL (Sit.all W) (cInt x0 ++ ((cList 5 GEvent.cells) x1 ++ ([]))) (cs.drop 0) := RepL_split (o := 0) r0 s1
  rw [List.drop_zero] at s0
  exact s0
theorem info_42 : ∃ i, Try.prog.info? 42 = some i ∧ i.size = 7 := info_of (by kernel_rfl)
theorem rd_49 (W : World) : Rd Try.prog W 49 (fun xs : List GTrigger => cList 7 GTrigger.cells xs) (wfList GTrigger.wf) := by
  obtain ⟨i, h1, h2⟩ := info_42
  exact rd_slice (by kernel_rfl) h1 h2 (by decide) (fun _ => rfl) (rd_42 W)
theorem info_119 : ∃ i, Try.prog.info? 119 = some i ∧ i.size = 2 := info_of (by kernel_rfl)
theorem rd_67 (W : World) : Rd Try.prog W 67 (fun xs : List GBatch => cList 2 GBatch.cells xs) (wfList GBatch.wf) := by
  obtain ⟨i, h1, h2⟩ := info_119
  exact rd_slice (by kernel_rfl) h1 h2 (by decide) (fun _ => rfl) (rd_119 W)
theorem info_105 : ∃ i, Try.prog.info? 105 = some i ∧ i.size = 1 := info_of (by kernel_rfl)
theorem rd_35 (W : World) : Rd Try.prog W 35 (fun xs : List GRow => cList 1 GRow.cells xs) (wfList GRow.wf) := by
  obtain ⟨i, h1, h2⟩ := info_105
  exact rd_slice (by kernel_rfl) h1 h2 (by decide) (fun _ => rfl) (rd_105 W)
end Go.Proofs.Ytfgoppodacapdaa
