/-
  The data types of the laws arguments, and that the arguments of a row, read as data, are such data. No conditions.
-/
import Derived.Test.YtleolgjneaekcabGreatDoorProg
import Derived.Test.YtleolgjneaekcabGreatDoorAwB
import Derived.KernelRfl
namespace Go.Proofs.YtleolgjneaekcabGreatDoor
open Go.AW
set_option linter.unusedVariables false

structure GEvent where
  Kind : Int
  Name : ByteArray
  Subs : List ByteArray
  Value : ByteArray
  N : Int

def GEvent.cells (x : GEvent) : List AV := [.val (.int .i64 x.Kind), .val (.string x.Name), .list 0 1 (x.Subs.map cStr), .val (.string x.Value), .val (.int .i64 x.N)]
def GEvent.wf (x : GEvent) : Prop := wfInt x.Kind ∧ wfStr x.Name ∧ (wfList wfStr) x.Subs ∧ wfStr x.Value ∧ wfInt x.N ∧ True
def GEvent.sz (x : GEvent) : Nat := ByteArray.size x.Name + (szList ByteArray.size) x.Subs + ByteArray.size x.Value
theorem GEvent.sz_Name {x : GEvent} {b : Nat} (h : GEvent.sz x ≤ b) : ByteArray.size x.Name ≤ b := by unfold GEvent.sz at h; omega
theorem GEvent.sz_Subs {x : GEvent} {b : Nat} (h : GEvent.sz x ≤ b) : (szList ByteArray.size) x.Subs ≤ b := by unfold GEvent.sz at h; omega
theorem GEvent.sz_Value {x : GEvent} {b : Nat} (h : GEvent.sz x ≤ b) : ByteArray.size x.Value ≤ b := by unfold GEvent.sz at h; omega

structure GTrans where
  Depth : Int
  Restarts : Int
  Events : List GEvent

def GTrans.cells (x : GTrans) : List AV := [.val (.int .i64 x.Depth), .val (.int .i64 x.Restarts), .list 0 5 (x.Events.map GEvent.cells)]
def GTrans.wf (x : GTrans) : Prop := wfInt x.Depth ∧ wfInt x.Restarts ∧ (wfList GEvent.wf) x.Events ∧ True
def GTrans.sz (x : GTrans) : Nat := (szList GEvent.sz) x.Events
theorem GTrans.sz_Events {x : GTrans} {b : Nat} (h : GTrans.sz x ≤ b) : (szList GEvent.sz) x.Events ≤ b := by unfold GTrans.sz at h; omega

structure GDoing where
  Job : Int
  Event : GEvent

def GDoing.cells (x : GDoing) : List AV := [.val (.int .i64 x.Job), .val (.int .i64 x.Event.Kind), .val (.string x.Event.Name), .list 0 1 (x.Event.Subs.map cStr), .val (.string x.Event.Value), .val (.int .i64 x.Event.N)]
def GDoing.wf (x : GDoing) : Prop := wfInt x.Job ∧ GEvent.wf x.Event ∧ True
def GDoing.sz (x : GDoing) : Nat := GEvent.sz x.Event
theorem GDoing.sz_Event {x : GDoing} {b : Nat} (h : GDoing.sz x ≤ b) : GEvent.sz x.Event ≤ b := by unfold GDoing.sz at h; omega

structure GChange where
  Kind : Int
  Name : ByteArray
  Subs : List ByteArray
  Value : ByteArray

def GChange.cells (x : GChange) : List AV := [.val (.int .i64 x.Kind), .val (.string x.Name), .list 0 1 (x.Subs.map cStr), .val (.string x.Value)]
def GChange.wf (x : GChange) : Prop := wfInt x.Kind ∧ wfStr x.Name ∧ (wfList wfStr) x.Subs ∧ wfStr x.Value ∧ True
def GChange.sz (x : GChange) : Nat := ByteArray.size x.Name + (szList ByteArray.size) x.Subs + ByteArray.size x.Value
theorem GChange.sz_Name {x : GChange} {b : Nat} (h : GChange.sz x ≤ b) : ByteArray.size x.Name ≤ b := by unfold GChange.sz at h; omega
theorem GChange.sz_Subs {x : GChange} {b : Nat} (h : GChange.sz x ≤ b) : (szList ByteArray.size) x.Subs ≤ b := by unfold GChange.sz at h; omega
theorem GChange.sz_Value {x : GChange} {b : Nat} (h : GChange.sz x ≤ b) : ByteArray.size x.Value ≤ b := by unfold GChange.sz at h; omega

theorem rd_2 (W : World) : Rd Tryz.prog W 2 cInt wfInt := rd_int (by kernel_rfl)
theorem rd_9 (W : World) : Rd Tryz.prog W 9 cStr wfStr := rd_string (by kernel_rfl)
theorem info_9 : ∃ i, Tryz.prog.info? 9 = some i ∧ i.size = 1 := info_of (by kernel_rfl)
theorem rd_22 (W : World) : Rd Tryz.prog W 22 (fun xs : List ByteArray => cList 1 cStr xs) (wfList wfStr) := by
  obtain ⟨i, h1, h2⟩ := info_9
  exact rd_slice (by kernel_rfl) h1 h2 (by decide) (fun _ => rfl) (rd_9 W)
theorem fld_24_0 : fieldOf Tryz.prog 24 0 = some (0, 2, 1) := by kernel_rfl
theorem fld_24_1 : fieldOf Tryz.prog 24 1 = some (1, 9, 1) := by kernel_rfl
theorem fld_24_2 : fieldOf Tryz.prog 24 2 = some (2, 22, 1) := by kernel_rfl
theorem fld_24_3 : fieldOf Tryz.prog 24 3 = some (3, 9, 1) := by kernel_rfl
theorem fld_24_4 : fieldOf Tryz.prog 24 4 = some (4, 2, 1) := by kernel_rfl
theorem rd_24 (W : World) : Rd Tryz.prog W 24 GEvent.cells GEvent.wf := by
  intro H enc fuel cs d ps hr
  obtain ⟨fs, _, hfs, _⟩ := fieldOf_spec fld_24_0
  have hcl : Tryz.prog.cellsOf 24 = 5 := by kernel_rfl
  obtain ⟨xs, n, _, _, hlen, hxl, hall⟩ := DataW.trod_struct hfs hr
  rw [hcl] at hlen
  obtain ⟨fs0, f0, u0, v0, o0, y0, z0⟩ := fieldOf_spec fld_24_0
  rw [hfs] at u0; simp only [Option.some.injEq, TypeDesc.struct.injEq] at u0; subst u0
  obtain ⟨x0, w0, r0⟩ := rd_field (sz := 1) hall hxl v0 o0 (by rw [y0]; exact z0) (by rw [y0]; exact rd_2 W)
  obtain ⟨fs1, f1, u1, v1, o1, y1, z1⟩ := fieldOf_spec fld_24_1
  rw [hfs] at u1; simp only [Option.some.injEq, TypeDesc.struct.injEq] at u1; subst u1
  obtain ⟨x1, w1, r1⟩ := rd_field (sz := 1) hall hxl v1 o1 (by rw [y1]; exact z1) (by rw [y1]; exact rd_9 W)
  obtain ⟨fs2, f2, u2, v2, o2, y2, z2⟩ := fieldOf_spec fld_24_2
  rw [hfs] at u2; simp only [Option.some.injEq, TypeDesc.struct.injEq] at u2; subst u2
  obtain ⟨x2, w2, r2⟩ := rd_field (sz := 1) hall hxl v2 o2 (by rw [y2]; exact z2) (by rw [y2]; exact rd_22 W)
  obtain ⟨fs3, f3, u3, v3, o3, y3, z3⟩ := fieldOf_spec fld_24_3
  rw [hfs] at u3; simp only [Option.some.injEq, TypeDesc.struct.injEq] at u3; subst u3
  obtain ⟨x3, w3, r3⟩ := rd_field (sz := 1) hall hxl v3 o3 (by rw [y3]; exact z3) (by rw [y3]; exact rd_9 W)
  obtain ⟨fs4, f4, u4, v4, o4, y4, z4⟩ := fieldOf_spec fld_24_4
  rw [hfs] at u4; simp only [Option.some.injEq, TypeDesc.struct.injEq] at u4; subst u4
  obtain ⟨x4, w4, r4⟩ := rd_field (sz := 1) hall hxl v4 o4 (by rw [y4]; exact z4) (by rw [y4]; exact rd_2 W)
  refine ⟨⟨x0, x1, x2, x3, x4⟩, ⟨w0, w1, w2, w3, w4, trivial⟩, ?_⟩
  have s5 : RepL (Sit.all W) [] (cs.drop 5) := RepL_nil _ (List.drop_eq_nil_of_le (by omega))
  have s4 : RepL (Sit.all W) (cInt x4 ++ ([])) (cs.drop 4) := RepL_split (o := 4) r4 s5
  have s3 : RepL (Sit.all W) (cStr x3 ++ (cInt x4 ++ ([]))) (cs.drop 3) := RepL_split (o := 3) r3 s4
  have s2 : RepL (Sit.all W) ((cList 1 cStr) x2 ++ (cStr x3 ++ (cInt x4 ++ ([])))) (cs.drop 2) := RepL_split (o := 2) r2 s3
  have s1 : RepL (Sit.all W) (cStr x1 ++ ((cList 1 cStr) x2 ++ (cStr x3 ++ (cInt x4 ++ ([]))))) (cs.drop 1) := RepL_split (o := 1) r1 s2
  have s0 : RepL (Sit.all W) (cInt x0 ++ (cStr x1 ++ ((cList 1 cStr) x2 ++ (cStr x3 ++ (cInt x4 ++ ([])))))) (cs.drop 0) := RepL_split (o := 0) r0 s1
  rw [List.drop_zero] at s0
  exact s0
theorem info_24 : ∃ i, Tryz.prog.info? 24 = some i ∧ i.size = 5 := info_of (by kernel_rfl)
theorem rd_37 (W : World) : Rd Tryz.prog W 37 (fun xs : List GEvent => cList 5 GEvent.cells xs) (wfList GEvent.wf) := by
  obtain ⟨i, h1, h2⟩ := info_24
  exact rd_slice (by kernel_rfl) h1 h2 (by decide) (fun _ => rfl) (rd_24 W)
theorem fld_39_0 : fieldOf Tryz.prog 39 0 = some (0, 2, 1) := by kernel_rfl
theorem fld_39_1 : fieldOf Tryz.prog 39 1 = some (1, 2, 1) := by kernel_rfl
theorem fld_39_2 : fieldOf Tryz.prog 39 2 = some (2, 37, 1) := by kernel_rfl
theorem rd_39 (W : World) : Rd Tryz.prog W 39 GTrans.cells GTrans.wf := by
  intro H enc fuel cs d ps hr
  obtain ⟨fs, _, hfs, _⟩ := fieldOf_spec fld_39_0
  have hcl : Tryz.prog.cellsOf 39 = 3 := by kernel_rfl
  obtain ⟨xs, n, _, _, hlen, hxl, hall⟩ := DataW.trod_struct hfs hr
  rw [hcl] at hlen
  obtain ⟨fs0, f0, u0, v0, o0, y0, z0⟩ := fieldOf_spec fld_39_0
  rw [hfs] at u0; simp only [Option.some.injEq, TypeDesc.struct.injEq] at u0; subst u0
  obtain ⟨x0, w0, r0⟩ := rd_field (sz := 1) hall hxl v0 o0 (by rw [y0]; exact z0) (by rw [y0]; exact rd_2 W)
  obtain ⟨fs1, f1, u1, v1, o1, y1, z1⟩ := fieldOf_spec fld_39_1
  rw [hfs] at u1; simp only [Option.some.injEq, TypeDesc.struct.injEq] at u1; subst u1
  obtain ⟨x1, w1, r1⟩ := rd_field (sz := 1) hall hxl v1 o1 (by rw [y1]; exact z1) (by rw [y1]; exact rd_2 W)
  obtain ⟨fs2, f2, u2, v2, o2, y2, z2⟩ := fieldOf_spec fld_39_2
  rw [hfs] at u2; simp only [Option.some.injEq, TypeDesc.struct.injEq] at u2; subst u2
  obtain ⟨x2, w2, r2⟩ := rd_field (sz := 1) hall hxl v2 o2 (by rw [y2]; exact z2) (by rw [y2]; exact rd_37 W)
  refine ⟨⟨x0, x1, x2⟩, ⟨w0, w1, w2, trivial⟩, ?_⟩
  have s3 : RepL (Sit.all W) [] (cs.drop 3) := RepL_nil _ (List.drop_eq_nil_of_le (by omega))
  have s2 : RepL (Sit.all W) ((cList 5 GEvent.cells) x2 ++ ([])) (cs.drop 2) := RepL_split (o := 2) r2 s3
  have s1 : RepL (Sit.all W) (cInt x1 ++ ((cList 5 GEvent.cells) x2 ++ ([]))) (cs.drop 1) := RepL_split (o := 1) r1 s2
  have s0 : RepL (Sit.all W) (cInt x0 ++ (cInt x1 ++ ((cList 5 GEvent.cells) x2 ++ ([])))) (cs.drop 0) := RepL_split (o := 0) r0 s1
  rw [List.drop_zero] at s0
  exact s0
theorem fld_86_0 : fieldOf Tryz.prog 86 0 = some (0, 2, 1) := by kernel_rfl
theorem fld_86_1 : fieldOf Tryz.prog 86 1 = some (1, 24, 5) := by kernel_rfl
theorem rd_86 (W : World) : Rd Tryz.prog W 86 GDoing.cells GDoing.wf := by
  intro H enc fuel cs d ps hr
  obtain ⟨fs, _, hfs, _⟩ := fieldOf_spec fld_86_0
  have hcl : Tryz.prog.cellsOf 86 = 6 := by kernel_rfl
  obtain ⟨xs, n, _, _, hlen, hxl, hall⟩ := DataW.trod_struct hfs hr
  rw [hcl] at hlen
  obtain ⟨fs0, f0, u0, v0, o0, y0, z0⟩ := fieldOf_spec fld_86_0
  rw [hfs] at u0; simp only [Option.some.injEq, TypeDesc.struct.injEq] at u0; subst u0
  obtain ⟨x0, w0, r0⟩ := rd_field (sz := 1) hall hxl v0 o0 (by rw [y0]; exact z0) (by rw [y0]; exact rd_2 W)
  obtain ⟨fs1, f1, u1, v1, o1, y1, z1⟩ := fieldOf_spec fld_86_1
  rw [hfs] at u1; simp only [Option.some.injEq, TypeDesc.struct.injEq] at u1; subst u1
  obtain ⟨x1, w1, r1⟩ := rd_field (sz := 5) hall hxl v1 o1 (by rw [y1]; exact z1) (by rw [y1]; exact rd_24 W)
  refine ⟨⟨x0, x1⟩, ⟨w0, w1, trivial⟩, ?_⟩
  have s2 : RepL (Sit.all W) [] (cs.drop 6) := RepL_nil _ (List.drop_eq_nil_of_le (by omega))
  have s1 : RepL (Sit.all W) (GEvent.cells x1 ++ ([])) (cs.drop 1) := RepL_split (o := 1) r1 s2
  have s0 : RepL (Sit.all W) (cInt x0 ++ (GEvent.cells x1 ++ ([]))) (cs.drop 0) := RepL_split (o := 0) r0 s1
  rw [List.drop_zero] at s0
  exact s0
theorem fld_27_0 : fieldOf Tryz.prog 27 0 = some (0, 2, 1) := by kernel_rfl
theorem fld_27_1 : fieldOf Tryz.prog 27 1 = some (1, 9, 1) := by kernel_rfl
theorem fld_27_2 : fieldOf Tryz.prog 27 2 = some (2, 22, 1) := by kernel_rfl
theorem fld_27_3 : fieldOf Tryz.prog 27 3 = some (3, 9, 1) := by kernel_rfl
theorem rd_27 (W : World) : Rd Tryz.prog W 27 GChange.cells GChange.wf := by
  intro H enc fuel cs d ps hr
  obtain ⟨fs, _, hfs, _⟩ := fieldOf_spec fld_27_0
  have hcl : Tryz.prog.cellsOf 27 = 4 := by kernel_rfl
  obtain ⟨xs, n, _, _, hlen, hxl, hall⟩ := DataW.trod_struct hfs hr
  rw [hcl] at hlen
  obtain ⟨fs0, f0, u0, v0, o0, y0, z0⟩ := fieldOf_spec fld_27_0
  rw [hfs] at u0; simp only [Option.some.injEq, TypeDesc.struct.injEq] at u0; subst u0
  obtain ⟨x0, w0, r0⟩ := rd_field (sz := 1) hall hxl v0 o0 (by rw [y0]; exact z0) (by rw [y0]; exact rd_2 W)
  obtain ⟨fs1, f1, u1, v1, o1, y1, z1⟩ := fieldOf_spec fld_27_1
  rw [hfs] at u1; simp only [Option.some.injEq, TypeDesc.struct.injEq] at u1; subst u1
  obtain ⟨x1, w1, r1⟩ := rd_field (sz := 1) hall hxl v1 o1 (by rw [y1]; exact z1) (by rw [y1]; exact rd_9 W)
  obtain ⟨fs2, f2, u2, v2, o2, y2, z2⟩ := fieldOf_spec fld_27_2
  rw [hfs] at u2; simp only [Option.some.injEq, TypeDesc.struct.injEq] at u2; subst u2
  obtain ⟨x2, w2, r2⟩ := rd_field (sz := 1) hall hxl v2 o2 (by rw [y2]; exact z2) (by rw [y2]; exact rd_22 W)
  obtain ⟨fs3, f3, u3, v3, o3, y3, z3⟩ := fieldOf_spec fld_27_3
  rw [hfs] at u3; simp only [Option.some.injEq, TypeDesc.struct.injEq] at u3; subst u3
  obtain ⟨x3, w3, r3⟩ := rd_field (sz := 1) hall hxl v3 o3 (by rw [y3]; exact z3) (by rw [y3]; exact rd_9 W)
  refine ⟨⟨x0, x1, x2, x3⟩, ⟨w0, w1, w2, w3, trivial⟩, ?_⟩
  have s4 : RepL (Sit.all W) [] (cs.drop 4) := RepL_nil _ (List.drop_eq_nil_of_le (by omega))
  have s3 : RepL (Sit.all W) (cStr x3 ++ ([])) (cs.drop 3) := RepL_split (o := 3) r3 s4
  have s2 : RepL (Sit.all W) ((cList 1 cStr) x2 ++ (cStr x3 ++ ([]))) (cs.drop 2) := RepL_split (o := 2) r2 s3
  have s1 : RepL (Sit.all W) (cStr x1 ++ ((cList 1 cStr) x2 ++ (cStr x3 ++ ([])))) (cs.drop 1) := RepL_split (o := 1) r1 s2
  have s0 : RepL (Sit.all W) (cInt x0 ++ (cStr x1 ++ ((cList 1 cStr) x2 ++ (cStr x3 ++ ([]))))) (cs.drop 0) := RepL_split (o := 0) r0 s1
  rw [List.drop_zero] at s0
  exact s0
theorem info_86 : ∃ i, Tryz.prog.info? 86 = some i ∧ i.size = 6 := info_of (by kernel_rfl)
theorem rd_60 (W : World) : Rd Tryz.prog W 60 (fun xs : List GDoing => cList 6 GDoing.cells xs) (wfList GDoing.wf) := by
  obtain ⟨i, h1, h2⟩ := info_86
  exact rd_slice (by kernel_rfl) h1 h2 (by decide) (fun _ => rfl) (rd_86 W)
theorem info_2 : ∃ i, Tryz.prog.info? 2 = some i ∧ i.size = 1 := info_of (by kernel_rfl)
theorem rd_61 (W : World) : Rd Tryz.prog W 61 (fun xs : List Int => cList 1 cInt xs) (wfList wfInt) := by
  obtain ⟨i, h1, h2⟩ := info_2
  exact rd_slice (by kernel_rfl) h1 h2 (by decide) (fun _ => rfl) (rd_2 W)
end Go.Proofs.YtleolgjneaekcabGreatDoor
