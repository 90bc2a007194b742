/-
  The data types of the laws arguments, and that the arguments of a row, read as data, are such data. No conditions.
-/
import Derived.Test.YtikjdgcllflnmaaGreatDoorProg
import Derived.Test.YtikjdgcllflnmaaGreatDoorAwB
import Derived.KernelRfl
namespace Go.Proofs.YtikjdgcllflnmaaGreatDoor
open Go.AW
set_option linter.unusedVariables false

structure GLock where
  Job : Int
  Count : Int
  Name : ByteArray
  Subs : List ByteArray

def GLock.cells (x : GLock) : List AV := [.val (.int .i64 x.Job), .val (.int .i64 x.Count), .val (.string x.Name), .list 0 1 (x.Subs.map cStr)]
def GLock.wf (x : GLock) : Prop := wfInt x.Job ∧ wfInt x.Count ∧ wfStr x.Name ∧ (wfList wfStr) x.Subs ∧ True
def GLock.sz (x : GLock) : Nat := ByteArray.size x.Name + (szList ByteArray.size) x.Subs
theorem GLock.sz_Name {x : GLock} {b : Nat} (h : GLock.sz x ≤ b) : ByteArray.size x.Name ≤ b := by unfold GLock.sz at h; omega
theorem GLock.sz_Subs {x : GLock} {b : Nat} (h : GLock.sz x ≤ b) : (szList ByteArray.size) x.Subs ≤ b := by unfold GLock.sz at h; omega

structure GAsk where
  Job : Int
  Until : Int
  Name : ByteArray
  Subs : List ByteArray

def GAsk.cells (x : GAsk) : List AV := [.val (.int .i64 x.Job), .val (.int .i64 x.Until), .val (.string x.Name), .list 0 1 (x.Subs.map cStr)]
def GAsk.wf (x : GAsk) : Prop := wfInt x.Job ∧ wfInt x.Until ∧ wfStr x.Name ∧ (wfList wfStr) x.Subs ∧ True
def GAsk.sz (x : GAsk) : Nat := ByteArray.size x.Name + (szList ByteArray.size) x.Subs
theorem GAsk.sz_Name {x : GAsk} {b : Nat} (h : GAsk.sz x ≤ b) : ByteArray.size x.Name ≤ b := by unfold GAsk.sz at h; omega
theorem GAsk.sz_Subs {x : GAsk} {b : Nat} (h : GAsk.sz x ≤ b) : (szList ByteArray.size) x.Subs ≤ b := by unfold GAsk.sz at h; omega

structure GLocks where
  Held : List GLock
  Asks : List GAsk

def GLocks.cells (x : GLocks) : List AV := [.list 0 4 (x.Held.map GLock.cells), .list 0 4 (x.Asks.map GAsk.cells)]
def GLocks.wf (x : GLocks) : Prop := (wfList GLock.wf) x.Held ∧ (wfList GAsk.wf) x.Asks ∧ True
def GLocks.sz (x : GLocks) : Nat := (szList GLock.sz) x.Held + (szList GAsk.sz) x.Asks
theorem GLocks.sz_Held {x : GLocks} {b : Nat} (h : GLocks.sz x ≤ b) : (szList GLock.sz) x.Held ≤ b := by unfold GLocks.sz at h; omega
theorem GLocks.sz_Asks {x : GLocks} {b : Nat} (h : GLocks.sz x ≤ b) : (szList GAsk.sz) x.Asks ≤ b := by unfold GLocks.sz at h; omega

structure GEvent where
  Kind : Int
  Name : ByteArray
  Subs : List ByteArray
  Value : ByteArray
  N : Int

def GEvent.cells (x : GEvent) : List AV := [.val (.int .i64 x.Kind), .val (.string x.Name), .list 0 1 (x.Subs.map cStr), .val (.string x.Value), .val (.int .i64 x.N)]
def GEvent.wf (x : GEvent) : Prop := wfInt x.Kind ∧ wfStr x.Name ∧ (wfList wfStr) x.Subs ∧ wfStr x.Value ∧ wfInt x.N ∧ True
def GEvent.sz (x : GEvent) : Nat := ByteArray.size x.Name + (szList ByteArray.size) x.Subs + ByteArray.size x.Value
theorem GEvent.sz_Name {x : GEvent} {b : Nat} (h : GEvent.sz x ≤ b) : ByteArray.size x.Name ≤ b := by unfold GEvent.sz at h; omega
theorem GEvent.sz_Subs {x : GEvent} {b : Nat} (h : GEvent.sz x ≤ b) : (szList ByteArray.size) x.Subs ≤ b := by unfold GEvent.sz at h; omega
theorem GEvent.sz_Value {x : GEvent} {b : Nat} (h : GEvent.sz x ≤ b) : ByteArray.size x.Value ≤ b := by unfold GEvent.sz at h; omega

structure GBatch where
  Job : Int
  Events : List GEvent

def GBatch.cells (x : GBatch) : List AV := [.val (.int .i64 x.Job), .list 0 5 (x.Events.map GEvent.cells)]
def GBatch.wf (x : GBatch) : Prop := wfInt x.Job ∧ (wfList GEvent.wf) x.Events ∧ True
def GBatch.sz (x : GBatch) : Nat := (szList GEvent.sz) x.Events
theorem GBatch.sz_Events {x : GBatch} {b : Nat} (h : GBatch.sz x ≤ b) : (szList GEvent.sz) x.Events ≤ b := by unfold GBatch.sz at h; omega

structure GTrans where
  Depth : Int
  Restarts : Int
  Events : List GEvent

def GTrans.cells (x : GTrans) : List AV := [.val (.int .i64 x.Depth), .val (.int .i64 x.Restarts), .list 0 5 (x.Events.map GEvent.cells)]
def GTrans.wf (x : GTrans) : Prop := wfInt x.Depth ∧ wfInt x.Restarts ∧ (wfList GEvent.wf) x.Events ∧ True
def GTrans.sz (x : GTrans) : Nat := (szList GEvent.sz) x.Events
theorem GTrans.sz_Events {x : GTrans} {b : Nat} (h : GTrans.sz x ≤ b) : (szList GEvent.sz) x.Events ≤ b := by unfold GTrans.sz at h; omega

structure GDoing where
  Job : Int
  Event : GEvent

def GDoing.cells (x : GDoing) : List AV := [.val (.int .i64 x.Job), .val (.int .i64 x.Event.Kind), .val (.string x.Event.Name), .list 0 1 (x.Event.Subs.map cStr), .val (.string x.Event.Value), .val (.int .i64 x.Event.N)]
def GDoing.wf (x : GDoing) : Prop := wfInt x.Job ∧ GEvent.wf x.Event ∧ True
def GDoing.sz (x : GDoing) : Nat := GEvent.sz x.Event
theorem GDoing.sz_Event {x : GDoing} {b : Nat} (h : GDoing.sz x ≤ b) : GEvent.sz x.Event ≤ b := by unfold GDoing.sz at h; omega

theorem rd_2 (W : World) : Rd Tryz.prog W 2 cInt wfInt := rd_int (by kernel_rfl)
theorem rd_9 (W : World) : Rd Tryz.prog W 9 cStr wfStr := rd_string (by kernel_rfl)
theorem info_9 : ∃ i, Tryz.prog.info? 9 = some i ∧ i.size = 1 := info_of (by kernel_rfl)
theorem rd_35 (W : World) : Rd Tryz.prog W 35 (fun xs : List ByteArray => cList 1 cStr xs) (wfList wfStr) := by
  obtain ⟨i, h1, h2⟩ := info_9
  exact rd_slice (by kernel_rfl) h1 h2 (by decide) (fun _ => rfl) (rd_9 W)
theorem fld_121_0 : fieldOf Tryz.prog 121 0 = some (0, 2, 1) := by kernel_rfl
theorem fld_121_1 : fieldOf Tryz.prog 121 1 = some (1, 2, 1) := by kernel_rfl
theorem fld_121_2 : fieldOf Tryz.prog 121 2 = some (2, 9, 1) := by kernel_rfl
theorem fld_121_3 : fieldOf Tryz.prog 121 3 = some (3, 35, 1) := by kernel_rfl
theorem rd_121 (W : World) : Rd Tryz.prog W 121 GLock.cells GLock.wf := by
  intro H enc fuel cs d ps hr
  obtain ⟨fs, _, hfs, _⟩ := fieldOf_spec fld_121_0
  have hcl : Tryz.prog.cellsOf 121 = 4 := by kernel_rfl
  obtain ⟨xs, n, _, _, hlen, hxl, hall⟩ := DataW.trod_struct hfs hr
  rw [hcl] at hlen
  obtain ⟨fs0, f0, u0, v0, o0, y0, z0⟩ := fieldOf_spec fld_121_0
  rw [hfs] at u0; simp only [Option.some.injEq, TypeDesc.struct.injEq] at u0; subst u0
  obtain ⟨x0, w0, r0⟩ := rd_field (sz := 1) hall hxl v0 o0 (by rw [y0]; exact z0) (by rw [y0]; exact rd_2 W)
  obtain ⟨fs1, f1, u1, v1, o1, y1, z1⟩ := fieldOf_spec fld_121_1
  rw [hfs] at u1; simp only [Option.some.injEq, TypeDesc.struct.injEq] at u1; subst u1
  obtain ⟨x1, w1, r1⟩ := rd_field (sz := 1) hall hxl v1 o1 (by rw [y1]; exact z1) (by rw [y1]; exact rd_2 W)
  obtain ⟨fs2, f2, u2, v2, o2, y2, z2⟩ := fieldOf_spec fld_121_2
  rw [hfs] at u2; simp only [Option.some.injEq, TypeDesc.struct.injEq] at u2; subst u2
  obtain ⟨x2, w2, r2⟩ := rd_field (sz := 1) hall hxl v2 o2 (by rw [y2]; exact z2) (by rw [y2]; exact rd_9 W)
  obtain ⟨fs3, f3, u3, v3, o3, y3, z3⟩ := fieldOf_spec fld_121_3
  rw [hfs] at u3; simp only [Option.some.injEq, TypeDesc.struct.injEq] at u3; subst u3
  obtain ⟨x3, w3, r3⟩ := rd_field (sz := 1) hall hxl v3 o3 (by rw [y3]; exact z3) (by rw [y3]; exact rd_35 W)
  refine ⟨⟨x0, x1, x2, x3⟩, ⟨w0, w1, w2, w3, trivial⟩, ?_⟩
  have s4 : RepL (Sit.all W) [] (cs.drop 4) := RepL_nil _ (List.drop_eq_nil_of_le (by omega))
  have s3 : RepL (Sit.all W) ((cList 1 cStr) x3 ++ ([])) (cs.drop 3) := RepL_split (o := 3) r3 s4
  have s2 : RepL (Sit.all W) (cStr x2 ++ ((cList 1 cStr) x3 ++ ([]))) (cs.drop 2) := RepL_split (o := 2) r2 s3
  have s1 : RepL (Sit.all W) (cInt x1 ++ (cStr x2 ++ ((cList 1 cStr) x3 ++ ([])))) (cs.drop 1) := RepL_split (o := 1) r1 s2
  have s0 : RepL (Sit.all W) (cInt x0 ++ (cInt x1 ++ (cStr x2 ++ ((cList 1 cStr) x3 ++ ([]))))) (cs.drop 0) := RepL_split (o := 0) r0 s1
  rw [List.drop_zero] at s0
  exact s0
theorem fld_123_0 : fieldOf Tryz.prog 123 0 = some (0, 2, 1) := by kernel_rfl
theorem fld_123_1 : fieldOf Tryz.prog 123 1 = some (1, 2, 1) := by kernel_rfl
theorem fld_123_2 : fieldOf Tryz.prog 123 2 = some (2, 9, 1) := by kernel_rfl
theorem fld_123_3 : fieldOf Tryz.prog 123 3 = some (3, 35, 1) := by kernel_rfl
theorem rd_123 (W : World) : Rd Tryz.prog W 123 GAsk.cells GAsk.wf := by
  intro H enc fuel cs d ps hr
  obtain ⟨fs, _, hfs, _⟩ := fieldOf_spec fld_123_0
  have hcl : Tryz.prog.cellsOf 123 = 4 := by kernel_rfl
  obtain ⟨xs, n, _, _, hlen, hxl, hall⟩ := DataW.trod_struct hfs hr
  rw [hcl] at hlen
  obtain ⟨fs0, f0, u0, v0, o0, y0, z0⟩ := fieldOf_spec fld_123_0
  rw [hfs] at u0; simp only [Option.some.injEq, TypeDesc.struct.injEq] at u0; subst u0
  obtain ⟨x0, w0, r0⟩ := rd_field (sz := 1) hall hxl v0 o0 (by rw [y0]; exact z0) (by rw [y0]; exact rd_2 W)
  obtain ⟨fs1, f1, u1, v1, o1, y1, z1⟩ := fieldOf_spec fld_123_1
  rw [hfs] at u1; simp only [Option.some.injEq, TypeDesc.struct.injEq] at u1; subst u1
  obtain ⟨x1, w1, r1⟩ := rd_field (sz := 1) hall hxl v1 o1 (by rw [y1]; exact z1) (by rw [y1]; exact rd_2 W)
  obtain ⟨fs2, f2, u2, v2, o2, y2, z2⟩ := fieldOf_spec fld_123_2
  rw [hfs] at u2; simp only [Option.some.injEq, TypeDesc.struct.injEq] at u2; subst u2
  obtain ⟨x2, w2, r2⟩ := rd_field (sz := 1) hall hxl v2 o2 (by rw [y2]; exact z2) (by rw [y2]; exact rd_9 W)
  obtain ⟨fs3, f3, u3, v3, o3, y3, z3⟩ := fieldOf_spec fld_123_3
  rw [hfs] at u3; simp only [Option.some.injEq, TypeDesc.struct.injEq] at u3; subst u3
  obtain ⟨x3, w3, r3⟩ := rd_field (sz := 1) hall hxl v3 o3 (by rw [y3]; exact z3) (by rw [y3]; exact rd_35 W)
  refine ⟨⟨x0, x1, x2, x3⟩, ⟨w0, w1, w2, w3, trivial⟩, ?_⟩
  have s4 : RepL (Sit.all W) [] (cs.drop 4) := RepL_nil _ (List.drop_eq_nil_of_le (by omega))
  have s3 : RepL (Sit.all W) ((cList 1 cStr) x3 ++ ([])) (cs.drop 3) := RepL_split (o := 3) r3 s4
  have s2 : RepL (Sit.all W) (cStr x2 ++ ((cList 1 cStr) x3 ++ ([]))) (cs.drop 2) := RepL_split (o := 2) r2 s3
  have s1 : RepL (Sit.all W) (cInt x1 ++ (cStr x2 ++ ((cList 1 cStr) x3 ++ ([])))) (cs.drop 1) := RepL_split (o := 1) r1 s2
  have s0 : RepL (Sit.all W) (cInt x0 ++ (cInt x1 ++ (cStr x2 ++ ((cList 1 cStr) x3 ++ ([]))))) (cs.drop 0) := RepL_split (o := 0) r0 s1
  rw [List.drop_zero] at s0
  exact s0
theorem info_121 : ∃ i, Tryz.prog.info? 121 = some i ∧ i.size = 4 := info_of (by kernel_rfl)
theorem rd_22 (W : World) : Rd Tryz.prog W 22 (fun xs : List GLock => cList 4 GLock.cells xs) (wfList GLock.wf) := by
  obtain ⟨i, h1, h2⟩ := info_121
  exact rd_slice (by kernel_rfl) h1 h2 (by decide) (fun _ => rfl) (rd_121 W)
theorem info_123 : ∃ i, Tryz.prog.info? 123 = some i ∧ i.size = 4 := info_of (by kernel_rfl)
theorem rd_23 (W : World) : Rd Tryz.prog W 23 (fun xs : List GAsk => cList 4 GAsk.cells xs) (wfList GAsk.wf) := by
  obtain ⟨i, h1, h2⟩ := info_123
  exact rd_slice (by kernel_rfl) h1 h2 (by decide) (fun _ => rfl) (rd_123 W)
theorem fld_25_0 : fieldOf Tryz.prog 25 0 = some (0, 22, 1) := by kernel_rfl
theorem fld_25_1 : fieldOf Tryz.prog 25 1 = some (1, 23, 1) := by kernel_rfl
theorem rd_25 (W : World) : Rd Tryz.prog W 25 GLocks.cells GLocks.wf := by
  intro H enc fuel cs d ps hr
  obtain ⟨fs, _, hfs, _⟩ := fieldOf_spec fld_25_0
  have hcl : Tryz.prog.cellsOf 25 = 2 := by kernel_rfl
  obtain ⟨xs, n, _, _, hlen, hxl, hall⟩ := DataW.trod_struct hfs hr
  rw [hcl] at hlen
  obtain ⟨fs0, f0, u0, v0, o0, y0, z0⟩ := fieldOf_spec fld_25_0
  rw [hfs] at u0; simp only [Option.some.injEq, TypeDesc.struct.injEq] at u0; subst u0
  obtain ⟨x0, w0, r0⟩ := rd_field (sz := 1) hall hxl v0 o0 (by rw [y0]; exact z0) (by rw [y0]; exact rd_22 W)
  obtain ⟨fs1, f1, u1, v1, o1, y1, z1⟩ := fieldOf_spec fld_25_1
  rw [hfs] at u1; simp only [Option.some.injEq, TypeDesc.struct.injEq] at u1; subst u1
  obtain ⟨x1, w1, r1⟩ := rd_field (sz := 1) hall hxl v1 o1 (by rw [y1]; exact z1) (by rw [y1]; exact rd_23 W)
  refine ⟨⟨x0, x1⟩, ⟨w0, w1, trivial⟩, ?_⟩
  have s2 : RepL (Sit.all W) [] (cs.drop 2) := RepL_nil _ (List.drop_eq_nil_of_le (by omega))
  have s1 : RepL (Sit.all W) ((cList 4 GAsk.cells) x1 ++ ([])) (cs.drop 1) := RepL_split (o := 1) r1 s2
  have s0 : RepL (Sit.all W) ((cList 4 GLock.cells) x0 ++ ((cList 4 GAsk.cells) x1 ++ ([]))) (cs.drop 0) := RepL_split (o := 0) r0 s1
  rw [List.drop_zero] at s0
  exact s0
theorem fld_43_0 : fieldOf Tryz.prog 43 0 = some (0, 2, 1) := by kernel_rfl
theorem fld_43_1 : fieldOf Tryz.prog 43 1 = some (1, 9, 1) := by kernel_rfl
theorem fld_43_2 : fieldOf Tryz.prog 43 2 = some (2, 35, 1) := by kernel_rfl
theorem fld_43_3 : fieldOf Tryz.prog 43 3 = some (3, 9, 1) := by kernel_rfl
theorem fld_43_4 : fieldOf Tryz.prog 43 4 = some (4, 2, 1) := by kernel_rfl
theorem rd_43 (W : World) : Rd Tryz.prog W 43 GEvent.cells GEvent.wf := by
  intro H enc fuel cs d ps hr
  obtain ⟨fs, _, hfs, _⟩ := fieldOf_spec fld_43_0
  have hcl : Tryz.prog.cellsOf 43 = 5 := by kernel_rfl
  obtain ⟨xs, n, _, _, hlen, hxl, hall⟩ := DataW.trod_struct hfs hr
  rw [hcl] at hlen
  obtain ⟨fs0, f0, u0, v0, o0, y0, z0⟩ := fieldOf_spec fld_43_0
  rw [hfs] at u0; simp only [Option.some.injEq, TypeDesc.struct.injEq] at u0; subst u0
  obtain ⟨x0, w0, r0⟩ := rd_field (sz := 1) hall hxl v0 o0 (by rw [y0]; exact z0) (by rw [y0]; exact rd_2 W)
  obtain ⟨fs1, f1, u1, v1, o1, y1, z1⟩ := fieldOf_spec fld_43_1
  rw [hfs] at u1; simp only [Option.some.injEq, TypeDesc.struct.injEq] at u1; subst u1
  obtain ⟨x1, w1, r1⟩ := rd_field (sz := 1) hall hxl v1 o1 (by rw [y1]; exact z1) (by rw [y1]; exact rd_9 W)
  obtain ⟨fs2, f2, u2, v2, o2, y2, z2⟩ := fieldOf_spec fld_43_2
  rw [hfs] at u2; simp only [Option.some.injEq, TypeDesc.struct.injEq] at u2; subst u2
  obtain ⟨x2, w2, r2⟩ := rd_field (sz := 1) hall hxl v2 o2 (by rw [y2]; exact z2) (by rw [y2]; exact rd_35 W)
  obtain ⟨fs3, f3, u3, v3, o3, y3, z3⟩ := fieldOf_spec fld_43_3
  rw [hfs] at u3; simp only [Option.some.injEq, TypeDesc.struct.injEq] at u3; subst u3
  obtain ⟨x3, w3, r3⟩ := rd_field (sz := 1) hall hxl v3 o3 (by rw [y3]; exact z3) (by rw [y3]; exact rd_9 W)
  obtain ⟨fs4, f4, u4, v4, o4, y4, z4⟩ := fieldOf_spec fld_43_4
  rw [hfs] at u4; simp only [Option.some.injEq, TypeDesc.struct.injEq] at u4; subst u4
  obtain ⟨x4, w4, r4⟩ := rd_field (sz := 1) hall hxl v4 o4 (by rw [y4]; exact z4) (by rw [y4]; exact rd_2 W)
  refine ⟨⟨x0, x1, x2, x3, x4⟩, ⟨w0, w1, w2, w3, w4, trivial⟩, ?_⟩
  have s5 : RepL (Sit.all W) [] (cs.drop 5) := RepL_nil _ (List.drop_eq_nil_of_le (by omega))
  have s4 : RepL (Sit.all W) (cInt x4 ++ ([])) (cs.drop 4) := RepL_split (o := 4) r4 s5
  have s3 : RepL (Sit.all W) (cStr x3 ++ (cInt x4 ++ ([]))) (cs.drop 3) := RepL_split (o := 3) r3 s4
  have s2 : RepL (Sit.all W) ((cList 1 cStr) x2 ++ (cStr x3 ++ (cInt x4 ++ ([])))) (cs.drop 2) := RepL_split (o := 2) r2 s3
  have s1 : RepL (Sit.all W) (cStr x1 ++ ((cList 1 cStr) x2 ++ (cStr x3 ++ (cInt x4 ++ ([]))))) (cs.drop 1) := RepL_split (o := 1) r1 s2
  have s0 : RepL (Sit.all W) (cInt x0 ++ (cStr x1 ++ ((cList 1 cStr) x2 ++ (cStr x3 ++ (cInt x4 ++ ([])))))) (cs.drop 0) := RepL_split (o := 0) r0 s1
  rw [List.drop_zero] at s0
  exact s0
theorem info_43 : ∃ i, Tryz.prog.info? 43 = some i ∧ i.size = 5 := info_of (by kernel_rfl)
theorem rd_58 (W : World) : Rd Tryz.prog W 58 (fun xs : List GEvent => cList 5 GEvent.cells xs) (wfList GEvent.wf) := by
  obtain ⟨i, h1, h2⟩ := info_43
  exact rd_slice (by kernel_rfl) h1 h2 (by decide) (fun _ => rfl) (rd_43 W)
theorem fld_60_0 : fieldOf Tryz.prog 60 0 = some (0, 2, 1) := by kernel_rfl
theorem fld_60_1 : fieldOf Tryz.prog 60 1 = some (1, 58, 1) := by kernel_rfl
theorem rd_60 (W : World) : Rd Tryz.prog W 60 GBatch.cells GBatch.wf := by
  intro H enc fuel cs d ps hr
  obtain ⟨fs, _, hfs, _⟩ := fieldOf_spec fld_60_0
  have hcl : Tryz.prog.cellsOf 60 = 2 := by kernel_rfl
  obtain ⟨xs, n, _, _, hlen, hxl, hall⟩ := DataW.trod_struct hfs hr
  rw [hcl] at hlen
  obtain ⟨fs0, f0, u0, v0, o0, y0, z0⟩ := fieldOf_spec fld_60_0
  rw [hfs] at u0; simp only [Option.some.injEq, TypeDesc.struct.injEq] at u0; subst u0
  obtain ⟨x0, w0, r0⟩ := rd_field (sz := 1) hall hxl v0 o0 (by rw [y0]; exact z0) (by rw [y0]; exact rd_2 W)
  obtain ⟨fs1, f1, u1, v1, o1, y1, z1⟩ := fieldOf_spec fld_60_1
  rw [hfs] at u1; simp only [Option.some.injEq, TypeDesc.struct.injEq] at u1; subst u1
  obtain ⟨x1, w1, r1⟩ := rd_field (sz := 1) hall hxl v1 o1 (by rw [y1]; exact z1) (by rw [y1]; exact rd_58 W)
  refine ⟨⟨x0, x1⟩, ⟨w0, w1, trivial⟩, ?_⟩
  have s2 : RepL (Sit.all W) [] (cs.drop 2) := RepL_nil _ (List.drop_eq_nil_of_le (by omega))
  have s1 : RepL (Sit.all W) ((cList 5 GEvent.cells) x1 ++ ([])) (cs.drop 1) := RepL_split (o := 1) r1 s2
  have s0 : RepL (Sit.all W) (cInt x0 ++ ((cList 5 GEvent.cells) x1 ++ ([]))) (cs.drop 0) := RepL_split (o := 0) r0 s1
  rw [List.drop_zero] at s0
  exact s0
theorem fld_70_0 : fieldOf Tryz.prog 70 0 = some (0, 2, 1) := by kernel_rfl
theorem fld_70_1 : fieldOf Tryz.prog 70 1 = some (1, 2, 1) := by kernel_rfl
theorem fld_70_2 : fieldOf Tryz.prog 70 2 = some (2, 58, 1) := by kernel_rfl
theorem rd_70 (W : World) : Rd Tryz.prog W 70 GTrans.cells GTrans.wf := by
  intro H enc fuel cs d ps hr
  obtain ⟨fs, _, hfs, _⟩ := fieldOf_spec fld_70_0
  have hcl : Tryz.prog.cellsOf 70 = 3 := by kernel_rfl
  obtain ⟨xs, n, _, _, hlen, hxl, hall⟩ := DataW.trod_struct hfs hr
  rw [hcl] at hlen
  obtain ⟨fs0, f0, u0, v0, o0, y0, z0⟩ := fieldOf_spec fld_70_0
  rw [hfs] at u0; simp only [Option.some.injEq, TypeDesc.struct.injEq] at u0; subst u0
  obtain ⟨x0, w0, r0⟩ := rd_field (sz := 1) hall hxl v0 o0 (by rw [y0]; exact z0) (by rw [y0]; exact rd_2 W)
  obtain ⟨fs1, f1, u1, v1, o1, y1, z1⟩ := fieldOf_spec fld_70_1
  rw [hfs] at u1; simp only [Option.some.injEq, TypeDesc.struct.injEq] at u1; subst u1
  obtain ⟨x1, w1, r1⟩ := rd_field (sz := 1) hall hxl v1 o1 (by rw [y1]; exact z1) (by rw [y1]; exact rd_2 W)
  obtain ⟨fs2, f2, u2, v2, o2, y2, z2⟩ := fieldOf_spec fld_70_2
  rw [hfs] at u2; simp only [Option.some.injEq, TypeDesc.struct.injEq] at u2; subst u2
  obtain ⟨x2, w2, r2⟩ := rd_field (sz := 1) hall hxl v2 o2 (by rw [y2]; exact z2) (by rw [y2]; exact rd_58 W)
  refine ⟨⟨x0, x1, x2⟩, ⟨w0, w1, w2, trivial⟩, ?_⟩
  have s3 : RepL (Sit.all W) [] (cs.drop 3) := RepL_nil _ (List.drop_eq_nil_of_le (by omega))
  have s2 : RepL (Sit.all W) ((cList 5 GEvent.cells) x2 ++ ([])) (cs.drop 2) := RepL_split (o := 2) r2 s3
  have s1 : RepL (Sit.all W) (cInt x1 ++ ((cList 5 GEvent.cells) x2 ++ ([]))) (cs.drop 1) := RepL_split (o := 1) r1 s2
  have s0 : RepL (Sit.all W) (cInt x0 ++ (cInt x1 ++ ((cList 5 GEvent.cells) x2 ++ ([])))) (cs.drop 0) := RepL_split (o := 0) r0 s1
  rw [List.drop_zero] at s0
  exact s0
theorem fld_109_0 : fieldOf Tryz.prog 109 0 = some (0, 2, 1) := by kernel_rfl
theorem fld_109_1 : fieldOf Tryz.prog 109 1 = some (1, 43, 5) := by kernel_rfl
theorem rd_109 (W : World) : Rd Tryz.prog W 109 GDoing.cells GDoing.wf := by
  intro H enc fuel cs d ps hr
  obtain ⟨fs, _, hfs, _⟩ := fieldOf_spec fld_109_0
  have hcl : Tryz.prog.cellsOf 109 = 6 := by kernel_rfl
  obtain ⟨xs, n, _, _, hlen, hxl, hall⟩ := DataW.trod_struct hfs hr
  rw [hcl] at hlen
  obtain ⟨fs0, f0, u0, v0, o0, y0, z0⟩ := fieldOf_spec fld_109_0
  rw [hfs] at u0; simp only [Option.some.injEq, TypeDesc.struct.injEq] at u0; subst u0
  obtain ⟨x0, w0, r0⟩ := rd_field (sz := 1) hall hxl v0 o0 (by rw [y0]; exact z0) (by rw [y0]; exact rd_2 W)
  obtain ⟨fs1, f1, u1, v1, o1, y1, z1⟩ := fieldOf_spec fld_109_1
  rw [hfs] at u1; simp only [Option.some.injEq, TypeDesc.struct.injEq] at u1; subst u1
  obtain ⟨x1, w1, r1⟩ := rd_field (sz := 5) hall hxl v1 o1 (by rw [y1]; exact z1) (by rw [y1]; exact rd_43 W)
  refine ⟨⟨x0, x1⟩, ⟨w0, w1, trivial⟩, ?_⟩
  have s2 : RepL (Sit.all W) [] (cs.drop 6) := RepL_nil _ (List.drop_eq_nil_of_le (by omega))
  have s1 : RepL (Sit.all W) (GEvent.cells x1 ++ ([])) (cs.drop 1) := RepL_split (o := 1) r1 s2
  have s0 : RepL (Sit.all W) (cInt x0 ++ (GEvent.cells x1 ++ ([]))) (cs.drop 0) := RepL_split (o := 0) r0 s1
  rw [List.drop_zero] at s0
  exact s0
theorem info_109 : ∃ i, Tryz.prog.info? 109 = some i ∧ i.size = 6 := info_of (by kernel_rfl)
theorem rd_51 (W : World) : Rd Tryz.prog W 51 (fun xs : List GDoing => cList 6 GDoing.cells xs) (wfList GDoing.wf) := by
  obtain ⟨i, h1, h2⟩ := info_109
  exact rd_slice (by kernel_rfl) h1 h2 (by decide) (fun _ => rfl) (rd_109 W)
end Go.Proofs.YtikjdgcllflnmaaGreatDoor
