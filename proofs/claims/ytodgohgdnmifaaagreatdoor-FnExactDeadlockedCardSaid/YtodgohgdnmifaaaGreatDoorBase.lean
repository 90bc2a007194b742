/-
 The data types of the laws arguments, and that the arguments of a row, read as data, are such data. No conditions.
-/
import Derived.Test.YtodgohgdnmifaaaGreatDoorProg
import Derived.Test.YtodgohgdnmifaaaGreatDoorAwB
import Derived.KernelRfl
namespace Go.Proofs.YtodgohgdnmifaaaGreatDoor
open Tryz (prog)
open List
open Go.AW
set_option linter.unusedVariables false
structure ab_ where
 Job : Int
 Count : Int
 Name : ByteArray
 Subs : List ByteArray
def ab_.cells (x : ab_) : List AV := [.val (.int .i64 x.Job), .val (.int .i64 x.Count), .val (.string x.Name), .list 0 1 (x.Subs.map az_)]
def ab_.wf (x : ab_) : Prop := hE_ x.Job ∧ hE_ x.Count ∧ em_ x.Name ∧ (dQ_ em_) x.Subs ∧ True
def ab_.sz (x : ab_) : Nat := ByteArray.size x.Name + (as_ ByteArray.size) x.Subs
theorem ab_.sz_Name {x : ab_} {b : Nat} (h : ab_.sz x ≤ b) : ByteArray.size x.Name ≤ b := by unfold ab_.sz at h; omega
theorem ab_.sz_Subs {x : ab_} {b : Nat} (h : ab_.sz x ≤ b) : (as_ ByteArray.size) x.Subs ≤ b := by unfold ab_.sz at h; omega
structure af_ where
 Job : Int
 Until : Int
 Name : ByteArray
 Subs : List ByteArray
def af_.cells (x : af_) : List AV := [.val (.int .i64 x.Job), .val (.int .i64 x.Until), .val (.string x.Name), .list 0 1 (x.Subs.map az_)]
def af_.wf (x : af_) : Prop := hE_ x.Job ∧ hE_ x.Until ∧ em_ x.Name ∧ (dQ_ em_) x.Subs ∧ True
def af_.sz (x : af_) : Nat := ByteArray.size x.Name + (as_ ByteArray.size) x.Subs
theorem af_.sz_Name {x : af_} {b : Nat} (h : af_.sz x ≤ b) : ByteArray.size x.Name ≤ b := by unfold af_.sz at h; omega
theorem af_.sz_Subs {x : af_} {b : Nat} (h : af_.sz x ≤ b) : (as_ ByteArray.size) x.Subs ≤ b := by unfold af_.sz at h; omega
structure ac_ where
 Held : List ab_
 Asks : List af_
def ac_.cells (x : ac_) : List AV := [.list 0 4 (x.Held.map ab_.cells), .list 0 4 (x.Asks.map af_.cells)]
def ac_.wf (x : ac_) : Prop := (dQ_ ab_.wf) x.Held ∧ (dQ_ af_.wf) x.Asks ∧ True
def ac_.sz (x : ac_) : Nat := (as_ ab_.sz) x.Held + (as_ af_.sz) x.Asks
theorem ac_.sz_Held {x : ac_} {b : Nat} (h : ac_.sz x ≤ b) : (as_ ab_.sz) x.Held ≤ b := by unfold ac_.sz at h; omega
theorem ac_.sz_Asks {x : ac_} {b : Nat} (h : ac_.sz x ≤ b) : (as_ af_.sz) x.Asks ≤ b := by unfold ac_.sz at h; omega
theorem oa_ (W : World) : Rd prog W 2 bA_ hE_ := ux_ (by kernel_rfl)
theorem qb_ (W : World) : Rd prog W 9 az_ em_ := pc_ (by kernel_rfl)
theorem um_ : ∃ i, prog.info? 9 = some i ∧ i.size = 1 := ks_ (by kernel_rfl)
theorem rz_ (W : World) : Rd prog W 41 (fun xs : List ByteArray => dy_ 1 az_ xs) (dQ_ em_) := by
 obtain ⟨i, h1, h2⟩ := um_
 exact jn_ (by kernel_rfl) h1 h2 (by decide) (fun _ => rfl) (qb_ W)
theorem mt_ : cN_ prog 87 0 = some (0, 2, 1) := by kernel_rfl
theorem p1_ : cN_ prog 87 1 = some (1, 2, 1) := by kernel_rfl
theorem pS_ : cN_ prog 87 2 = some (2, 9, 1) := by kernel_rfl
theorem pr_ : cN_ prog 87 3 = some (3, 41, 1) := by kernel_rfl
theorem vA_ (W : World) : Rd prog W 87 ab_.cells ab_.wf := by
 intro H enc fuel cs d ps hr
 obtain ⟨fs, _, hfs, _⟩ := bn_ mt_
 have hcl : prog.cellsOf 87 = 4 := by kernel_rfl
 obtain ⟨xs, n, _, _, hlen, hxl, hall⟩ := DataW.trod_struct hfs hr
 rw [hcl] at hlen
 obtain ⟨fs0, f0, u0, v0, o0, y0, z0⟩ := bn_ mt_
 rw [hfs] at u0; simp only [Option.some.injEq, TypeDesc.struct.injEq] at u0; subst u0
 obtain ⟨x0, w0, r0⟩ := c3_ (sz := 1) hall hxl v0 o0 (by rw [y0]; exact z0) (by rw [y0]; exact oa_ W)
 obtain ⟨fs1, f1, u1, v1, o1, y1, z1⟩ := bn_ p1_
 rw [hfs] at u1; simp only [Option.some.injEq, TypeDesc.struct.injEq] at u1; subst u1
 obtain ⟨x1, w1, r1⟩ := c3_ (sz := 1) hall hxl v1 o1 (by rw [y1]; exact z1) (by rw [y1]; exact oa_ W)
 obtain ⟨fs2, f2, u2, v2, o2, y2, z2⟩ := bn_ pS_
 rw [hfs] at u2; simp only [Option.some.injEq, TypeDesc.struct.injEq] at u2; subst u2
 obtain ⟨x2, w2, r2⟩ := c3_ (sz := 1) hall hxl v2 o2 (by rw [y2]; exact z2) (by rw [y2]; exact qb_ W)
 obtain ⟨fs3, f3, u3, v3, o3, y3, z3⟩ := bn_ pr_
 rw [hfs] at u3; simp only [Option.some.injEq, TypeDesc.struct.injEq] at u3; subst u3
 obtain ⟨x3, w3, r3⟩ := c3_ (sz := 1) hall hxl v3 o3 (by rw [y3]; exact z3) (by rw [y3]; exact rz_ W)
 refine ⟨⟨x0, x1, x2, x3⟩, ⟨w0, w1, w2, w3, trivial⟩, ?_⟩
 have s4 : ah_ (Sit.all W) [] (cs.drop 4) := hh_ _ (drop_eq_nil_of_le (by omega))
 have s3 : ah_ (Sit.all W) ((dy_ 1 az_) x3 ++ ([])) (cs.drop 3) := cg_ (o := 3) r3 s4
 have s2 : ah_ (Sit.all W) (az_ x2 ++ ((dy_ 1 az_) x3 ++ ([]))) (cs.drop 2) := cg_ (o := 2) r2 s3
 have s1 : ah_ (Sit.all W) (bA_ x1 ++ (az_ x2 ++ ((dy_ 1 az_) x3 ++ ([])))) (cs.drop 1) := cg_ (o := 1) r1 s2
 have s0 : ah_ (Sit.all W) (bA_ x0 ++ (bA_ x1 ++ (az_ x2 ++ ((dy_ 1 az_) x3 ++ ([]))))) (cs.drop 0) := cg_ (o := 0) r0 s1
 rw [drop_zero] at s0
 exact s0
theorem l4_ : cN_ prog 89 0 = some (0, 2, 1) := by kernel_rfl
theorem po_ : cN_ prog 89 1 = some (1, 2, 1) := by kernel_rfl
theorem qx_ : cN_ prog 89 2 = some (2, 9, 1) := by kernel_rfl
theorem pA_ : cN_ prog 89 3 = some (3, 41, 1) := by kernel_rfl
theorem vk_ (W : World) : Rd prog W 89 af_.cells af_.wf := by
 intro H enc fuel cs d ps hr
 obtain ⟨fs, _, hfs, _⟩ := bn_ l4_
 have hcl : prog.cellsOf 89 = 4 := by kernel_rfl
 obtain ⟨xs, n, _, _, hlen, hxl, hall⟩ := DataW.trod_struct hfs hr
 rw [hcl] at hlen
 obtain ⟨fs0, f0, u0, v0, o0, y0, z0⟩ := bn_ l4_
 rw [hfs] at u0; simp only [Option.some.injEq, TypeDesc.struct.injEq] at u0; subst u0
 obtain ⟨x0, w0, r0⟩ := c3_ (sz := 1) hall hxl v0 o0 (by rw [y0]; exact z0) (by rw [y0]; exact oa_ W)
 obtain ⟨fs1, f1, u1, v1, o1, y1, z1⟩ := bn_ po_
 rw [hfs] at u1; simp only [Option.some.injEq, TypeDesc.struct.injEq] at u1; subst u1
 obtain ⟨x1, w1, r1⟩ := c3_ (sz := 1) hall hxl v1 o1 (by rw [y1]; exact z1) (by rw [y1]; exact oa_ W)
 obtain ⟨fs2, f2, u2, v2, o2, y2, z2⟩ := bn_ qx_
 rw [hfs] at u2; simp only [Option.some.injEq, TypeDesc.struct.injEq] at u2; subst u2
 obtain ⟨x2, w2, r2⟩ := c3_ (sz := 1) hall hxl v2 o2 (by rw [y2]; exact z2) (by rw [y2]; exact qb_ W)
 obtain ⟨fs3, f3, u3, v3, o3, y3, z3⟩ := bn_ pA_
 rw [hfs] at u3; simp only [Option.some.injEq, TypeDesc.struct.injEq] at u3; subst u3
 obtain ⟨x3, w3, r3⟩ := c3_ (sz := 1) hall hxl v3 o3 (by rw [y3]; exact z3) (by rw [y3]; exact rz_ W)
 refine ⟨⟨x0, x1, x2, x3⟩, ⟨w0, w1, w2, w3, trivial⟩, ?_⟩
 have s4 : ah_ (Sit.all W) [] (cs.drop 4) := hh_ _ (drop_eq_nil_of_le (by omega))
 have s3 : ah_ (Sit.all W) ((dy_ 1 az_) x3 ++ ([])) (cs.drop 3) := cg_ (o := 3) r3 s4
 have s2 : ah_ (Sit.all W) (az_ x2 ++ ((dy_ 1 az_) x3 ++ ([]))) (cs.drop 2) := cg_ (o := 2) r2 s3
 have s1 : ah_ (Sit.all W) (bA_ x1 ++ (az_ x2 ++ ((dy_ 1 az_) x3 ++ ([])))) (cs.drop 1) := cg_ (o := 1) r1 s2
 have s0 : ah_ (Sit.all W) (bA_ x0 ++ (bA_ x1 ++ (az_ x2 ++ ((dy_ 1 az_) x3 ++ ([]))))) (cs.drop 0) := cg_ (o := 0) r0 s1
 rw [drop_zero] at s0
 exact s0
theorem sx_ : ∃ i, prog.info? 87 = some i ∧ i.size = 4 := ks_ (by kernel_rfl)
theorem u7_ (W : World) : Rd prog W 22 (fun xs : List ab_ => dy_ 4 ab_.cells xs) (dQ_ ab_.wf) := by
 obtain ⟨i, h1, h2⟩ := sx_
 exact jn_ (by kernel_rfl) h1 h2 (by decide) (fun _ => rfl) (vA_ W)
theorem sB_ : ∃ i, prog.info? 89 = some i ∧ i.size = 4 := ks_ (by kernel_rfl)
theorem vu_ (W : World) : Rd prog W 23 (fun xs : List af_ => dy_ 4 af_.cells xs) (dQ_ af_.wf) := by
 obtain ⟨i, h1, h2⟩ := sB_
 exact jn_ (by kernel_rfl) h1 h2 (by decide) (fun _ => rfl) (vk_ W)
theorem ji_ : cN_ prog 25 0 = some (0, 22, 1) := by kernel_rfl
theorem pJ_ : cN_ prog 25 1 = some (1, 23, 1) := by kernel_rfl
theorem vv_ (W : World) : Rd prog W 25 ac_.cells ac_.wf := by
 intro H enc fuel cs d ps hr
 obtain ⟨fs, _, hfs, _⟩ := bn_ ji_
 have hcl : prog.cellsOf 25 = 2 := by kernel_rfl
 obtain ⟨xs, n, _, _, hlen, hxl, hall⟩ := DataW.trod_struct hfs hr
 rw [hcl] at hlen
 obtain ⟨fs0, f0, u0, v0, o0, y0, z0⟩ := bn_ ji_
 rw [hfs] at u0; simp only [Option.some.injEq, TypeDesc.struct.injEq] at u0; subst u0
 obtain ⟨x0, w0, r0⟩ := c3_ (sz := 1) hall hxl v0 o0 (by rw [y0]; exact z0) (by rw [y0]; exact u7_ W)
 obtain ⟨fs1, f1, u1, v1, o1, y1, z1⟩ := bn_ pJ_
 rw [hfs] at u1; simp only [Option.some.injEq, TypeDesc.struct.injEq] at u1; subst u1
 obtain ⟨x1, w1, r1⟩ := c3_ (sz := 1) hall hxl v1 o1 (by rw [y1]; exact z1) (by rw [y1]; exact vu_ W)
 refine ⟨⟨x0, x1⟩, ⟨w0, w1, trivial⟩, ?_⟩
 have s2 : ah_ (Sit.all W) [] (cs.drop 2) := hh_ _ (drop_eq_nil_of_le (by omega))
 have s1 : ah_ (Sit.all W) ((dy_ 4 af_.cells) x1 ++ ([])) (cs.drop 1) := cg_ (o := 1) r1 s2
 have s0 : ah_ (Sit.all W) ((dy_ 4 ab_.cells) x0 ++ ((dy_ 4 af_.cells) x1 ++ ([]))) (cs.drop 0) := cg_ (o := 0) r0 s1
 rw [drop_zero] at s0
 exact s0
theorem mixed : Tryz.prog.follows .mixedOrders = true := by kernel_rfl
end Go.Proofs.YtodgohgdnmifaaaGreatDoor
