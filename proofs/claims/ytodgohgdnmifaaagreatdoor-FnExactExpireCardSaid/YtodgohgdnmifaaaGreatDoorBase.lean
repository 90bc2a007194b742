/-
 The data types of the laws arguments, and that the arguments of a row, read as data, are such data. No conditions.
-/
import Derived.Test.YtodgohgdnmifaaaGreatDoorProg
import Derived.Test.YtodgohgdnmifaaaGreatDoorAwB
import Derived.KernelRfl
namespace Go.Proofs.YtodgohgdnmifaaaGreatDoor
open Tryz (prog)
open List
open Go.AW
set_option linter.unusedVariables false
structure ac_ where
 Job : Int
 Count : Int
 Name : ByteArray
 Subs : List ByteArray
def ac_.cells (x : ac_) : List AV := [.val (.int .i64 x.Job), .val (.int .i64 x.Count), .val (.string x.Name), .list 0 1 (x.Subs.map ax_)]
def ac_.wf (x : ac_) : Prop := hm_ x.Job ∧ hm_ x.Count ∧ eY_ x.Name ∧ (eb_ eY_) x.Subs ∧ True
def ac_.sz (x : ac_) : Nat := ByteArray.size x.Name + (ar_ ByteArray.size) x.Subs
theorem ac_.sz_Name {x : ac_} {b : Nat} (h : ac_.sz x ≤ b) : ByteArray.size x.Name ≤ b := by unfold ac_.sz at h; omega
theorem ac_.sz_Subs {x : ac_} {b : Nat} (h : ac_.sz x ≤ b) : (ar_ ByteArray.size) x.Subs ≤ b := by unfold ac_.sz at h; omega
structure ae_ where
 Job : Int
 Until : Int
 Name : ByteArray
 Subs : List ByteArray
def ae_.cells (x : ae_) : List AV := [.val (.int .i64 x.Job), .val (.int .i64 x.Until), .val (.string x.Name), .list 0 1 (x.Subs.map ax_)]
def ae_.wf (x : ae_) : Prop := hm_ x.Job ∧ hm_ x.Until ∧ eY_ x.Name ∧ (eb_ eY_) x.Subs ∧ True
def ae_.sz (x : ae_) : Nat := ByteArray.size x.Name + (ar_ ByteArray.size) x.Subs
theorem ae_.sz_Name {x : ae_} {b : Nat} (h : ae_.sz x ≤ b) : ByteArray.size x.Name ≤ b := by unfold ae_.sz at h; omega
theorem ae_.sz_Subs {x : ae_} {b : Nat} (h : ae_.sz x ≤ b) : (ar_ ByteArray.size) x.Subs ≤ b := by unfold ae_.sz at h; omega
structure ab_ where
 Held : List ac_
 Asks : List ae_
def ab_.cells (x : ab_) : List AV := [.list 0 4 (x.Held.map ac_.cells), .list 0 4 (x.Asks.map ae_.cells)]
def ab_.wf (x : ab_) : Prop := (eb_ ac_.wf) x.Held ∧ (eb_ ae_.wf) x.Asks ∧ True
def ab_.sz (x : ab_) : Nat := (ar_ ac_.sz) x.Held + (ar_ ae_.sz) x.Asks
theorem ab_.sz_Held {x : ab_} {b : Nat} (h : ab_.sz x ≤ b) : (ar_ ac_.sz) x.Held ≤ b := by unfold ab_.sz at h; omega
theorem ab_.sz_Asks {x : ab_} {b : Nat} (h : ab_.sz x ≤ b) : (ar_ ae_.sz) x.Asks ≤ b := by unfold ab_.sz at h; omega
theorem n7_ (W : World) : Rd prog W 2 bS_ hm_ := wq_ (by kernel_rfl)
theorem sS_ (W : World) : Rd prog W 9 ax_ eY_ := qE_ (by kernel_rfl)
theorem xE_ : ∃ i, prog.info? 9 = some i ∧ i.size = 1 := lY_ (by kernel_rfl)
theorem ta_ (W : World) : Rd prog W 41 (fun xs : List ByteArray => d7_ 1 ax_ xs) (eb_ eY_) := by
 obtain ⟨i, h1, h2⟩ := xE_
 exact kJ_ (by kernel_rfl) h1 h2 (by decide) (fun _ => rfl) (sS_ W)
theorem nr_ : dl_ prog 87 0 = some (0, 2, 1) := by kernel_rfl
theorem rE_ : dl_ prog 87 1 = some (1, 2, 1) := by kernel_rfl
theorem sX_ : dl_ prog 87 2 = some (2, 9, 1) := by kernel_rfl
theorem rP_ : dl_ prog 87 3 = some (3, 41, 1) := by kernel_rfl
theorem yN_ (W : World) : Rd prog W 87 ac_.cells ac_.wf := by
 intro H enc fuel cs d ps hr
 obtain ⟨fs, _, hfs, _⟩ := bN_ nr_
 have hcl : prog.cellsOf 87 = 4 := by kernel_rfl
 obtain ⟨xs, n, _, _, hlen, hxl, hall⟩ := DataW.trod_struct hfs hr
 rw [hcl] at hlen
 obtain ⟨fs0, f0, u0, v0, o0, y0, z0⟩ := bN_ nr_
 rw [hfs] at u0; simp only [Option.some.injEq, TypeDesc.struct.injEq] at u0; subst u0
 obtain ⟨x0, w0, r0⟩ := dA_ (sz := 1) hall hxl v0 o0 (by rw [y0]; exact z0) (by rw [y0]; exact n7_ W)
 obtain ⟨fs1, f1, u1, v1, o1, y1, z1⟩ := bN_ rE_
 rw [hfs] at u1; simp only [Option.some.injEq, TypeDesc.struct.injEq] at u1; subst u1
 obtain ⟨x1, w1, r1⟩ := dA_ (sz := 1) hall hxl v1 o1 (by rw [y1]; exact z1) (by rw [y1]; exact n7_ W)
 obtain ⟨fs2, f2, u2, v2, o2, y2, z2⟩ := bN_ sX_
 rw [hfs] at u2; simp only [Option.some.injEq, TypeDesc.struct.injEq] at u2; subst u2
 obtain ⟨x2, w2, r2⟩ := dA_ (sz := 1) hall hxl v2 o2 (by rw [y2]; exact z2) (by rw [y2]; exact sS_ W)
 obtain ⟨fs3, f3, u3, v3, o3, y3, z3⟩ := bN_ rP_
 rw [hfs] at u3; simp only [Option.some.injEq, TypeDesc.struct.injEq] at u3; subst u3
 obtain ⟨x3, w3, r3⟩ := dA_ (sz := 1) hall hxl v3 o3 (by rw [y3]; exact z3) (by rw [y3]; exact ta_ W)
 refine ⟨⟨x0, x1, x2, x3⟩, ⟨w0, w1, w2, w3, trivial⟩, ?_⟩
 have s4 : aj_ (Sit.all W) [] (cs.drop 4) := iw_ _ (drop_eq_nil_of_le (by omega))
 have s3 : aj_ (Sit.all W) ((d7_ 1 ax_) x3 ++ ([])) (cs.drop 3) := cL_ (o := 3) r3 s4
 have s2 : aj_ (Sit.all W) (ax_ x2 ++ ((d7_ 1 ax_) x3 ++ ([]))) (cs.drop 2) := cL_ (o := 2) r2 s3
 have s1 : aj_ (Sit.all W) (bS_ x1 ++ (ax_ x2 ++ ((d7_ 1 ax_) x3 ++ ([])))) (cs.drop 1) := cL_ (o := 1) r1 s2
 have s0 : aj_ (Sit.all W) (bS_ x0 ++ (bS_ x1 ++ (ax_ x2 ++ ((d7_ 1 ax_) x3 ++ ([]))))) (cs.drop 0) := cL_ (o := 0) r0 s1
 rw [drop_zero] at s0
 exact s0
theorem oc_ : dl_ prog 89 0 = some (0, 2, 1) := by kernel_rfl
theorem sw_ : dl_ prog 89 1 = some (1, 2, 1) := by kernel_rfl
theorem rY_ : dl_ prog 89 2 = some (2, 9, 1) := by kernel_rfl
theorem sb_ : dl_ prog 89 3 = some (3, 41, 1) := by kernel_rfl
theorem yD_ (W : World) : Rd prog W 89 ae_.cells ae_.wf := by
 intro H enc fuel cs d ps hr
 obtain ⟨fs, _, hfs, _⟩ := bN_ oc_
 have hcl : prog.cellsOf 89 = 4 := by kernel_rfl
 obtain ⟨xs, n, _, _, hlen, hxl, hall⟩ := DataW.trod_struct hfs hr
 rw [hcl] at hlen
 obtain ⟨fs0, f0, u0, v0, o0, y0, z0⟩ := bN_ oc_
 rw [hfs] at u0; simp only [Option.some.injEq, TypeDesc.struct.injEq] at u0; subst u0
 obtain ⟨x0, w0, r0⟩ := dA_ (sz := 1) hall hxl v0 o0 (by rw [y0]; exact z0) (by rw [y0]; exact n7_ W)
 obtain ⟨fs1, f1, u1, v1, o1, y1, z1⟩ := bN_ sw_
 rw [hfs] at u1; simp only [Option.some.injEq, TypeDesc.struct.injEq] at u1; subst u1
 obtain ⟨x1, w1, r1⟩ := dA_ (sz := 1) hall hxl v1 o1 (by rw [y1]; exact z1) (by rw [y1]; exact n7_ W)
 obtain ⟨fs2, f2, u2, v2, o2, y2, z2⟩ := bN_ rY_
 rw [hfs] at u2; simp only [Option.some.injEq, TypeDesc.struct.injEq] at u2; subst u2
 obtain ⟨x2, w2, r2⟩ := dA_ (sz := 1) hall hxl v2 o2 (by rw [y2]; exact z2) (by rw [y2]; exact sS_ W)
 obtain ⟨fs3, f3, u3, v3, o3, y3, z3⟩ := bN_ sb_
 rw [hfs] at u3; simp only [Option.some.injEq, TypeDesc.struct.injEq] at u3; subst u3
 obtain ⟨x3, w3, r3⟩ := dA_ (sz := 1) hall hxl v3 o3 (by rw [y3]; exact z3) (by rw [y3]; exact ta_ W)
 refine ⟨⟨x0, x1, x2, x3⟩, ⟨w0, w1, w2, w3, trivial⟩, ?_⟩
 have s4 : aj_ (Sit.all W) [] (cs.drop 4) := iw_ _ (drop_eq_nil_of_le (by omega))
 have s3 : aj_ (Sit.all W) ((d7_ 1 ax_) x3 ++ ([])) (cs.drop 3) := cL_ (o := 3) r3 s4
 have s2 : aj_ (Sit.all W) (ax_ x2 ++ ((d7_ 1 ax_) x3 ++ ([]))) (cs.drop 2) := cL_ (o := 2) r2 s3
 have s1 : aj_ (Sit.all W) (bS_ x1 ++ (ax_ x2 ++ ((d7_ 1 ax_) x3 ++ ([])))) (cs.drop 1) := cL_ (o := 1) r1 s2
 have s0 : aj_ (Sit.all W) (bS_ x0 ++ (bS_ x1 ++ (ax_ x2 ++ ((d7_ 1 ax_) x3 ++ ([]))))) (cs.drop 0) := cL_ (o := 0) r0 s1
 rw [drop_zero] at s0
 exact s0
theorem uT_ : ∃ i, prog.info? 87 = some i ∧ i.size = 4 := lY_ (by kernel_rfl)
theorem yc_ (W : World) : Rd prog W 22 (fun xs : List ac_ => d7_ 4 ac_.cells xs) (eb_ ac_.wf) := by
 obtain ⟨i, h1, h2⟩ := uT_
 exact kJ_ (by kernel_rfl) h1 h2 (by decide) (fun _ => rfl) (yN_ W)
theorem uB_ : ∃ i, prog.info? 89 = some i ∧ i.size = 4 := lY_ (by kernel_rfl)
theorem yx_ (W : World) : Rd prog W 23 (fun xs : List ae_ => d7_ 4 ae_.cells xs) (eb_ ae_.wf) := by
 obtain ⟨i, h1, h2⟩ := uB_
 exact kJ_ (by kernel_rfl) h1 h2 (by decide) (fun _ => rfl) (yD_ W)
theorem kw_ : dl_ prog 25 0 = some (0, 22, 1) := by kernel_rfl
theorem sx_ : dl_ prog 25 1 = some (1, 23, 1) := by kernel_rfl
theorem yw_ (W : World) : Rd prog W 25 ab_.cells ab_.wf := by
 intro H enc fuel cs d ps hr
 obtain ⟨fs, _, hfs, _⟩ := bN_ kw_
 have hcl : prog.cellsOf 25 = 2 := by kernel_rfl
 obtain ⟨xs, n, _, _, hlen, hxl, hall⟩ := DataW.trod_struct hfs hr
 rw [hcl] at hlen
 obtain ⟨fs0, f0, u0, v0, o0, y0, z0⟩ := bN_ kw_
 rw [hfs] at u0; simp only [Option.some.injEq, TypeDesc.struct.injEq] at u0; subst u0
 obtain ⟨x0, w0, r0⟩ := dA_ (sz := 1) hall hxl v0 o0 (by rw [y0]; exact z0) (by rw [y0]; exact yc_ W)
 obtain ⟨fs1, f1, u1, v1, o1, y1, z1⟩ := bN_ sx_
 rw [hfs] at u1; simp only [Option.some.injEq, TypeDesc.struct.injEq] at u1; subst u1
 obtain ⟨x1, w1, r1⟩ := dA_ (sz := 1) hall hxl v1 o1 (by rw [y1]; exact z1) (by rw [y1]; exact yx_ W)
 refine ⟨⟨x0, x1⟩, ⟨w0, w1, trivial⟩, ?_⟩
 have s2 : aj_ (Sit.all W) [] (cs.drop 2) := iw_ _ (drop_eq_nil_of_le (by omega))
 have s1 : aj_ (Sit.all W) ((d7_ 4 ae_.cells) x1 ++ ([])) (cs.drop 1) := cL_ (o := 1) r1 s2
 have s0 : aj_ (Sit.all W) ((d7_ 4 ac_.cells) x0 ++ ((d7_ 4 ae_.cells) x1 ++ ([]))) (cs.drop 0) := cL_ (o := 0) r0 s1
 rw [drop_zero] at s0
 exact s0
theorem mixed : Tryz.prog.follows .mixedOrders = true := by kernel_rfl
end Go.Proofs.YtodgohgdnmifaaaGreatDoor
