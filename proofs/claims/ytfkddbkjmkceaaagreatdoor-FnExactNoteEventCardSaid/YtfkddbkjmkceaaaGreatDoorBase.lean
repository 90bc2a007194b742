/-
 The data types of the laws arguments, and that the arguments of a row, read as data, are such data. No conditions.
-/
import Derived.Test.YtfkddbkjmkceaaaGreatDoorProg
import Derived.Test.YtfkddbkjmkceaaaGreatDoorAwB
import Derived.KernelRfl
namespace Go.Proofs.YtfkddbkjmkceaaaGreatDoor
open List
open Go.AW
set_option linter.unusedVariables false
structure ac_ where
 Name : ByteArray
 Subs : List ByteArray
 Value : ByteArray
def ac_.cells (x : ac_) : List AV := [.val (.string x.Name), .list 0 1 (x.Subs.map aj_), .val (.string x.Value)]
def ac_.wf (x : ac_) : Prop := dw_ x.Name ∧ (eT_ dw_) x.Subs ∧ dw_ x.Value ∧ True
def ac_.sz (x : ac_) : Nat := ByteArray.size x.Name + (aq_ ByteArray.size) x.Subs + ByteArray.size x.Value
theorem ac_.sz_Name {x : ac_} {b : Nat} (h : ac_.sz x ≤ b) : ByteArray.size x.Name ≤ b := by unfold ac_.sz at h; omega
theorem ac_.sz_Subs {x : ac_} {b : Nat} (h : ac_.sz x ≤ b) : (aq_ ByteArray.size) x.Subs ≤ b := by unfold ac_.sz at h; omega
theorem ac_.sz_Value {x : ac_} {b : Nat} (h : ac_.sz x ≤ b) : ByteArray.size x.Value ≤ b := by unfold ac_.sz at h; omega
structure ae_ where
 Nodes : List ac_
def ae_.cells (x : ae_) : List AV := [.list 0 3 (x.Nodes.map ac_.cells)]
def ae_.wf (x : ae_) : Prop := (eT_ ac_.wf) x.Nodes ∧ True
def ae_.sz (x : ae_) : Nat := (aq_ ac_.sz) x.Nodes
theorem ae_.sz_Nodes {x : ae_} {b : Nat} (h : ae_.sz x ≤ b) : (aq_ ac_.sz) x.Nodes ≤ b := by unfold ae_.sz at h; omega
structure ab_ where
 Kind : Int
 Name : ByteArray
 Subs : List ByteArray
 Value : ByteArray
 N : Int
def ab_.cells (x : ab_) : List AV := [.val (.int .i64 x.Kind), .val (.string x.Name), .list 0 1 (x.Subs.map aj_), .val (.string x.Value), .val (.int .i64 x.N)]
def ab_.wf (x : ab_) : Prop := iT_ x.Kind ∧ dw_ x.Name ∧ (eT_ dw_) x.Subs ∧ dw_ x.Value ∧ iT_ x.N ∧ True
def ab_.sz (x : ab_) : Nat := ByteArray.size x.Name + (aq_ ByteArray.size) x.Subs + ByteArray.size x.Value
theorem ab_.sz_Name {x : ab_} {b : Nat} (h : ab_.sz x ≤ b) : ByteArray.size x.Name ≤ b := by unfold ab_.sz at h; omega
theorem ab_.sz_Subs {x : ab_} {b : Nat} (h : ab_.sz x ≤ b) : (aq_ ByteArray.size) x.Subs ≤ b := by unfold ab_.sz at h; omega
theorem ab_.sz_Value {x : ab_} {b : Nat} (h : ab_.sz x ≤ b) : ByteArray.size x.Value ≤ b := by unfold ab_.sz at h; omega
structure at_ where
 Depth : Int
 Restarts : Int
 Events : List ab_
def at_.cells (x : at_) : List AV := [.val (.int .i64 x.Depth), .val (.int .i64 x.Restarts), .list 0 5 (x.Events.map ab_.cells)]
def at_.wf (x : at_) : Prop := iT_ x.Depth ∧ iT_ x.Restarts ∧ (eT_ ab_.wf) x.Events ∧ True
def at_.sz (x : at_) : Nat := (aq_ ab_.sz) x.Events
theorem at_.sz_Events {x : at_} {b : Nat} (h : at_.sz x ≤ b) : (aq_ ab_.sz) x.Events ≤ b := by unfold at_.sz at h; omega
structure aF_ where
 Kind : Int
 Name : ByteArray
 Subs : List ByteArray
 Value : ByteArray
def aF_.cells (x : aF_) : List AV := [.val (.int .i64 x.Kind), .val (.string x.Name), .list 0 1 (x.Subs.map aj_), .val (.string x.Value)]
def aF_.wf (x : aF_) : Prop := iT_ x.Kind ∧ dw_ x.Name ∧ (eT_ dw_) x.Subs ∧ dw_ x.Value ∧ True
def aF_.sz (x : aF_) : Nat := ByteArray.size x.Name + (aq_ ByteArray.size) x.Subs + ByteArray.size x.Value
theorem aF_.sz_Name {x : aF_} {b : Nat} (h : aF_.sz x ≤ b) : ByteArray.size x.Name ≤ b := by unfold aF_.sz at h; omega
theorem aF_.sz_Subs {x : aF_} {b : Nat} (h : aF_.sz x ≤ b) : (aq_ ByteArray.size) x.Subs ≤ b := by unfold aF_.sz at h; omega
theorem aF_.sz_Value {x : aF_} {b : Nat} (h : aF_.sz x ≤ b) : ByteArray.size x.Value ≤ b := by unfold aF_.sz at h; omega
theorem pG_ (W : World) : Rd Tryz.prog W 9 aj_ dw_ := tk_ (by kernel_rfl)
theorem BQ_ : ∃ i, Tryz.prog.info? 9 = some i ∧ i.size = 1 := nx_ (by kernel_rfl)
theorem wI_ (W : World) : Rd Tryz.prog W 28 (fun xs : List ByteArray => f9_ 1 aj_ xs) (eT_ dw_) := by
 obtain ⟨i, h1, h2⟩ := BQ_
 exact mi_ (by kernel_rfl) h1 h2 (by decide) (fun _ => rfl) (pG_ W)
theorem qr_ : dl_ Tryz.prog 92 0 = some (0, 9, 1) := by kernel_rfl
theorem u7_ : dl_ Tryz.prog 92 1 = some (1, 28, 1) := by kernel_rfl
theorem vX_ : dl_ Tryz.prog 92 2 = some (2, 9, 1) := by kernel_rfl
theorem Dv_ (W : World) : Rd Tryz.prog W 92 ac_.cells ac_.wf := by
 intro H enc fuel cs d ps hr
 obtain ⟨fs, _, hfs, _⟩ := bF_ qr_
 have hcl : Tryz.prog.cellsOf 92 = 3 := by kernel_rfl
 obtain ⟨xs, n, _, _, hlen, hxl, hall⟩ := DataW.trod_struct hfs hr
 rw [hcl] at hlen
 obtain ⟨fs0, f0, u0, v0, o0, y0, z0⟩ := bF_ qr_
 rw [hfs] at u0; simp only [Option.some.injEq, TypeDesc.struct.injEq] at u0; subst u0
 obtain ⟨x0, w0, r0⟩ := dp_ (sz := 1) hall hxl v0 o0 (by rw [y0]; exact z0) (by rw [y0]; exact pG_ W)
 obtain ⟨fs1, f1, u1, v1, o1, y1, z1⟩ := bF_ u7_
 rw [hfs] at u1; simp only [Option.some.injEq, TypeDesc.struct.injEq] at u1; subst u1
 obtain ⟨x1, w1, r1⟩ := dp_ (sz := 1) hall hxl v1 o1 (by rw [y1]; exact z1) (by rw [y1]; exact wI_ W)
 obtain ⟨fs2, f2, u2, v2, o2, y2, z2⟩ := bF_ vX_
 rw [hfs] at u2; simp only [Option.some.injEq, TypeDesc.struct.injEq] at u2; subst u2
 obtain ⟨x2, w2, r2⟩ := dp_ (sz := 1) hall hxl v2 o2 (by rw [y2]; exact z2) (by rw [y2]; exact pG_ W)
 refine ⟨⟨x0, x1, x2⟩, ⟨w0, w1, w2, trivial⟩, ?_⟩
 have s3 : ao_ (Sit.all W) [] (cs.drop 3) := ip_ _ (drop_eq_nil_of_le (by omega))
 have s2 : ao_ (Sit.all W) (aj_ x2 ++ ([])) (cs.drop 2) := cK_ (o := 2) r2 s3
 have s1 : ao_ (Sit.all W) ((f9_ 1 aj_) x1 ++ (aj_ x2 ++ ([]))) (cs.drop 1) := cK_ (o := 1) r1 s2
 have s0 : ao_ (Sit.all W) (aj_ x0 ++ ((f9_ 1 aj_) x1 ++ (aj_ x2 ++ ([])))) (cs.drop 0) := cK_ (o := 0) r0 s1
 rw [drop_zero] at s0
 exact s0
theorem yx_ : ∃ i, Tryz.prog.info? 92 = some i ∧ i.size = 3 := nx_ (by kernel_rfl)
theorem Do_ (W : World) : Rd Tryz.prog W 22 (fun xs : List ac_ => f9_ 3 ac_.cells xs) (eT_ ac_.wf) := by
 obtain ⟨i, h1, h2⟩ := yx_
 exact mi_ (by kernel_rfl) h1 h2 (by decide) (fun _ => rfl) (Dv_ W)
theorem mo_ : dl_ Tryz.prog 24 0 = some (0, 22, 1) := by kernel_rfl
theorem DD_ (W : World) : Rd Tryz.prog W 24 ae_.cells ae_.wf := by
 intro H enc fuel cs d ps hr
 obtain ⟨fs, _, hfs, _⟩ := bF_ mo_
 have hcl : Tryz.prog.cellsOf 24 = 1 := by kernel_rfl
 obtain ⟨xs, n, _, _, hlen, hxl, hall⟩ := DataW.trod_struct hfs hr
 rw [hcl] at hlen
 obtain ⟨fs0, f0, u0, v0, o0, y0, z0⟩ := bF_ mo_
 rw [hfs] at u0; simp only [Option.some.injEq, TypeDesc.struct.injEq] at u0; subst u0
 obtain ⟨x0, w0, r0⟩ := dp_ (sz := 1) hall hxl v0 o0 (by rw [y0]; exact z0) (by rw [y0]; exact Do_ W)
 refine ⟨⟨x0⟩, ⟨w0, trivial⟩, ?_⟩
 have s1 : ao_ (Sit.all W) [] (cs.drop 1) := ip_ _ (drop_eq_nil_of_le (by omega))
 have s0 : ao_ (Sit.all W) ((f9_ 3 ac_.cells) x0 ++ ([])) (cs.drop 0) := cK_ (o := 0) r0 s1
 rw [drop_zero] at s0
 exact s0
theorem r0_ (W : World) : Rd Tryz.prog W 2 jf_ iT_ := yX_ (by kernel_rfl)
theorem lX_ : dl_ Tryz.prog 30 0 = some (0, 2, 1) := by kernel_rfl
theorem uQ_ : dl_ Tryz.prog 30 1 = some (1, 9, 1) := by kernel_rfl
theorem uB_ : dl_ Tryz.prog 30 2 = some (2, 28, 1) := by kernel_rfl
theorem ux_ : dl_ Tryz.prog 30 3 = some (3, 9, 1) := by kernel_rfl
theorem uR_ : dl_ Tryz.prog 30 4 = some (4, 2, 1) := by kernel_rfl
theorem w4_ (W : World) : Rd Tryz.prog W 30 ab_.cells ab_.wf := by
 intro H enc fuel cs d ps hr
 obtain ⟨fs, _, hfs, _⟩ := bF_ lX_
 have hcl : Tryz.prog.cellsOf 30 = 5 := by kernel_rfl
 obtain ⟨xs, n, _, _, hlen, hxl, hall⟩ := DataW.trod_struct hfs hr
 rw [hcl] at hlen
 obtain ⟨fs0, f0, u0, v0, o0, y0, z0⟩ := bF_ lX_
 rw [hfs] at u0; simp only [Option.some.injEq, TypeDesc.struct.injEq] at u0; subst u0
 obtain ⟨x0, w0, r0⟩ := dp_ (sz := 1) hall hxl v0 o0 (by rw [y0]; exact z0) (by rw [y0]; exact r0_ W)
 obtain ⟨fs1, f1, u1, v1, o1, y1, z1⟩ := bF_ uQ_
 rw [hfs] at u1; simp only [Option.some.injEq, TypeDesc.struct.injEq] at u1; subst u1
 obtain ⟨x1, w1, r1⟩ := dp_ (sz := 1) hall hxl v1 o1 (by rw [y1]; exact z1) (by rw [y1]; exact pG_ W)
 obtain ⟨fs2, f2, u2, v2, o2, y2, z2⟩ := bF_ uB_
 rw [hfs] at u2; simp only [Option.some.injEq, TypeDesc.struct.injEq] at u2; subst u2
 obtain ⟨x2, w2, r2⟩ := dp_ (sz := 1) hall hxl v2 o2 (by rw [y2]; exact z2) (by rw [y2]; exact wI_ W)
 obtain ⟨fs3, f3, u3, v3, o3, y3, z3⟩ := bF_ ux_
 rw [hfs] at u3; simp only [Option.some.injEq, TypeDesc.struct.injEq] at u3; subst u3
 obtain ⟨x3, w3, r3⟩ := dp_ (sz := 1) hall hxl v3 o3 (by rw [y3]; exact z3) (by rw [y3]; exact pG_ W)
 obtain ⟨fs4, f4, u4, v4, o4, y4, z4⟩ := bF_ uR_
 rw [hfs] at u4; simp only [Option.some.injEq, TypeDesc.struct.injEq] at u4; subst u4
 obtain ⟨x4, w4, r4⟩ := dp_ (sz := 1) hall hxl v4 o4 (by rw [y4]; exact z4) (by rw [y4]; exact r0_ W)
 refine ⟨⟨x0, x1, x2, x3, x4⟩, ⟨w0, w1, w2, w3, w4, trivial⟩, ?_⟩
 have s5 : ao_ (Sit.all W) [] (cs.drop 5) := ip_ _ (drop_eq_nil_of_le (by omega))
 have s4 : ao_ (Sit.all W) (jf_ x4 ++ ([])) (cs.drop 4) := cK_ (o := 4) r4 s5
 have s3 : ao_ (Sit.all W) (aj_ x3 ++ (jf_ x4 ++ ([]))) (cs.drop 3) := cK_ (o := 3) r3 s4
 have s2 : ao_ (Sit.all W) ((f9_ 1 aj_) x2 ++ (aj_ x3 ++ (jf_ x4 ++ ([])))) (cs.drop 2) := cK_ (o := 2) r2 s3
 have s1 : ao_ (Sit.all W) (aj_ x1 ++ ((f9_ 1 aj_) x2 ++ (aj_ x3 ++ (jf_ x4 ++ ([]))))) (cs.drop 1) := cK_ (o := 1) r1 s2
 have s0 : ao_ (Sit.all W) (jf_ x0 ++ (aj_ x1 ++ ((f9_ 1 aj_) x2 ++ (aj_ x3 ++ (jf_ x4 ++ ([])))))) (cs.drop 0) := cK_ (o := 0) r0 s1
 rw [drop_zero] at s0
 exact s0
theorem xW_ : ∃ i, Tryz.prog.info? 30 = some i ∧ i.size = 5 := nx_ (by kernel_rfl)
theorem Dz_ (W : World) : Rd Tryz.prog W 25 (fun xs : List ab_ => f9_ 5 ab_.cells xs) (eT_ ab_.wf) := by
 obtain ⟨i, h1, h2⟩ := xW_
 exact mi_ (by kernel_rfl) h1 h2 (by decide) (fun _ => rfl) (w4_ W)
theorem md_ : dl_ Tryz.prog 27 0 = some (0, 2, 1) := by kernel_rfl
theorem vE_ : dl_ Tryz.prog 27 1 = some (1, 2, 1) := by kernel_rfl
theorem vJ_ : dl_ Tryz.prog 27 2 = some (2, 25, 1) := by kernel_rfl
theorem CJ_ (W : World) : Rd Tryz.prog W 27 at_.cells at_.wf := by
 intro H enc fuel cs d ps hr
 obtain ⟨fs, _, hfs, _⟩ := bF_ md_
 have hcl : Tryz.prog.cellsOf 27 = 3 := by kernel_rfl
 obtain ⟨xs, n, _, _, hlen, hxl, hall⟩ := DataW.trod_struct hfs hr
 rw [hcl] at hlen
 obtain ⟨fs0, f0, u0, v0, o0, y0, z0⟩ := bF_ md_
 rw [hfs] at u0; simp only [Option.some.injEq, TypeDesc.struct.injEq] at u0; subst u0
 obtain ⟨x0, w0, r0⟩ := dp_ (sz := 1) hall hxl v0 o0 (by rw [y0]; exact z0) (by rw [y0]; exact r0_ W)
 obtain ⟨fs1, f1, u1, v1, o1, y1, z1⟩ := bF_ vE_
 rw [hfs] at u1; simp only [Option.some.injEq, TypeDesc.struct.injEq] at u1; subst u1
 obtain ⟨x1, w1, r1⟩ := dp_ (sz := 1) hall hxl v1 o1 (by rw [y1]; exact z1) (by rw [y1]; exact r0_ W)
 obtain ⟨fs2, f2, u2, v2, o2, y2, z2⟩ := bF_ vJ_
 rw [hfs] at u2; simp only [Option.some.injEq, TypeDesc.struct.injEq] at u2; subst u2
 obtain ⟨x2, w2, r2⟩ := dp_ (sz := 1) hall hxl v2 o2 (by rw [y2]; exact z2) (by rw [y2]; exact Dz_ W)
 refine ⟨⟨x0, x1, x2⟩, ⟨w0, w1, w2, trivial⟩, ?_⟩
 have s3 : ao_ (Sit.all W) [] (cs.drop 3) := ip_ _ (drop_eq_nil_of_le (by omega))
 have s2 : ao_ (Sit.all W) ((f9_ 5 ab_.cells) x2 ++ ([])) (cs.drop 2) := cK_ (o := 2) r2 s3
 have s1 : ao_ (Sit.all W) (jf_ x1 ++ ((f9_ 5 ab_.cells) x2 ++ ([]))) (cs.drop 1) := cK_ (o := 1) r1 s2
 have s0 : ao_ (Sit.all W) (jf_ x0 ++ (jf_ x1 ++ ((f9_ 5 ab_.cells) x2 ++ ([])))) (cs.drop 0) := cK_ (o := 0) r0 s1
 rw [drop_zero] at s0
 exact s0
theorem mixed : Tryz.prog.follows .mixedOrders = true := by kernel_rfl
end Go.Proofs.YtfkddbkjmkceaaaGreatDoor
