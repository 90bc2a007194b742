/-
 The data types of the laws arguments, and that the arguments of a row, read as data, are such data. No conditions.
-/
import Derived.Test.YtfkddbkjmkceaaaGreatDoorProg
import Derived.Test.YtfkddbkjmkceaaaGreatDoorAwB
import Derived.KernelRfl
namespace Go.Proofs.YtfkddbkjmkceaaaGreatDoor
open Tryz (prog)
open List
open Go.AW
set_option linter.unusedVariables false
structure ac_ where
 Name : ByteArray
 Subs : List ByteArray
 Value : ByteArray
def ac_.cells (x : ac_) : List AV := [.val (.string x.Name), .list 0 1 (x.Subs.map am_), .val (.string x.Value)]
def ac_.wf (x : ac_) : Prop := dt_ x.Name ∧ (eW_ dt_) x.Subs ∧ dt_ x.Value ∧ True
def ac_.sz (x : ac_) : Nat := ByteArray.size x.Name + (an_ ByteArray.size) x.Subs + ByteArray.size x.Value
theorem ac_.sz_Name {x : ac_} {b : Nat} (h : ac_.sz x ≤ b) : ByteArray.size x.Name ≤ b := by unfold ac_.sz at h; omega
theorem ac_.sz_Subs {x : ac_} {b : Nat} (h : ac_.sz x ≤ b) : (an_ ByteArray.size) x.Subs ≤ b := by unfold ac_.sz at h; omega
theorem ac_.sz_Value {x : ac_} {b : Nat} (h : ac_.sz x ≤ b) : ByteArray.size x.Value ≤ b := by unfold ac_.sz at h; omega
structure ad_ where
 Nodes : List ac_
def ad_.cells (x : ad_) : List AV := [.list 0 3 (x.Nodes.map ac_.cells)]
def ad_.wf (x : ad_) : Prop := (eW_ ac_.wf) x.Nodes ∧ True
def ad_.sz (x : ad_) : Nat := (an_ ac_.sz) x.Nodes
theorem ad_.sz_Nodes {x : ad_} {b : Nat} (h : ad_.sz x ≤ b) : (an_ ac_.sz) x.Nodes ≤ b := by unfold ad_.sz at h; omega
structure ab_ where
 Kind : Int
 Name : ByteArray
 Subs : List ByteArray
 Value : ByteArray
 N : Int
def ab_.cells (x : ab_) : List AV := [.val (.int .i64 x.Kind), .val (.string x.Name), .list 0 1 (x.Subs.map am_), .val (.string x.Value), .val (.int .i64 x.N)]
def ab_.wf (x : ab_) : Prop := i2_ x.Kind ∧ dt_ x.Name ∧ (eW_ dt_) x.Subs ∧ dt_ x.Value ∧ i2_ x.N ∧ True
def ab_.sz (x : ab_) : Nat := ByteArray.size x.Name + (an_ ByteArray.size) x.Subs + ByteArray.size x.Value
theorem ab_.sz_Name {x : ab_} {b : Nat} (h : ab_.sz x ≤ b) : ByteArray.size x.Name ≤ b := by unfold ab_.sz at h; omega
theorem ab_.sz_Subs {x : ab_} {b : Nat} (h : ab_.sz x ≤ b) : (an_ ByteArray.size) x.Subs ≤ b := by unfold ab_.sz at h; omega
theorem ab_.sz_Value {x : ab_} {b : Nat} (h : ab_.sz x ≤ b) : ByteArray.size x.Value ≤ b := by unfold ab_.sz at h; omega
structure av_ where
 Depth : Int
 Restarts : Int
 Events : List ab_
def av_.cells (x : av_) : List AV := [.val (.int .i64 x.Depth), .val (.int .i64 x.Restarts), .list 0 5 (x.Events.map ab_.cells)]
def av_.wf (x : av_) : Prop := i2_ x.Depth ∧ i2_ x.Restarts ∧ (eW_ ab_.wf) x.Events ∧ True
def av_.sz (x : av_) : Nat := (an_ ab_.sz) x.Events
theorem av_.sz_Events {x : av_} {b : Nat} (h : av_.sz x ≤ b) : (an_ ab_.sz) x.Events ≤ b := by unfold av_.sz at h; omega
structure az_ where
 Kind : Int
 Name : ByteArray
 Subs : List ByteArray
 Value : ByteArray
def az_.cells (x : az_) : List AV := [.val (.int .i64 x.Kind), .val (.string x.Name), .list 0 1 (x.Subs.map am_), .val (.string x.Value)]
def az_.wf (x : az_) : Prop := i2_ x.Kind ∧ dt_ x.Name ∧ (eW_ dt_) x.Subs ∧ dt_ x.Value ∧ True
def az_.sz (x : az_) : Nat := ByteArray.size x.Name + (an_ ByteArray.size) x.Subs + ByteArray.size x.Value
theorem az_.sz_Name {x : az_} {b : Nat} (h : az_.sz x ≤ b) : ByteArray.size x.Name ≤ b := by unfold az_.sz at h; omega
theorem az_.sz_Subs {x : az_} {b : Nat} (h : az_.sz x ≤ b) : (an_ ByteArray.size) x.Subs ≤ b := by unfold az_.sz at h; omega
theorem az_.sz_Value {x : az_} {b : Nat} (h : az_.sz x ≤ b) : ByteArray.size x.Value ≤ b := by unfold az_.sz at h; omega
theorem qh_ (W : World) : Rd prog W 9 am_ dt_ := uy_ (by kernel_rfl)
theorem AQ_ : ∃ i, prog.info? 9 = some i ∧ i.size = 1 := n6_ (by kernel_rfl)
theorem xK_ (W : World) : Rd prog W 28 (fun xs : List ByteArray => f3_ 1 am_ xs) (eW_ dt_) := by
 obtain ⟨i, h1, h2⟩ := AQ_
 exact mc_ (by kernel_rfl) h1 h2 (by decide) (fun _ => rfl) (qh_ W)
theorem pL_ : dl_ prog 92 0 = some (0, 9, 1) := by kernel_rfl
theorem uP_ : dl_ prog 92 1 = some (1, 28, 1) := by kernel_rfl
theorem u7_ : dl_ prog 92 2 = some (2, 9, 1) := by kernel_rfl
theorem Eg_ (W : World) : Rd prog W 92 ac_.cells ac_.wf := by
 intro H enc fuel cs d ps hr
 obtain ⟨fs, _, hfs, _⟩ := bH_ pL_
 have hcl : prog.cellsOf 92 = 3 := by kernel_rfl
 obtain ⟨xs, n, _, _, hlen, hxl, hall⟩ := DataW.trod_struct hfs hr
 rw [hcl] at hlen
 obtain ⟨fs0, f0, u0, v0, o0, y0, z0⟩ := bH_ pL_
 rw [hfs] at u0; simp only [Option.some.injEq, TypeDesc.struct.injEq] at u0; subst u0
 obtain ⟨x0, w0, r0⟩ := dq_ (sz := 1) hall hxl v0 o0 (by rw [y0]; exact z0) (by rw [y0]; exact qh_ W)
 obtain ⟨fs1, f1, u1, v1, o1, y1, z1⟩ := bH_ uP_
 rw [hfs] at u1; simp only [Option.some.injEq, TypeDesc.struct.injEq] at u1; subst u1
 obtain ⟨x1, w1, r1⟩ := dq_ (sz := 1) hall hxl v1 o1 (by rw [y1]; exact z1) (by rw [y1]; exact xK_ W)
 obtain ⟨fs2, f2, u2, v2, o2, y2, z2⟩ := bH_ u7_
 rw [hfs] at u2; simp only [Option.some.injEq, TypeDesc.struct.injEq] at u2; subst u2
 obtain ⟨x2, w2, r2⟩ := dq_ (sz := 1) hall hxl v2 o2 (by rw [y2]; exact z2) (by rw [y2]; exact qh_ W)
 refine ⟨⟨x0, x1, x2⟩, ⟨w0, w1, w2, trivial⟩, ?_⟩
 have s3 : ap_ (Sit.all W) [] (cs.drop 3) := ic_ _ (drop_eq_nil_of_le (by omega))
 have s2 : ap_ (Sit.all W) (am_ x2 ++ ([])) (cs.drop 2) := cI_ (o := 2) r2 s3
 have s1 : ap_ (Sit.all W) ((f3_ 1 am_) x1 ++ (am_ x2 ++ ([]))) (cs.drop 1) := cI_ (o := 1) r1 s2
 have s0 : ap_ (Sit.all W) (am_ x0 ++ ((f3_ 1 am_) x1 ++ (am_ x2 ++ ([])))) (cs.drop 0) := cI_ (o := 0) r0 s1
 rw [drop_zero] at s0
 exact s0
theorem yw_ : ∃ i, prog.info? 92 = some i ∧ i.size = 3 := n6_ (by kernel_rfl)
theorem D6_ (W : World) : Rd prog W 22 (fun xs : List ac_ => f3_ 3 ac_.cells xs) (eW_ ac_.wf) := by
 obtain ⟨i, h1, h2⟩ := yw_
 exact mc_ (by kernel_rfl) h1 h2 (by decide) (fun _ => rfl) (Eg_ W)
theorem mx_ : dl_ prog 24 0 = some (0, 22, 1) := by kernel_rfl
theorem Dy_ (W : World) : Rd prog W 24 ad_.cells ad_.wf := by
 intro H enc fuel cs d ps hr
 obtain ⟨fs, _, hfs, _⟩ := bH_ mx_
 have hcl : prog.cellsOf 24 = 1 := by kernel_rfl
 obtain ⟨xs, n, _, _, hlen, hxl, hall⟩ := DataW.trod_struct hfs hr
 rw [hcl] at hlen
 obtain ⟨fs0, f0, u0, v0, o0, y0, z0⟩ := bH_ mx_
 rw [hfs] at u0; simp only [Option.some.injEq, TypeDesc.struct.injEq] at u0; subst u0
 obtain ⟨x0, w0, r0⟩ := dq_ (sz := 1) hall hxl v0 o0 (by rw [y0]; exact z0) (by rw [y0]; exact D6_ W)
 refine ⟨⟨x0⟩, ⟨w0, trivial⟩, ?_⟩
 have s1 : ap_ (Sit.all W) [] (cs.drop 1) := ic_ _ (drop_eq_nil_of_le (by omega))
 have s0 : ap_ (Sit.all W) ((f3_ 3 ac_.cells) x0 ++ ([])) (cs.drop 0) := cI_ (o := 0) r0 s1
 rw [drop_zero] at s0
 exact s0
theorem sT_ (W : World) : Rd prog W 2 jo_ i2_ := Cc_ (by kernel_rfl)
theorem pJ_ : dl_ prog 30 0 = some (0, 2, 1) := by kernel_rfl
theorem vO_ : dl_ prog 30 1 = some (1, 9, 1) := by kernel_rfl
theorem vA_ : dl_ prog 30 2 = some (2, 28, 1) := by kernel_rfl
theorem uX_ : dl_ prog 30 3 = some (3, 9, 1) := by kernel_rfl
theorem vq_ : dl_ prog 30 4 = some (4, 2, 1) := by kernel_rfl
theorem Dm_ (W : World) : Rd prog W 30 ab_.cells ab_.wf := by
 intro H enc fuel cs d ps hr
 obtain ⟨fs, _, hfs, _⟩ := bH_ pJ_
 have hcl : prog.cellsOf 30 = 5 := by kernel_rfl
 obtain ⟨xs, n, _, _, hlen, hxl, hall⟩ := DataW.trod_struct hfs hr
 rw [hcl] at hlen
 obtain ⟨fs0, f0, u0, v0, o0, y0, z0⟩ := bH_ pJ_
 rw [hfs] at u0; simp only [Option.some.injEq, TypeDesc.struct.injEq] at u0; subst u0
 obtain ⟨x0, w0, r0⟩ := dq_ (sz := 1) hall hxl v0 o0 (by rw [y0]; exact z0) (by rw [y0]; exact sT_ W)
 obtain ⟨fs1, f1, u1, v1, o1, y1, z1⟩ := bH_ vO_
 rw [hfs] at u1; simp only [Option.some.injEq, TypeDesc.struct.injEq] at u1; subst u1
 obtain ⟨x1, w1, r1⟩ := dq_ (sz := 1) hall hxl v1 o1 (by rw [y1]; exact z1) (by rw [y1]; exact qh_ W)
 obtain ⟨fs2, f2, u2, v2, o2, y2, z2⟩ := bH_ vA_
 rw [hfs] at u2; simp only [Option.some.injEq, TypeDesc.struct.injEq] at u2; subst u2
 obtain ⟨x2, w2, r2⟩ := dq_ (sz := 1) hall hxl v2 o2 (by rw [y2]; exact z2) (by rw [y2]; exact xK_ W)
 obtain ⟨fs3, f3, u3, v3, o3, y3, z3⟩ := bH_ uX_
 rw [hfs] at u3; simp only [Option.some.injEq, TypeDesc.struct.injEq] at u3; subst u3
 obtain ⟨x3, w3, r3⟩ := dq_ (sz := 1) hall hxl v3 o3 (by rw [y3]; exact z3) (by rw [y3]; exact qh_ W)
 obtain ⟨fs4, f4, u4, v4, o4, y4, z4⟩ := bH_ vq_
 rw [hfs] at u4; simp only [Option.some.injEq, TypeDesc.struct.injEq] at u4; subst u4
 obtain ⟨x4, w4, r4⟩ := dq_ (sz := 1) hall hxl v4 o4 (by rw [y4]; exact z4) (by rw [y4]; exact sT_ W)
 refine ⟨⟨x0, x1, x2, x3, x4⟩, ⟨w0, w1, w2, w3, w4, trivial⟩, ?_⟩
 have s5 : ap_ (Sit.all W) [] (cs.drop 5) := ic_ _ (drop_eq_nil_of_le (by omega))
 have s4 : ap_ (Sit.all W) (jo_ x4 ++ ([])) (cs.drop 4) := cI_ (o := 4) r4 s5
 have s3 : ap_ (Sit.all W) (am_ x3 ++ (jo_ x4 ++ ([]))) (cs.drop 3) := cI_ (o := 3) r3 s4
 have s2 : ap_ (Sit.all W) ((f3_ 1 am_) x2 ++ (am_ x3 ++ (jo_ x4 ++ ([])))) (cs.drop 2) := cI_ (o := 2) r2 s3
 have s1 : ap_ (Sit.all W) (am_ x1 ++ ((f3_ 1 am_) x2 ++ (am_ x3 ++ (jo_ x4 ++ ([]))))) (cs.drop 1) := cI_ (o := 1) r1 s2
 have s0 : ap_ (Sit.all W) (jo_ x0 ++ (am_ x1 ++ ((f3_ 1 am_) x2 ++ (am_ x3 ++ (jo_ x4 ++ ([])))))) (cs.drop 0) := cI_ (o := 0) r0 s1
 rw [drop_zero] at s0
 exact s0
theorem ya_ : ∃ i, prog.info? 30 = some i ∧ i.size = 5 := n6_ (by kernel_rfl)
theorem DL_ (W : World) : Rd prog W 25 (fun xs : List ab_ => f3_ 5 ab_.cells xs) (eW_ ab_.wf) := by
 obtain ⟨i, h1, h2⟩ := ya_
 exact mc_ (by kernel_rfl) h1 h2 (by decide) (fun _ => rfl) (Dm_ W)
theorem mi_ : dl_ prog 27 0 = some (0, 2, 1) := by kernel_rfl
theorem vM_ : dl_ prog 27 1 = some (1, 2, 1) := by kernel_rfl
theorem vN_ : dl_ prog 27 2 = some (2, 25, 1) := by kernel_rfl
theorem DO_ (W : World) : Rd prog W 27 av_.cells av_.wf := by
 intro H enc fuel cs d ps hr
 obtain ⟨fs, _, hfs, _⟩ := bH_ mi_
 have hcl : prog.cellsOf 27 = 3 := by kernel_rfl
 obtain ⟨xs, n, _, _, hlen, hxl, hall⟩ := DataW.trod_struct hfs hr
 rw [hcl] at hlen
 obtain ⟨fs0, f0, u0, v0, o0, y0, z0⟩ := bH_ mi_
 rw [hfs] at u0; simp only [Option.some.injEq, TypeDesc.struct.injEq] at u0; subst u0
 obtain ⟨x0, w0, r0⟩ := dq_ (sz := 1) hall hxl v0 o0 (by rw [y0]; exact z0) (by rw [y0]; exact sT_ W)
 obtain ⟨fs1, f1, u1, v1, o1, y1, z1⟩ := bH_ vM_
 rw [hfs] at u1; simp only [Option.some.injEq, TypeDesc.struct.injEq] at u1; subst u1
 obtain ⟨x1, w1, r1⟩ := dq_ (sz := 1) hall hxl v1 o1 (by rw [y1]; exact z1) (by rw [y1]; exact sT_ W)
 obtain ⟨fs2, f2, u2, v2, o2, y2, z2⟩ := bH_ vN_
 rw [hfs] at u2; simp only [Option.some.injEq, TypeDesc.struct.injEq] at u2; subst u2
 obtain ⟨x2, w2, r2⟩ := dq_ (sz := 1) hall hxl v2 o2 (by rw [y2]; exact z2) (by rw [y2]; exact DL_ W)
 refine ⟨⟨x0, x1, x2⟩, ⟨w0, w1, w2, trivial⟩, ?_⟩
 have s3 : ap_ (Sit.all W) [] (cs.drop 3) := ic_ _ (drop_eq_nil_of_le (by omega))
 have s2 : ap_ (Sit.all W) ((f3_ 5 ab_.cells) x2 ++ ([])) (cs.drop 2) := cI_ (o := 2) r2 s3
 have s1 : ap_ (Sit.all W) (jo_ x1 ++ ((f3_ 5 ab_.cells) x2 ++ ([]))) (cs.drop 1) := cI_ (o := 1) r1 s2
 have s0 : ap_ (Sit.all W) (jo_ x0 ++ (jo_ x1 ++ ((f3_ 5 ab_.cells) x2 ++ ([])))) (cs.drop 0) := cI_ (o := 0) r0 s1
 rw [drop_zero] at s0
 exact s0
theorem mixed : Tryz.prog.follows .mixedOrders = true := by kernel_rfl
end Go.Proofs.YtfkddbkjmkceaaaGreatDoor
