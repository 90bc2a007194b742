/-
 The data types of the laws arguments, and that the arguments of a row, read as data, are such data. No conditions.
-/
import Derived.Test.YtfplhbjggecnpaaGreatDoorProg
import Derived.Test.YtfplhbjggecnpaaGreatDoorAwB
import Derived.KernelRfl
namespace Go.Proofs.YtfplhbjggecnpaaGreatDoor
open List
open Go.AW
set_option linter.unusedVariables false
structure ac_ where
 Name : ByteArray
 Subs : List ByteArray
 Value : ByteArray
def ac_.cells (x : ac_) : List AV := [.val (.string x.Name), .list 0 1 (x.Subs.map am_), .val (.string x.Value)]
def ac_.wf (x : ac_) : Prop := dt_ x.Name ∧ (dp_ dt_) x.Subs ∧ dt_ x.Value ∧ True
def ac_.sz (x : ac_) : Nat := ByteArray.size x.Name + (ao_ ByteArray.size) x.Subs + ByteArray.size x.Value
theorem ac_.sz_Name {x : ac_} {b : Nat} (h : ac_.sz x ≤ b) : ByteArray.size x.Name ≤ b := by unfold ac_.sz at h; omega
theorem ac_.sz_Subs {x : ac_} {b : Nat} (h : ac_.sz x ≤ b) : (ao_ ByteArray.size) x.Subs ≤ b := by unfold ac_.sz at h; omega
theorem ac_.sz_Value {x : ac_} {b : Nat} (h : ac_.sz x ≤ b) : ByteArray.size x.Value ≤ b := by unfold ac_.sz at h; omega
structure ad_ where
 Nodes : List ac_
def ad_.cells (x : ad_) : List AV := [.list 0 3 (x.Nodes.map ac_.cells)]
def ad_.wf (x : ad_) : Prop := (dp_ ac_.wf) x.Nodes ∧ True
def ad_.sz (x : ad_) : Nat := (ao_ ac_.sz) x.Nodes
theorem ad_.sz_Nodes {x : ad_} {b : Nat} (h : ad_.sz x ≤ b) : (ao_ ac_.sz) x.Nodes ≤ b := by unfold ad_.sz at h; omega
structure ab_ where
 Kind : Int
 Name : ByteArray
 Subs : List ByteArray
 Value : ByteArray
 N : Int
def ab_.cells (x : ab_) : List AV := [.val (.int .i64 x.Kind), .val (.string x.Name), .list 0 1 (x.Subs.map am_), .val (.string x.Value), .val (.int .i64 x.N)]
def ab_.wf (x : ab_) : Prop := g6_ x.Kind ∧ dt_ x.Name ∧ (dp_ dt_) x.Subs ∧ dt_ x.Value ∧ g6_ x.N ∧ True
def ab_.sz (x : ab_) : Nat := ByteArray.size x.Name + (ao_ ByteArray.size) x.Subs + ByteArray.size x.Value
theorem ab_.sz_Name {x : ab_} {b : Nat} (h : ab_.sz x ≤ b) : ByteArray.size x.Name ≤ b := by unfold ab_.sz at h; omega
theorem ab_.sz_Subs {x : ab_} {b : Nat} (h : ab_.sz x ≤ b) : (ao_ ByteArray.size) x.Subs ≤ b := by unfold ab_.sz at h; omega
theorem ab_.sz_Value {x : ab_} {b : Nat} (h : ab_.sz x ≤ b) : ByteArray.size x.Value ≤ b := by unfold ab_.sz at h; omega
structure fJ_ where
 Depth : Int
 Restarts : Int
 Events : List ab_
def fJ_.cells (x : fJ_) : List AV := [.val (.int .i64 x.Depth), .val (.int .i64 x.Restarts), .list 0 5 (x.Events.map ab_.cells)]
def fJ_.wf (x : fJ_) : Prop := g6_ x.Depth ∧ g6_ x.Restarts ∧ (dp_ ab_.wf) x.Events ∧ True
def fJ_.sz (x : fJ_) : Nat := (ao_ ab_.sz) x.Events
theorem fJ_.sz_Events {x : fJ_} {b : Nat} (h : fJ_.sz x ≤ b) : (ao_ ab_.sz) x.Events ≤ b := by unfold fJ_.sz at h; omega
structure ah_ where
 Job : Int
 Events : List ab_
def ah_.cells (x : ah_) : List AV := [.val (.int .i64 x.Job), .list 0 5 (x.Events.map ab_.cells)]
def ah_.wf (x : ah_) : Prop := g6_ x.Job ∧ (dp_ ab_.wf) x.Events ∧ True
def ah_.sz (x : ah_) : Nat := (ao_ ab_.sz) x.Events
theorem ah_.sz_Events {x : ah_} {b : Nat} (h : ah_.sz x ≤ b) : (ao_ ab_.sz) x.Events ≤ b := by unfold ah_.sz at h; omega
structure jf_ where
 Job : Int
 Event : ab_
def jf_.cells (x : jf_) : List AV := [.val (.int .i64 x.Job), .val (.int .i64 x.Event.Kind), .val (.string x.Event.Name), .list 0 1 (x.Event.Subs.map am_), .val (.string x.Event.Value), .val (.int .i64 x.Event.N)]
def jf_.wf (x : jf_) : Prop := g6_ x.Job ∧ ab_.wf x.Event ∧ True
def jf_.sz (x : jf_) : Nat := ab_.sz x.Event
structure a6_ where
 Kind : Int
 Name : ByteArray
 Subs : List ByteArray
 Value : ByteArray
def a6_.cells (x : a6_) : List AV := [.val (.int .i64 x.Kind), .val (.string x.Name), .list 0 1 (x.Subs.map am_), .val (.string x.Value)]
def a6_.wf (x : a6_) : Prop := g6_ x.Kind ∧ dt_ x.Name ∧ (dp_ dt_) x.Subs ∧ dt_ x.Value ∧ True
def a6_.sz (x : a6_) : Nat := ByteArray.size x.Name + (ao_ ByteArray.size) x.Subs + ByteArray.size x.Value
theorem a6_.sz_Name {x : a6_} {b : Nat} (h : a6_.sz x ≤ b) : ByteArray.size x.Name ≤ b := by unfold a6_.sz at h; omega
theorem a6_.sz_Subs {x : a6_} {b : Nat} (h : a6_.sz x ≤ b) : (ao_ ByteArray.size) x.Subs ≤ b := by unfold a6_.sz at h; omega
theorem a6_.sz_Value {x : a6_} {b : Nat} (h : a6_.sz x ≤ b) : ByteArray.size x.Value ≤ b := by unfold a6_.sz at h; omega
theorem pe_ (W : World) : Rd Tryz.prog W 9 am_ dt_ := tu_ (by kernel_rfl)
theorem zC_ : ∃ i, Tryz.prog.info? 9 = some i ∧ i.size = 1 := le_ (by kernel_rfl)
theorem xQ_ (W : World) : Rd Tryz.prog W 72 (fun xs : List ByteArray => fP_ 1 am_ xs) (dp_ dt_) := by
 obtain ⟨i, h1, h2⟩ := zC_
 exact jD_ (by kernel_rfl) h1 h2 (by decide) (fun _ => rfl) (pe_ W)
theorem ou_ : dB_ Tryz.prog 111 0 = some (0, 9, 1) := by kernel_rfl
theorem tW_ : dB_ Tryz.prog 111 1 = some (1, 72, 1) := by kernel_rfl
theorem tn_ : dB_ Tryz.prog 111 2 = some (2, 9, 1) := by kernel_rfl
theorem AH_ (W : World) : Rd Tryz.prog W 111 ac_.cells ac_.wf := by
 intro H enc fuel cs d ps hr
 obtain ⟨fs, _, hfs, _⟩ := bB_ ou_
 have hcl : Tryz.prog.cellsOf 111 = 3 := by kernel_rfl
 obtain ⟨xs, n, _, _, hlen, hxl, hall⟩ := DataW.trod_struct hfs hr
 rw [hcl] at hlen
 obtain ⟨fs0, f0, u0, v0, o0, y0, z0⟩ := bB_ ou_
 rw [hfs] at u0; simp only [Option.some.injEq, TypeDesc.struct.injEq] at u0; subst u0
 obtain ⟨x0, w0, r0⟩ := dH_ (sz := 1) hall hxl v0 o0 (by rw [y0]; exact z0) (by rw [y0]; exact pe_ W)
 obtain ⟨fs1, f1, u1, v1, o1, y1, z1⟩ := bB_ tW_
 rw [hfs] at u1; simp only [Option.some.injEq, TypeDesc.struct.injEq] at u1; subst u1
 obtain ⟨x1, w1, r1⟩ := dH_ (sz := 1) hall hxl v1 o1 (by rw [y1]; exact z1) (by rw [y1]; exact xQ_ W)
 obtain ⟨fs2, f2, u2, v2, o2, y2, z2⟩ := bB_ tn_
 rw [hfs] at u2; simp only [Option.some.injEq, TypeDesc.struct.injEq] at u2; subst u2
 obtain ⟨x2, w2, r2⟩ := dH_ (sz := 1) hall hxl v2 o2 (by rw [y2]; exact z2) (by rw [y2]; exact pe_ W)
 refine ⟨⟨x0, x1, x2⟩, ⟨w0, w1, w2, trivial⟩, ?_⟩
 have s3 : as_ (Sit.all W) [] (cs.drop 3) := hS_ _ (drop_eq_nil_of_le (by omega))
 have s2 : as_ (Sit.all W) (am_ x2 ++ ([])) (cs.drop 2) := cX_ (o := 2) r2 s3
 have s1 : as_ (Sit.all W) ((fP_ 1 am_) x1 ++ (am_ x2 ++ ([]))) (cs.drop 1) := cX_ (o := 1) r1 s2
 have s0 : as_ (Sit.all W) (am_ x0 ++ ((fP_ 1 am_) x1 ++ (am_ x2 ++ ([])))) (cs.drop 0) := cX_ (o := 0) r0 s1
 rw [drop_zero] at s0
 exact s0
theorem vx_ : ∃ i, Tryz.prog.info? 111 = some i ∧ i.size = 3 := le_ (by kernel_rfl)
theorem DC_ (W : World) : Rd Tryz.prog W 22 (fun xs : List ac_ => fP_ 3 ac_.cells xs) (dp_ ac_.wf) := by
 obtain ⟨i, h1, h2⟩ := vx_
 exact jD_ (by kernel_rfl) h1 h2 (by decide) (fun _ => rfl) (AH_ W)
theorem lT_ : dB_ Tryz.prog 24 0 = some (0, 22, 1) := by kernel_rfl
theorem DK_ (W : World) : Rd Tryz.prog W 24 ad_.cells ad_.wf := by
 intro H enc fuel cs d ps hr
 obtain ⟨fs, _, hfs, _⟩ := bB_ lT_
 have hcl : Tryz.prog.cellsOf 24 = 1 := by kernel_rfl
 obtain ⟨xs, n, _, _, hlen, hxl, hall⟩ := DataW.trod_struct hfs hr
 rw [hcl] at hlen
 obtain ⟨fs0, f0, u0, v0, o0, y0, z0⟩ := bB_ lT_
 rw [hfs] at u0; simp only [Option.some.injEq, TypeDesc.struct.injEq] at u0; subst u0
 obtain ⟨x0, w0, r0⟩ := dH_ (sz := 1) hall hxl v0 o0 (by rw [y0]; exact z0) (by rw [y0]; exact DC_ W)
 refine ⟨⟨x0⟩, ⟨w0, trivial⟩, ?_⟩
 have s1 : as_ (Sit.all W) [] (cs.drop 1) := hS_ _ (drop_eq_nil_of_le (by omega))
 have s0 : as_ (Sit.all W) ((fP_ 3 ac_.cells) x0 ++ ([])) (cs.drop 0) := cX_ (o := 0) r0 s1
 rw [drop_zero] at s0
 exact s0
theorem uv_ (W : World) : Rd Tryz.prog W 2 k4_ g6_ := Aq_ (by kernel_rfl)
theorem p0_ : dB_ Tryz.prog 74 0 = some (0, 2, 1) := by kernel_rfl
theorem vg_ : dB_ Tryz.prog 74 1 = some (1, 9, 1) := by kernel_rfl
theorem vm_ : dB_ Tryz.prog 74 2 = some (2, 72, 1) := by kernel_rfl
theorem uY_ : dB_ Tryz.prog 74 3 = some (3, 9, 1) := by kernel_rfl
theorem vd_ : dB_ Tryz.prog 74 4 = some (4, 2, 1) := by kernel_rfl
theorem DX_ (W : World) : Rd Tryz.prog W 74 ab_.cells ab_.wf := by
 intro H enc fuel cs d ps hr
 obtain ⟨fs, _, hfs, _⟩ := bB_ p0_
 have hcl : Tryz.prog.cellsOf 74 = 5 := by kernel_rfl
 obtain ⟨xs, n, _, _, hlen, hxl, hall⟩ := DataW.trod_struct hfs hr
 rw [hcl] at hlen
 obtain ⟨fs0, f0, u0, v0, o0, y0, z0⟩ := bB_ p0_
 rw [hfs] at u0; simp only [Option.some.injEq, TypeDesc.struct.injEq] at u0; subst u0
 obtain ⟨x0, w0, r0⟩ := dH_ (sz := 1) hall hxl v0 o0 (by rw [y0]; exact z0) (by rw [y0]; exact uv_ W)
 obtain ⟨fs1, f1, u1, v1, o1, y1, z1⟩ := bB_ vg_
 rw [hfs] at u1; simp only [Option.some.injEq, TypeDesc.struct.injEq] at u1; subst u1
 obtain ⟨x1, w1, r1⟩ := dH_ (sz := 1) hall hxl v1 o1 (by rw [y1]; exact z1) (by rw [y1]; exact pe_ W)
 obtain ⟨fs2, f2, u2, v2, o2, y2, z2⟩ := bB_ vm_
 rw [hfs] at u2; simp only [Option.some.injEq, TypeDesc.struct.injEq] at u2; subst u2
 obtain ⟨x2, w2, r2⟩ := dH_ (sz := 1) hall hxl v2 o2 (by rw [y2]; exact z2) (by rw [y2]; exact xQ_ W)
 obtain ⟨fs3, f3, u3, v3, o3, y3, z3⟩ := bB_ uY_
 rw [hfs] at u3; simp only [Option.some.injEq, TypeDesc.struct.injEq] at u3; subst u3
 obtain ⟨x3, w3, r3⟩ := dH_ (sz := 1) hall hxl v3 o3 (by rw [y3]; exact z3) (by rw [y3]; exact pe_ W)
 obtain ⟨fs4, f4, u4, v4, o4, y4, z4⟩ := bB_ vd_
 rw [hfs] at u4; simp only [Option.some.injEq, TypeDesc.struct.injEq] at u4; subst u4
 obtain ⟨x4, w4, r4⟩ := dH_ (sz := 1) hall hxl v4 o4 (by rw [y4]; exact z4) (by rw [y4]; exact uv_ W)
 refine ⟨⟨x0, x1, x2, x3, x4⟩, ⟨w0, w1, w2, w3, w4, trivial⟩, ?_⟩
 have s5 : as_ (Sit.all W) [] (cs.drop 5) := hS_ _ (drop_eq_nil_of_le (by omega))
 have s4 : as_ (Sit.all W) (k4_ x4 ++ ([])) (cs.drop 4) := cX_ (o := 4) r4 s5
 have s3 : as_ (Sit.all W) (am_ x3 ++ (k4_ x4 ++ ([]))) (cs.drop 3) := cX_ (o := 3) r3 s4
 have s2 : as_ (Sit.all W) ((fP_ 1 am_) x2 ++ (am_ x3 ++ (k4_ x4 ++ ([])))) (cs.drop 2) := cX_ (o := 2) r2 s3
 have s1 : as_ (Sit.all W) (am_ x1 ++ ((fP_ 1 am_) x2 ++ (am_ x3 ++ (k4_ x4 ++ ([]))))) (cs.drop 1) := cX_ (o := 1) r1 s2
 have s0 : as_ (Sit.all W) (k4_ x0 ++ (am_ x1 ++ ((fP_ 1 am_) x2 ++ (am_ x3 ++ (k4_ x4 ++ ([])))))) (cs.drop 0) := cX_ (o := 0) r0 s1
 rw [drop_zero] at s0
 exact s0
theorem yI_ : ∃ i, Tryz.prog.info? 74 = some i ∧ i.size = 5 := le_ (by kernel_rfl)
theorem Ez_ (W : World) : Rd Tryz.prog W 25 (fun xs : List ab_ => fP_ 5 ab_.cells xs) (dp_ ab_.wf) := by
 obtain ⟨i, h1, h2⟩ := yI_
 exact jD_ (by kernel_rfl) h1 h2 (by decide) (fun _ => rfl) (DX_ W)
theorem qj_ : dB_ Tryz.prog 89 0 = some (0, 2, 1) := by kernel_rfl
theorem ve_ : dB_ Tryz.prog 89 1 = some (1, 25, 1) := by kernel_rfl
theorem Eh_ (W : World) : Rd Tryz.prog W 89 ah_.cells ah_.wf := by
 intro H enc fuel cs d ps hr
 obtain ⟨fs, _, hfs, _⟩ := bB_ qj_
 have hcl : Tryz.prog.cellsOf 89 = 2 := by kernel_rfl
 obtain ⟨xs, n, _, _, hlen, hxl, hall⟩ := DataW.trod_struct hfs hr
 rw [hcl] at hlen
 obtain ⟨fs0, f0, u0, v0, o0, y0, z0⟩ := bB_ qj_
 rw [hfs] at u0; simp only [Option.some.injEq, TypeDesc.struct.injEq] at u0; subst u0
 obtain ⟨x0, w0, r0⟩ := dH_ (sz := 1) hall hxl v0 o0 (by rw [y0]; exact z0) (by rw [y0]; exact uv_ W)
 obtain ⟨fs1, f1, u1, v1, o1, y1, z1⟩ := bB_ ve_
 rw [hfs] at u1; simp only [Option.some.injEq, TypeDesc.struct.injEq] at u1; subst u1
 obtain ⟨x1, w1, r1⟩ := dH_ (sz := 1) hall hxl v1 o1 (by rw [y1]; exact z1) (by rw [y1]; exact Ez_ W)
 refine ⟨⟨x0, x1⟩, ⟨w0, w1, trivial⟩, ?_⟩
 have s2 : as_ (Sit.all W) [] (cs.drop 2) := hS_ _ (drop_eq_nil_of_le (by omega))
 have s1 : as_ (Sit.all W) ((fP_ 5 ab_.cells) x1 ++ ([])) (cs.drop 1) := cX_ (o := 1) r1 s2
 have s0 : as_ (Sit.all W) (k4_ x0 ++ ((fP_ 5 ab_.cells) x1 ++ ([]))) (cs.drop 0) := cX_ (o := 0) r0 s1
 rw [drop_zero] at s0
 exact s0
theorem yP_ : ∃ i, Tryz.prog.info? 89 = some i ∧ i.size = 2 := le_ (by kernel_rfl)
theorem DE_ (W : World) : Rd Tryz.prog W 41 (fun xs : List ah_ => fP_ 2 ah_.cells xs) (dp_ ah_.wf) := by
 obtain ⟨i, h1, h2⟩ := yP_
 exact jD_ (by kernel_rfl) h1 h2 (by decide) (fun _ => rfl) (Eh_ W)
theorem mixed : Tryz.prog.follows .mixedOrders = true := by kernel_rfl
end Go.Proofs.YtfplhbjggecnpaaGreatDoor
