/-
 The data types of the laws arguments, and that the arguments of a row, read as data, are such data. No conditions.
-/
import Derived.Test.YthahmhkbcdpkjabGreatDoorProg
import Derived.Test.YthahmhkbcdpkjabGreatDoorAwB
import Derived.KernelRfl
namespace Go.Proofs.YthahmhkbcdpkjabGreatDoor
open Tryz (prog)
open List
open Go.AW
set_option linter.unusedVariables false
structure ao_ where
 At : Int
 Bytes : ByteArray
def ao_.cells (x : ao_) : List AV := [.val (.int .i64 x.At), .val (.string x.Bytes)]
def ao_.wf (x : ao_) : Prop := go_ x.At ∧ do_ x.Bytes ∧ True
def ao_.sz (x : ao_) : Nat := ByteArray.size x.Bytes
structure aq_ where
 Wide : Int
 Sectors : List ByteArray
 Puts : List ao_
def aq_.cells (x : aq_) : List AV := [.val (.int .i64 x.Wide), .list 0 1 (x.Sectors.map ax_), .list 0 2 (x.Puts.map ao_.cells)]
def aq_.wf (x : aq_) : Prop := go_ x.Wide ∧ (eb_ do_) x.Sectors ∧ (eb_ ao_.wf) x.Puts ∧ True
def aq_.sz (x : aq_) : Nat := (ar_ ByteArray.size) x.Sectors + (ar_ ao_.sz) x.Puts
theorem aq_.sz_Sectors {x : aq_} {b : Nat} (h : aq_.sz x ≤ b) : (ar_ ByteArray.size) x.Sectors ≤ b := by unfold aq_.sz at h; omega
theorem aq_.sz_Puts {x : aq_} {b : Nat} (h : aq_.sz x ≤ b) : (ar_ ao_.sz) x.Puts ≤ b := by unfold aq_.sz at h; omega
structure ac_ where
 Disk : aq_
 Life : Int
 From : Int
 Last : Int
 At : Int
def ac_.cells (x : ac_) : List AV := [.val (.int .i64 x.Disk.Wide), .list 0 1 (x.Disk.Sectors.map ax_), .list 0 2 (x.Disk.Puts.map ao_.cells), .val (.int .i64 x.Life), .val (.int .i64 x.From), .val (.int .i64 x.Last), .val (.int .i64 x.At)]
def ac_.wf (x : ac_) : Prop := aq_.wf x.Disk ∧ go_ x.Life ∧ go_ x.From ∧ go_ x.Last ∧ go_ x.At ∧ True
def ac_.sz (x : ac_) : Nat := aq_.sz x.Disk
theorem ac_.sz_Disk {x : ac_} {b : Nat} (h : ac_.sz x ≤ b) : aq_.sz x.Disk ≤ b := by unfold ac_.sz at h; omega
structure ab_ where
 Name : ByteArray
 Subs : List ByteArray
 Had : Bool
 Was : ByteArray
 Has : Bool
 Is : ByteArray
def ab_.cells (x : ab_) : List AV := [.val (.string x.Name), .list 0 1 (x.Subs.map ax_), .val (.bool x.Had), .val (.string x.Was), .val (.bool x.Has), .val (.string x.Is)]
def ab_.wf (x : ab_) : Prop := do_ x.Name ∧ (eb_ do_) x.Subs ∧ (fun _ : Bool => True) x.Had ∧ do_ x.Was ∧ (fun _ : Bool => True) x.Has ∧ do_ x.Is ∧ True
def ab_.sz (x : ab_) : Nat := ByteArray.size x.Name + (ar_ ByteArray.size) x.Subs + ByteArray.size x.Was + ByteArray.size x.Is
theorem ab_.sz_Name {x : ab_} {b : Nat} (h : ab_.sz x ≤ b) : ByteArray.size x.Name ≤ b := by unfold ab_.sz at h; omega
theorem ab_.sz_Subs {x : ab_} {b : Nat} (h : ab_.sz x ≤ b) : (ar_ ByteArray.size) x.Subs ≤ b := by unfold ab_.sz at h; omega
theorem k1_ (W : World) : Rd prog W 2 eh_ go_ := wk_ (by kernel_rfl)
theorem ne_ (W : World) : Rd prog W 9 ax_ do_ := qP_ (by kernel_rfl)
theorem mU_ : b3_ prog 86 0 = some (0, 2, 1) := by kernel_rfl
theorem rg_ : b3_ prog 86 1 = some (1, 9, 1) := by kernel_rfl
theorem wB_ (W : World) : Rd prog W 86 ao_.cells ao_.wf := by
 intro H enc fuel cs d ps hr
 obtain ⟨fs, _, hfs, _⟩ := a1_ mU_
 have hcl : prog.cellsOf 86 = 2 := by kernel_rfl
 obtain ⟨xs, n, _, _, hlen, hxl, hall⟩ := DataW.trod_struct hfs hr
 rw [hcl] at hlen
 obtain ⟨fs0, f0, u0, v0, o0, y0, z0⟩ := a1_ mU_
 rw [hfs] at u0; simp only [Option.some.injEq, TypeDesc.struct.injEq] at u0; subst u0
 obtain ⟨x0, w0, r0⟩ := bZ_ (sz := 1) hall hxl v0 o0 (by rw [y0]; exact z0) (by rw [y0]; exact k1_ W)
 obtain ⟨fs1, f1, u1, v1, o1, y1, z1⟩ := a1_ rg_
 rw [hfs] at u1; simp only [Option.some.injEq, TypeDesc.struct.injEq] at u1; subst u1
 obtain ⟨x1, w1, r1⟩ := bZ_ (sz := 1) hall hxl v1 o1 (by rw [y1]; exact z1) (by rw [y1]; exact ne_ W)
 refine ⟨⟨x0, x1⟩, ⟨w0, w1, trivial⟩, ?_⟩
 have s2 : af_ (Sit.all W) [] (cs.drop 2) := gT_ _ (drop_eq_nil_of_le (by omega))
 have s1 : af_ (Sit.all W) (ax_ x1 ++ ([])) (cs.drop 1) := bB_ (o := 1) r1 s2
 have s0 : af_ (Sit.all W) (eh_ x0 ++ (ax_ x1 ++ ([]))) (cs.drop 0) := bB_ (o := 0) r0 s1
 rw [drop_zero] at s0
 exact s0
theorem ws_ : ∃ i, prog.info? 9 = some i ∧ i.size = 1 := lt_ (by kernel_rfl)
theorem sO_ (W : World) : Rd prog W 22 (fun xs : List ByteArray => fO_ 1 ax_ xs) (eb_ do_) := by
 obtain ⟨i, h1, h2⟩ := ws_
 exact jS_ (by kernel_rfl) h1 h2 (by decide) (fun _ => rfl) (ne_ W)
theorem s9_ : ∃ i, prog.info? 86 = some i ∧ i.size = 2 := lt_ (by kernel_rfl)
theorem xe_ (W : World) : Rd prog W 23 (fun xs : List ao_ => fO_ 2 ao_.cells xs) (eb_ ao_.wf) := by
 obtain ⟨i, h1, h2⟩ := s9_
 exact jS_ (by kernel_rfl) h1 h2 (by decide) (fun _ => rfl) (wB_ W)
theorem nC_ : b3_ prog 25 0 = some (0, 2, 1) := by kernel_rfl
theorem q5_ : b3_ prog 25 1 = some (1, 22, 1) := by kernel_rfl
theorem q3_ : b3_ prog 25 2 = some (2, 23, 1) := by kernel_rfl
theorem wV_ (W : World) : Rd prog W 25 aq_.cells aq_.wf := by
 intro H enc fuel cs d ps hr
 obtain ⟨fs, _, hfs, _⟩ := a1_ nC_
 have hcl : prog.cellsOf 25 = 3 := by kernel_rfl
 obtain ⟨xs, n, _, _, hlen, hxl, hall⟩ := DataW.trod_struct hfs hr
 rw [hcl] at hlen
 obtain ⟨fs0, f0, u0, v0, o0, y0, z0⟩ := a1_ nC_
 rw [hfs] at u0; simp only [Option.some.injEq, TypeDesc.struct.injEq] at u0; subst u0
 obtain ⟨x0, w0, r0⟩ := bZ_ (sz := 1) hall hxl v0 o0 (by rw [y0]; exact z0) (by rw [y0]; exact k1_ W)
 obtain ⟨fs1, f1, u1, v1, o1, y1, z1⟩ := a1_ q5_
 rw [hfs] at u1; simp only [Option.some.injEq, TypeDesc.struct.injEq] at u1; subst u1
 obtain ⟨x1, w1, r1⟩ := bZ_ (sz := 1) hall hxl v1 o1 (by rw [y1]; exact z1) (by rw [y1]; exact sO_ W)
 obtain ⟨fs2, f2, u2, v2, o2, y2, z2⟩ := a1_ q3_
 rw [hfs] at u2; simp only [Option.some.injEq, TypeDesc.struct.injEq] at u2; subst u2
 obtain ⟨x2, w2, r2⟩ := bZ_ (sz := 1) hall hxl v2 o2 (by rw [y2]; exact z2) (by rw [y2]; exact xe_ W)
 refine ⟨⟨x0, x1, x2⟩, ⟨w0, w1, w2, trivial⟩, ?_⟩
 have s3 : af_ (Sit.all W) [] (cs.drop 3) := gT_ _ (drop_eq_nil_of_le (by omega))
 have s2 : af_ (Sit.all W) ((fO_ 2 ao_.cells) x2 ++ ([])) (cs.drop 2) := bB_ (o := 2) r2 s3
 have s1 : af_ (Sit.all W) ((fO_ 1 ax_) x1 ++ ((fO_ 2 ao_.cells) x2 ++ ([]))) (cs.drop 1) := bB_ (o := 1) r1 s2
 have s0 : af_ (Sit.all W) (eh_ x0 ++ ((fO_ 1 ax_) x1 ++ ((fO_ 2 ao_.cells) x2 ++ ([])))) (cs.drop 0) := bB_ (o := 0) r0 s1
 rw [drop_zero] at s0
 exact s0
theorem jG_ : b3_ prog 27 0 = some (0, 25, 3) := by kernel_rfl
theorem rh_ : b3_ prog 27 1 = some (3, 2, 1) := by kernel_rfl
theorem rs_ : b3_ prog 27 2 = some (4, 2, 1) := by kernel_rfl
theorem rn_ : b3_ prog 27 3 = some (5, 2, 1) := by kernel_rfl
theorem rJ_ : b3_ prog 27 4 = some (6, 2, 1) := by kernel_rfl
theorem wI_ (W : World) : Rd prog W 27 ac_.cells ac_.wf := by
 intro H enc fuel cs d ps hr
 obtain ⟨fs, _, hfs, _⟩ := a1_ jG_
 have hcl : prog.cellsOf 27 = 7 := by kernel_rfl
 obtain ⟨xs, n, _, _, hlen, hxl, hall⟩ := DataW.trod_struct hfs hr
 rw [hcl] at hlen
 obtain ⟨fs0, f0, u0, v0, o0, y0, z0⟩ := a1_ jG_
 rw [hfs] at u0; simp only [Option.some.injEq, TypeDesc.struct.injEq] at u0; subst u0
 obtain ⟨x0, w0, r0⟩ := bZ_ (sz := 3) hall hxl v0 o0 (by rw [y0]; exact z0) (by rw [y0]; exact wV_ W)
 obtain ⟨fs1, f1, u1, v1, o1, y1, z1⟩ := a1_ rh_
 rw [hfs] at u1; simp only [Option.some.injEq, TypeDesc.struct.injEq] at u1; subst u1
 obtain ⟨x1, w1, r1⟩ := bZ_ (sz := 1) hall hxl v1 o1 (by rw [y1]; exact z1) (by rw [y1]; exact k1_ W)
 obtain ⟨fs2, f2, u2, v2, o2, y2, z2⟩ := a1_ rs_
 rw [hfs] at u2; simp only [Option.some.injEq, TypeDesc.struct.injEq] at u2; subst u2
 obtain ⟨x2, w2, r2⟩ := bZ_ (sz := 1) hall hxl v2 o2 (by rw [y2]; exact z2) (by rw [y2]; exact k1_ W)
 obtain ⟨fs3, f3, u3, v3, o3, y3, z3⟩ := a1_ rn_
 rw [hfs] at u3; simp only [Option.some.injEq, TypeDesc.struct.injEq] at u3; subst u3
 obtain ⟨x3, w3, r3⟩ := bZ_ (sz := 1) hall hxl v3 o3 (by rw [y3]; exact z3) (by rw [y3]; exact k1_ W)
 obtain ⟨fs4, f4, u4, v4, o4, y4, z4⟩ := a1_ rJ_
 rw [hfs] at u4; simp only [Option.some.injEq, TypeDesc.struct.injEq] at u4; subst u4
 obtain ⟨x4, w4, r4⟩ := bZ_ (sz := 1) hall hxl v4 o4 (by rw [y4]; exact z4) (by rw [y4]; exact k1_ W)
 refine ⟨⟨x0, x1, x2, x3, x4⟩, ⟨w0, w1, w2, w3, w4, trivial⟩, ?_⟩
 have s5 : af_ (Sit.all W) [] (cs.drop 7) := gT_ _ (drop_eq_nil_of_le (by omega))
 have s4 : af_ (Sit.all W) (eh_ x4 ++ ([])) (cs.drop 6) := bB_ (o := 6) r4 s5
 have s3 : af_ (Sit.all W) (eh_ x3 ++ (eh_ x4 ++ ([]))) (cs.drop 5) := bB_ (o := 5) r3 s4
 have s2 : af_ (Sit.all W) (eh_ x2 ++ (eh_ x3 ++ (eh_ x4 ++ ([])))) (cs.drop 4) := bB_ (o := 4) r2 s3
 have s1 : af_ (Sit.all W) (eh_ x1 ++ (eh_ x2 ++ (eh_ x3 ++ (eh_ x4 ++ ([]))))) (cs.drop 3) := bB_ (o := 3) r1 s2
 have s0 : af_ (Sit.all W) (aq_.cells x0 ++ (eh_ x1 ++ (eh_ x2 ++ (eh_ x3 ++ (eh_ x4 ++ ([])))))) (cs.drop 0) := bB_ (o := 0) r0 s1
 rw [drop_zero] at s0
 exact s0
theorem u7_ (W : World) : Rd prog W 4 gi_ (fun _ : Bool => True) := tu_ (by kernel_rfl)
theorem nn_ : b3_ prog 49 0 = some (0, 9, 1) := by kernel_rfl
theorem ry_ : b3_ prog 49 1 = some (1, 22, 1) := by kernel_rfl
theorem rx_ : b3_ prog 49 2 = some (2, 4, 1) := by kernel_rfl
theorem rU_ : b3_ prog 49 3 = some (3, 9, 1) := by kernel_rfl
theorem ro_ : b3_ prog 49 4 = some (4, 4, 1) := by kernel_rfl
theorem sp_ : b3_ prog 49 5 = some (5, 9, 1) := by kernel_rfl
theorem w6_ (W : World) : Rd prog W 49 ab_.cells ab_.wf := by
 intro H enc fuel cs d ps hr
 obtain ⟨fs, _, hfs, _⟩ := a1_ nn_
 have hcl : prog.cellsOf 49 = 6 := by kernel_rfl
 obtain ⟨xs, n, _, _, hlen, hxl, hall⟩ := DataW.trod_struct hfs hr
 rw [hcl] at hlen
 obtain ⟨fs0, f0, u0, v0, o0, y0, z0⟩ := a1_ nn_
 rw [hfs] at u0; simp only [Option.some.injEq, TypeDesc.struct.injEq] at u0; subst u0
 obtain ⟨x0, w0, r0⟩ := bZ_ (sz := 1) hall hxl v0 o0 (by rw [y0]; exact z0) (by rw [y0]; exact ne_ W)
 obtain ⟨fs1, f1, u1, v1, o1, y1, z1⟩ := a1_ ry_
 rw [hfs] at u1; simp only [Option.some.injEq, TypeDesc.struct.injEq] at u1; subst u1
 obtain ⟨x1, w1, r1⟩ := bZ_ (sz := 1) hall hxl v1 o1 (by rw [y1]; exact z1) (by rw [y1]; exact sO_ W)
 obtain ⟨fs2, f2, u2, v2, o2, y2, z2⟩ := a1_ rx_
 rw [hfs] at u2; simp only [Option.some.injEq, TypeDesc.struct.injEq] at u2; subst u2
 obtain ⟨x2, w2, r2⟩ := bZ_ (sz := 1) hall hxl v2 o2 (by rw [y2]; exact z2) (by rw [y2]; exact u7_ W)
 obtain ⟨fs3, f3, u3, v3, o3, y3, z3⟩ := a1_ rU_
 rw [hfs] at u3; simp only [Option.some.injEq, TypeDesc.struct.injEq] at u3; subst u3
 obtain ⟨x3, w3, r3⟩ := bZ_ (sz := 1) hall hxl v3 o3 (by rw [y3]; exact z3) (by rw [y3]; exact ne_ W)
 obtain ⟨fs4, f4, u4, v4, o4, y4, z4⟩ := a1_ ro_
 rw [hfs] at u4; simp only [Option.some.injEq, TypeDesc.struct.injEq] at u4; subst u4
 obtain ⟨x4, w4, r4⟩ := bZ_ (sz := 1) hall hxl v4 o4 (by rw [y4]; exact z4) (by rw [y4]; exact u7_ W)
 obtain ⟨fs5, f5, u5, v5, o5, y5, z5⟩ := a1_ sp_
 rw [hfs] at u5; simp only [Option.some.injEq, TypeDesc.struct.injEq] at u5; subst u5
 obtain ⟨x5, w5, r5⟩ := bZ_ (sz := 1) hall hxl v5 o5 (by rw [y5]; exact z5) (by rw [y5]; exact ne_ W)
 refine ⟨⟨x0, x1, x2, x3, x4, x5⟩, ⟨w0, w1, w2, w3, w4, w5, trivial⟩, ?_⟩
 have s6 : af_ (Sit.all W) [] (cs.drop 6) := gT_ _ (drop_eq_nil_of_le (by omega))
 have s5 : af_ (Sit.all W) (ax_ x5 ++ ([])) (cs.drop 5) := bB_ (o := 5) r5 s6
 have s4 : af_ (Sit.all W) (gi_ x4 ++ (ax_ x5 ++ ([]))) (cs.drop 4) := bB_ (o := 4) r4 s5
 have s3 : af_ (Sit.all W) (ax_ x3 ++ (gi_ x4 ++ (ax_ x5 ++ ([])))) (cs.drop 3) := bB_ (o := 3) r3 s4
 have s2 : af_ (Sit.all W) (gi_ x2 ++ (ax_ x3 ++ (gi_ x4 ++ (ax_ x5 ++ ([]))))) (cs.drop 2) := bB_ (o := 2) r2 s3
 have s1 : af_ (Sit.all W) ((fO_ 1 ax_) x1 ++ (gi_ x2 ++ (ax_ x3 ++ (gi_ x4 ++ (ax_ x5 ++ ([])))))) (cs.drop 1) := bB_ (o := 1) r1 s2
 have s0 : af_ (Sit.all W) (ax_ x0 ++ ((fO_ 1 ax_) x1 ++ (gi_ x2 ++ (ax_ x3 ++ (gi_ x4 ++ (ax_ x5 ++ ([]))))))) (cs.drop 0) := bB_ (o := 0) r0 s1
 rw [drop_zero] at s0
 exact s0
theorem tG_ : ∃ i, prog.info? 49 = some i ∧ i.size = 6 := lt_ (by kernel_rfl)
theorem xD_ (W : World) : Rd prog W 28 (fun xs : List ab_ => fO_ 6 ab_.cells xs) (eb_ ab_.wf) := by
 obtain ⟨i, h1, h2⟩ := tG_
 exact jS_ (by kernel_rfl) h1 h2 (by decide) (fun _ => rfl) (w6_ W)
theorem mixed : Tryz.prog.follows .mixedOrders = true := by kernel_rfl
end Go.Proofs.YthahmhkbcdpkjabGreatDoor
