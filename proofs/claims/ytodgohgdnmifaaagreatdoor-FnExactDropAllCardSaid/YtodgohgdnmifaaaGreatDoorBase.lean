/-
 The data types of the laws arguments, and that the arguments of a row, read as data, are such data. No conditions.
-/
import Derived.Test.YtodgohgdnmifaaaGreatDoorProg
import Derived.Test.YtodgohgdnmifaaaGreatDoorAwB
import Derived.KernelRfl
namespace Go.Proofs.YtodgohgdnmifaaaGreatDoor
open Tryz (prog)
open List
open Go.AW
set_option linter.unusedVariables false
structure ab_ where
 Job : Int
 Count : Int
 Name : ByteArray
 Subs : List ByteArray
def ab_.cells (x : ab_) : List AV := [.val (.int .i64 x.Job), .val (.int .i64 x.Count), .val (.string x.Name), .list 0 1 (x.Subs.map au_)]
def ab_.wf (x : ab_) : Prop := hx_ x.Job ∧ hx_ x.Count ∧ eW_ x.Name ∧ (eg_ eW_) x.Subs ∧ True
def ab_.sz (x : ab_) : Nat := ByteArray.size x.Name + (aq_ ByteArray.size) x.Subs
theorem ab_.sz_Name {x : ab_} {b : Nat} (h : ab_.sz x ≤ b) : ByteArray.size x.Name ≤ b := by unfold ab_.sz at h; omega
theorem ab_.sz_Subs {x : ab_} {b : Nat} (h : ab_.sz x ≤ b) : (aq_ ByteArray.size) x.Subs ≤ b := by unfold ab_.sz at h; omega
structure ad_ where
 Job : Int
 Until : Int
 Name : ByteArray
 Subs : List ByteArray
def ad_.cells (x : ad_) : List AV := [.val (.int .i64 x.Job), .val (.int .i64 x.Until), .val (.string x.Name), .list 0 1 (x.Subs.map au_)]
def ad_.wf (x : ad_) : Prop := hx_ x.Job ∧ hx_ x.Until ∧ eW_ x.Name ∧ (eg_ eW_) x.Subs ∧ True
def ad_.sz (x : ad_) : Nat := ByteArray.size x.Name + (aq_ ByteArray.size) x.Subs
theorem ad_.sz_Name {x : ad_} {b : Nat} (h : ad_.sz x ≤ b) : ByteArray.size x.Name ≤ b := by unfold ad_.sz at h; omega
theorem ad_.sz_Subs {x : ad_} {b : Nat} (h : ad_.sz x ≤ b) : (aq_ ByteArray.size) x.Subs ≤ b := by unfold ad_.sz at h; omega
structure ac_ where
 Held : List ab_
 Asks : List ad_
def ac_.cells (x : ac_) : List AV := [.list 0 4 (x.Held.map ab_.cells), .list 0 4 (x.Asks.map ad_.cells)]
def ac_.wf (x : ac_) : Prop := (eg_ ab_.wf) x.Held ∧ (eg_ ad_.wf) x.Asks ∧ True
def ac_.sz (x : ac_) : Nat := (aq_ ab_.sz) x.Held + (aq_ ad_.sz) x.Asks
theorem ac_.sz_Held {x : ac_} {b : Nat} (h : ac_.sz x ≤ b) : (aq_ ab_.sz) x.Held ≤ b := by unfold ac_.sz at h; omega
theorem ac_.sz_Asks {x : ac_} {b : Nat} (h : ac_.sz x ≤ b) : (aq_ ad_.sz) x.Asks ≤ b := by unfold ac_.sz at h; omega
theorem n0_ (W : World) : Rd prog W 2 cx_ hx_ := vK_ (by kernel_rfl)
theorem sM_ (W : World) : Rd prog W 9 au_ eW_ := rd_ (by kernel_rfl)
theorem vn_ : ∃ i, prog.info? 9 = some i ∧ i.size = 1 := lO_ (by kernel_rfl)
theorem tj_ (W : World) : Rd prog W 41 (fun xs : List ByteArray => d6_ 1 au_ xs) (eg_ eW_) := by
 obtain ⟨i, h1, h2⟩ := vn_
 exact ky_ (by kernel_rfl) h1 h2 (by decide) (fun _ => rfl) (sM_ W)
theorem n1_ : dm_ prog 87 0 = some (0, 2, 1) := by kernel_rfl
theorem sx_ : dm_ prog 87 1 = some (1, 2, 1) := by kernel_rfl
theorem s3_ : dm_ prog 87 2 = some (2, 9, 1) := by kernel_rfl
theorem sg_ : dm_ prog 87 3 = some (3, 41, 1) := by kernel_rfl
theorem x6_ (W : World) : Rd prog W 87 ab_.cells ab_.wf := by
 intro H enc fuel cs d ps hr
 obtain ⟨fs, _, hfs, _⟩ := bL_ n1_
 have hcl : prog.cellsOf 87 = 4 := by kernel_rfl
 obtain ⟨xs, n, _, _, hlen, hxl, hall⟩ := DataW.trod_struct hfs hr
 rw [hcl] at hlen
 obtain ⟨fs0, f0, u0, v0, o0, y0, z0⟩ := bL_ n1_
 rw [hfs] at u0; simp only [Option.some.injEq, TypeDesc.struct.injEq] at u0; subst u0
 obtain ⟨x0, w0, r0⟩ := dA_ (sz := 1) hall hxl v0 o0 (by rw [y0]; exact z0) (by rw [y0]; exact n0_ W)
 obtain ⟨fs1, f1, u1, v1, o1, y1, z1⟩ := bL_ sx_
 rw [hfs] at u1; simp only [Option.some.injEq, TypeDesc.struct.injEq] at u1; subst u1
 obtain ⟨x1, w1, r1⟩ := dA_ (sz := 1) hall hxl v1 o1 (by rw [y1]; exact z1) (by rw [y1]; exact n0_ W)
 obtain ⟨fs2, f2, u2, v2, o2, y2, z2⟩ := bL_ s3_
 rw [hfs] at u2; simp only [Option.some.injEq, TypeDesc.struct.injEq] at u2; subst u2
 obtain ⟨x2, w2, r2⟩ := dA_ (sz := 1) hall hxl v2 o2 (by rw [y2]; exact z2) (by rw [y2]; exact sM_ W)
 obtain ⟨fs3, f3, u3, v3, o3, y3, z3⟩ := bL_ sg_
 rw [hfs] at u3; simp only [Option.some.injEq, TypeDesc.struct.injEq] at u3; subst u3
 obtain ⟨x3, w3, r3⟩ := dA_ (sz := 1) hall hxl v3 o3 (by rw [y3]; exact z3) (by rw [y3]; exact tj_ W)
 refine ⟨⟨x0, x1, x2, x3⟩, ⟨w0, w1, w2, w3, trivial⟩, ?_⟩
 have s4 : aj_ (Sit.all W) [] (cs.drop 4) := iG_ _ (drop_eq_nil_of_le (by omega))
 have s3 : aj_ (Sit.all W) ((d6_ 1 au_) x3 ++ ([])) (cs.drop 3) := cH_ (o := 3) r3 s4
 have s2 : aj_ (Sit.all W) (au_ x2 ++ ((d6_ 1 au_) x3 ++ ([]))) (cs.drop 2) := cH_ (o := 2) r2 s3
 have s1 : aj_ (Sit.all W) (cx_ x1 ++ (au_ x2 ++ ((d6_ 1 au_) x3 ++ ([])))) (cs.drop 1) := cH_ (o := 1) r1 s2
 have s0 : aj_ (Sit.all W) (cx_ x0 ++ (cx_ x1 ++ (au_ x2 ++ ((d6_ 1 au_) x3 ++ ([]))))) (cs.drop 0) := cH_ (o := 0) r0 s1
 rw [drop_zero] at s0
 exact s0
theorem oe_ : dm_ prog 89 0 = some (0, 2, 1) := by kernel_rfl
theorem rQ_ : dm_ prog 89 1 = some (1, 2, 1) := by kernel_rfl
theorem sn_ : dm_ prog 89 2 = some (2, 9, 1) := by kernel_rfl
theorem sv_ : dm_ prog 89 3 = some (3, 41, 1) := by kernel_rfl
theorem yR_ (W : World) : Rd prog W 89 ad_.cells ad_.wf := by
 intro H enc fuel cs d ps hr
 obtain ⟨fs, _, hfs, _⟩ := bL_ oe_
 have hcl : prog.cellsOf 89 = 4 := by kernel_rfl
 obtain ⟨xs, n, _, _, hlen, hxl, hall⟩ := DataW.trod_struct hfs hr
 rw [hcl] at hlen
 obtain ⟨fs0, f0, u0, v0, o0, y0, z0⟩ := bL_ oe_
 rw [hfs] at u0; simp only [Option.some.injEq, TypeDesc.struct.injEq] at u0; subst u0
 obtain ⟨x0, w0, r0⟩ := dA_ (sz := 1) hall hxl v0 o0 (by rw [y0]; exact z0) (by rw [y0]; exact n0_ W)
 obtain ⟨fs1, f1, u1, v1, o1, y1, z1⟩ := bL_ rQ_
 rw [hfs] at u1; simp only [Option.some.injEq, TypeDesc.struct.injEq] at u1; subst u1
 obtain ⟨x1, w1, r1⟩ := dA_ (sz := 1) hall hxl v1 o1 (by rw [y1]; exact z1) (by rw [y1]; exact n0_ W)
 obtain ⟨fs2, f2, u2, v2, o2, y2, z2⟩ := bL_ sn_
 rw [hfs] at u2; simp only [Option.some.injEq, TypeDesc.struct.injEq] at u2; subst u2
 obtain ⟨x2, w2, r2⟩ := dA_ (sz := 1) hall hxl v2 o2 (by rw [y2]; exact z2) (by rw [y2]; exact sM_ W)
 obtain ⟨fs3, f3, u3, v3, o3, y3, z3⟩ := bL_ sv_
 rw [hfs] at u3; simp only [Option.some.injEq, TypeDesc.struct.injEq] at u3; subst u3
 obtain ⟨x3, w3, r3⟩ := dA_ (sz := 1) hall hxl v3 o3 (by rw [y3]; exact z3) (by rw [y3]; exact tj_ W)
 refine ⟨⟨x0, x1, x2, x3⟩, ⟨w0, w1, w2, w3, trivial⟩, ?_⟩
 have s4 : aj_ (Sit.all W) [] (cs.drop 4) := iG_ _ (drop_eq_nil_of_le (by omega))
 have s3 : aj_ (Sit.all W) ((d6_ 1 au_) x3 ++ ([])) (cs.drop 3) := cH_ (o := 3) r3 s4
 have s2 : aj_ (Sit.all W) (au_ x2 ++ ((d6_ 1 au_) x3 ++ ([]))) (cs.drop 2) := cH_ (o := 2) r2 s3
 have s1 : aj_ (Sit.all W) (cx_ x1 ++ (au_ x2 ++ ((d6_ 1 au_) x3 ++ ([])))) (cs.drop 1) := cH_ (o := 1) r1 s2
 have s0 : aj_ (Sit.all W) (cx_ x0 ++ (cx_ x1 ++ (au_ x2 ++ ((d6_ 1 au_) x3 ++ ([]))))) (cs.drop 0) := cH_ (o := 0) r0 s1
 rw [drop_zero] at s0
 exact s0
theorem uF_ : ∃ i, prog.info? 87 = some i ∧ i.size = 4 := lO_ (by kernel_rfl)
theorem yX_ (W : World) : Rd prog W 22 (fun xs : List ab_ => d6_ 4 ab_.cells xs) (eg_ ab_.wf) := by
 obtain ⟨i, h1, h2⟩ := uF_
 exact ky_ (by kernel_rfl) h1 h2 (by decide) (fun _ => rfl) (x6_ W)
theorem uN_ : ∃ i, prog.info? 89 = some i ∧ i.size = 4 := lO_ (by kernel_rfl)
theorem yl_ (W : World) : Rd prog W 23 (fun xs : List ad_ => d6_ 4 ad_.cells xs) (eg_ ad_.wf) := by
 obtain ⟨i, h1, h2⟩ := uN_
 exact ky_ (by kernel_rfl) h1 h2 (by decide) (fun _ => rfl) (yR_ W)
theorem kN_ : dm_ prog 25 0 = some (0, 22, 1) := by kernel_rfl
theorem rG_ : dm_ prog 25 1 = some (1, 23, 1) := by kernel_rfl
theorem x7_ (W : World) : Rd prog W 25 ac_.cells ac_.wf := by
 intro H enc fuel cs d ps hr
 obtain ⟨fs, _, hfs, _⟩ := bL_ kN_
 have hcl : prog.cellsOf 25 = 2 := by kernel_rfl
 obtain ⟨xs, n, _, _, hlen, hxl, hall⟩ := DataW.trod_struct hfs hr
 rw [hcl] at hlen
 obtain ⟨fs0, f0, u0, v0, o0, y0, z0⟩ := bL_ kN_
 rw [hfs] at u0; simp only [Option.some.injEq, TypeDesc.struct.injEq] at u0; subst u0
 obtain ⟨x0, w0, r0⟩ := dA_ (sz := 1) hall hxl v0 o0 (by rw [y0]; exact z0) (by rw [y0]; exact yX_ W)
 obtain ⟨fs1, f1, u1, v1, o1, y1, z1⟩ := bL_ rG_
 rw [hfs] at u1; simp only [Option.some.injEq, TypeDesc.struct.injEq] at u1; subst u1
 obtain ⟨x1, w1, r1⟩ := dA_ (sz := 1) hall hxl v1 o1 (by rw [y1]; exact z1) (by rw [y1]; exact yl_ W)
 refine ⟨⟨x0, x1⟩, ⟨w0, w1, trivial⟩, ?_⟩
 have s2 : aj_ (Sit.all W) [] (cs.drop 2) := iG_ _ (drop_eq_nil_of_le (by omega))
 have s1 : aj_ (Sit.all W) ((d6_ 4 ad_.cells) x1 ++ ([])) (cs.drop 1) := cH_ (o := 1) r1 s2
 have s0 : aj_ (Sit.all W) ((d6_ 4 ab_.cells) x0 ++ ((d6_ 4 ad_.cells) x1 ++ ([]))) (cs.drop 0) := cH_ (o := 0) r0 s1
 rw [drop_zero] at s0
 exact s0
theorem mixed : Tryz.prog.follows .mixedOrders = true := by kernel_rfl
end Go.Proofs.YtodgohgdnmifaaaGreatDoor
