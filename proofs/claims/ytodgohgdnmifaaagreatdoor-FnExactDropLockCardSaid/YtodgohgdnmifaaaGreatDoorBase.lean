/-
 The data types of the laws arguments, and that the arguments of a row, read as data, are such data. No conditions.
-/
import Derived.Test.YtodgohgdnmifaaaGreatDoorProg
import Derived.Test.YtodgohgdnmifaaaGreatDoorAwB
import Derived.KernelRfl
namespace Go.Proofs.YtodgohgdnmifaaaGreatDoor
open Tryz (prog)
open List
open Go.AW
set_option linter.unusedVariables false
structure ac_ where
 Job : Int
 Count : Int
 Name : ByteArray
 Subs : List ByteArray
def ac_.cells (x : ac_) : List AV := [.val (.int .i64 x.Job), .val (.int .i64 x.Count), .val (.string x.Name), .list 0 1 (x.Subs.map at_)]
def ac_.wf (x : ac_) : Prop := hH_ x.Job ∧ hH_ x.Count ∧ dV_ x.Name ∧ (dZ_ dV_) x.Subs ∧ True
def ac_.sz (x : ac_) : Nat := ByteArray.size x.Name + (ao_ ByteArray.size) x.Subs
theorem ac_.sz_Name {x : ac_} {b : Nat} (h : ac_.sz x ≤ b) : ByteArray.size x.Name ≤ b := by unfold ac_.sz at h; omega
theorem ac_.sz_Subs {x : ac_} {b : Nat} (h : ac_.sz x ≤ b) : (ao_ ByteArray.size) x.Subs ≤ b := by unfold ac_.sz at h; omega
structure ad_ where
 Job : Int
 Until : Int
 Name : ByteArray
 Subs : List ByteArray
def ad_.cells (x : ad_) : List AV := [.val (.int .i64 x.Job), .val (.int .i64 x.Until), .val (.string x.Name), .list 0 1 (x.Subs.map at_)]
def ad_.wf (x : ad_) : Prop := hH_ x.Job ∧ hH_ x.Until ∧ dV_ x.Name ∧ (dZ_ dV_) x.Subs ∧ True
def ad_.sz (x : ad_) : Nat := ByteArray.size x.Name + (ao_ ByteArray.size) x.Subs
theorem ad_.sz_Name {x : ad_} {b : Nat} (h : ad_.sz x ≤ b) : ByteArray.size x.Name ≤ b := by unfold ad_.sz at h; omega
theorem ad_.sz_Subs {x : ad_} {b : Nat} (h : ad_.sz x ≤ b) : (ao_ ByteArray.size) x.Subs ≤ b := by unfold ad_.sz at h; omega
structure ab_ where
 Held : List ac_
 Asks : List ad_
def ab_.cells (x : ab_) : List AV := [.list 0 4 (x.Held.map ac_.cells), .list 0 4 (x.Asks.map ad_.cells)]
def ab_.wf (x : ab_) : Prop := (dZ_ ac_.wf) x.Held ∧ (dZ_ ad_.wf) x.Asks ∧ True
def ab_.sz (x : ab_) : Nat := (ao_ ac_.sz) x.Held + (ao_ ad_.sz) x.Asks
theorem ab_.sz_Held {x : ab_} {b : Nat} (h : ab_.sz x ≤ b) : (ao_ ac_.sz) x.Held ≤ b := by unfold ab_.sz at h; omega
theorem ab_.sz_Asks {x : ab_} {b : Nat} (h : ab_.sz x ≤ b) : (ao_ ad_.sz) x.Asks ≤ b := by unfold ab_.sz at h; omega
theorem oi_ (W : World) : Rd prog W 2 cC_ hH_ := wQ_ (by kernel_rfl)
theorem qu_ (W : World) : Rd prog W 9 at_ dV_ := qG_ (by kernel_rfl)
theorem xm_ : ∃ i, prog.info? 9 = some i ∧ i.size = 1 := lW_ (by kernel_rfl)
theorem pF_ (W : World) : Rd prog W 41 (fun xs : List ByteArray => ee_ 1 at_ xs) (dZ_ dV_) := by
 obtain ⟨i, h1, h2⟩ := xm_
 exact ky_ (by kernel_rfl) h1 h2 (by decide) (fun _ => rfl) (qu_ W)
theorem of_ : do_ prog 87 0 = some (0, 2, 1) := by kernel_rfl
theorem so_ : do_ prog 87 1 = some (1, 2, 1) := by kernel_rfl
theorem rD_ : do_ prog 87 2 = some (2, 9, 1) := by kernel_rfl
theorem s0_ : do_ prog 87 3 = some (3, 41, 1) := by kernel_rfl
theorem yn_ (W : World) : Rd prog W 87 ac_.cells ac_.wf := by
 intro H enc fuel cs d ps hr
 obtain ⟨fs, _, hfs, _⟩ := bL_ of_
 have hcl : prog.cellsOf 87 = 4 := by kernel_rfl
 obtain ⟨xs, n, _, _, hlen, hxl, hall⟩ := DataW.trod_struct hfs hr
 rw [hcl] at hlen
 obtain ⟨fs0, f0, u0, v0, o0, y0, z0⟩ := bL_ of_
 rw [hfs] at u0; simp only [Option.some.injEq, TypeDesc.struct.injEq] at u0; subst u0
 obtain ⟨x0, w0, r0⟩ := dA_ (sz := 1) hall hxl v0 o0 (by rw [y0]; exact z0) (by rw [y0]; exact oi_ W)
 obtain ⟨fs1, f1, u1, v1, o1, y1, z1⟩ := bL_ so_
 rw [hfs] at u1; simp only [Option.some.injEq, TypeDesc.struct.injEq] at u1; subst u1
 obtain ⟨x1, w1, r1⟩ := dA_ (sz := 1) hall hxl v1 o1 (by rw [y1]; exact z1) (by rw [y1]; exact oi_ W)
 obtain ⟨fs2, f2, u2, v2, o2, y2, z2⟩ := bL_ rD_
 rw [hfs] at u2; simp only [Option.some.injEq, TypeDesc.struct.injEq] at u2; subst u2
 obtain ⟨x2, w2, r2⟩ := dA_ (sz := 1) hall hxl v2 o2 (by rw [y2]; exact z2) (by rw [y2]; exact qu_ W)
 obtain ⟨fs3, f3, u3, v3, o3, y3, z3⟩ := bL_ s0_
 rw [hfs] at u3; simp only [Option.some.injEq, TypeDesc.struct.injEq] at u3; subst u3
 obtain ⟨x3, w3, r3⟩ := dA_ (sz := 1) hall hxl v3 o3 (by rw [y3]; exact z3) (by rw [y3]; exact pF_ W)
 refine ⟨⟨x0, x1, x2, x3⟩, ⟨w0, w1, w2, w3, trivial⟩, ?_⟩
 have s4 : ai_ (Sit.all W) [] (cs.drop 4) := iR_ _ (drop_eq_nil_of_le (by omega))
 have s3 : ai_ (Sit.all W) ((ee_ 1 at_) x3 ++ ([])) (cs.drop 3) := cL_ (o := 3) r3 s4
 have s2 : ai_ (Sit.all W) (at_ x2 ++ ((ee_ 1 at_) x3 ++ ([]))) (cs.drop 2) := cL_ (o := 2) r2 s3
 have s1 : ai_ (Sit.all W) (cC_ x1 ++ (at_ x2 ++ ((ee_ 1 at_) x3 ++ ([])))) (cs.drop 1) := cL_ (o := 1) r1 s2
 have s0 : ai_ (Sit.all W) (cC_ x0 ++ (cC_ x1 ++ (at_ x2 ++ ((ee_ 1 at_) x3 ++ ([]))))) (cs.drop 0) := cL_ (o := 0) r0 s1
 rw [drop_zero] at s0
 exact s0
theorem n9_ : do_ prog 89 0 = some (0, 2, 1) := by kernel_rfl
theorem sZ_ : do_ prog 89 1 = some (1, 2, 1) := by kernel_rfl
theorem s4_ : do_ prog 89 2 = some (2, 9, 1) := by kernel_rfl
theorem r5_ : do_ prog 89 3 = some (3, 41, 1) := by kernel_rfl
theorem yG_ (W : World) : Rd prog W 89 ad_.cells ad_.wf := by
 intro H enc fuel cs d ps hr
 obtain ⟨fs, _, hfs, _⟩ := bL_ n9_
 have hcl : prog.cellsOf 89 = 4 := by kernel_rfl
 obtain ⟨xs, n, _, _, hlen, hxl, hall⟩ := DataW.trod_struct hfs hr
 rw [hcl] at hlen
 obtain ⟨fs0, f0, u0, v0, o0, y0, z0⟩ := bL_ n9_
 rw [hfs] at u0; simp only [Option.some.injEq, TypeDesc.struct.injEq] at u0; subst u0
 obtain ⟨x0, w0, r0⟩ := dA_ (sz := 1) hall hxl v0 o0 (by rw [y0]; exact z0) (by rw [y0]; exact oi_ W)
 obtain ⟨fs1, f1, u1, v1, o1, y1, z1⟩ := bL_ sZ_
 rw [hfs] at u1; simp only [Option.some.injEq, TypeDesc.struct.injEq] at u1; subst u1
 obtain ⟨x1, w1, r1⟩ := dA_ (sz := 1) hall hxl v1 o1 (by rw [y1]; exact z1) (by rw [y1]; exact oi_ W)
 obtain ⟨fs2, f2, u2, v2, o2, y2, z2⟩ := bL_ s4_
 rw [hfs] at u2; simp only [Option.some.injEq, TypeDesc.struct.injEq] at u2; subst u2
 obtain ⟨x2, w2, r2⟩ := dA_ (sz := 1) hall hxl v2 o2 (by rw [y2]; exact z2) (by rw [y2]; exact qu_ W)
 obtain ⟨fs3, f3, u3, v3, o3, y3, z3⟩ := bL_ r5_
 rw [hfs] at u3; simp only [Option.some.injEq, TypeDesc.struct.injEq] at u3; subst u3
 obtain ⟨x3, w3, r3⟩ := dA_ (sz := 1) hall hxl v3 o3 (by rw [y3]; exact z3) (by rw [y3]; exact pF_ W)
 refine ⟨⟨x0, x1, x2, x3⟩, ⟨w0, w1, w2, w3, trivial⟩, ?_⟩
 have s4 : ai_ (Sit.all W) [] (cs.drop 4) := iR_ _ (drop_eq_nil_of_le (by omega))
 have s3 : ai_ (Sit.all W) ((ee_ 1 at_) x3 ++ ([])) (cs.drop 3) := cL_ (o := 3) r3 s4
 have s2 : ai_ (Sit.all W) (at_ x2 ++ ((ee_ 1 at_) x3 ++ ([]))) (cs.drop 2) := cL_ (o := 2) r2 s3
 have s1 : ai_ (Sit.all W) (cC_ x1 ++ (at_ x2 ++ ((ee_ 1 at_) x3 ++ ([])))) (cs.drop 1) := cL_ (o := 1) r1 s2
 have s0 : ai_ (Sit.all W) (cC_ x0 ++ (cC_ x1 ++ (at_ x2 ++ ((ee_ 1 at_) x3 ++ ([]))))) (cs.drop 0) := cL_ (o := 0) r0 s1
 rw [drop_zero] at s0
 exact s0
theorem t9_ : ∃ i, prog.info? 87 = some i ∧ i.size = 4 := lW_ (by kernel_rfl)
theorem xO_ (W : World) : Rd prog W 22 (fun xs : List ac_ => ee_ 4 ac_.cells xs) (dZ_ ac_.wf) := by
 obtain ⟨i, h1, h2⟩ := t9_
 exact ky_ (by kernel_rfl) h1 h2 (by decide) (fun _ => rfl) (yn_ W)
theorem ul_ : ∃ i, prog.info? 89 = some i ∧ i.size = 4 := lW_ (by kernel_rfl)
theorem x9_ (W : World) : Rd prog W 23 (fun xs : List ad_ => ee_ 4 ad_.cells xs) (dZ_ ad_.wf) := by
 obtain ⟨i, h1, h2⟩ := ul_
 exact ky_ (by kernel_rfl) h1 h2 (by decide) (fun _ => rfl) (yG_ W)
theorem kG_ : do_ prog 25 0 = some (0, 22, 1) := by kernel_rfl
theorem sp_ : do_ prog 25 1 = some (1, 23, 1) := by kernel_rfl
theorem yC_ (W : World) : Rd prog W 25 ab_.cells ab_.wf := by
 intro H enc fuel cs d ps hr
 obtain ⟨fs, _, hfs, _⟩ := bL_ kG_
 have hcl : prog.cellsOf 25 = 2 := by kernel_rfl
 obtain ⟨xs, n, _, _, hlen, hxl, hall⟩ := DataW.trod_struct hfs hr
 rw [hcl] at hlen
 obtain ⟨fs0, f0, u0, v0, o0, y0, z0⟩ := bL_ kG_
 rw [hfs] at u0; simp only [Option.some.injEq, TypeDesc.struct.injEq] at u0; subst u0
 obtain ⟨x0, w0, r0⟩ := dA_ (sz := 1) hall hxl v0 o0 (by rw [y0]; exact z0) (by rw [y0]; exact xO_ W)
 obtain ⟨fs1, f1, u1, v1, o1, y1, z1⟩ := bL_ sp_
 rw [hfs] at u1; simp only [Option.some.injEq, TypeDesc.struct.injEq] at u1; subst u1
 obtain ⟨x1, w1, r1⟩ := dA_ (sz := 1) hall hxl v1 o1 (by rw [y1]; exact z1) (by rw [y1]; exact x9_ W)
 refine ⟨⟨x0, x1⟩, ⟨w0, w1, trivial⟩, ?_⟩
 have s2 : ai_ (Sit.all W) [] (cs.drop 2) := iR_ _ (drop_eq_nil_of_le (by omega))
 have s1 : ai_ (Sit.all W) ((ee_ 4 ad_.cells) x1 ++ ([])) (cs.drop 1) := cL_ (o := 1) r1 s2
 have s0 : ai_ (Sit.all W) ((ee_ 4 ac_.cells) x0 ++ ((ee_ 4 ad_.cells) x1 ++ ([]))) (cs.drop 0) := cL_ (o := 0) r0 s1
 rw [drop_zero] at s0
 exact s0
theorem mixed : Tryz.prog.follows .mixedOrders = true := by kernel_rfl
end Go.Proofs.YtodgohgdnmifaaaGreatDoor
