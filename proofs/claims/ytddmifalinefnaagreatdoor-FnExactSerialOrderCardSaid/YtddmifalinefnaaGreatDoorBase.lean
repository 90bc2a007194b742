/-
 The data types of the laws arguments, and that the arguments of a row, read as data, are such data. No conditions.
-/
import Derived.Test.YtddmifalinefnaaGreatDoorProg
import Derived.Test.YtddmifalinefnaaGreatDoorAwB
import Derived.KernelRfl
namespace Go.Proofs.YtddmifalinefnaaGreatDoor
open Tryz (prog)
open List
open Go.AW
set_option linter.unusedVariables false
structure ad_ where
 Kind : Int
 Name : ByteArray
 Subs : List ByteArray
 Value : ByteArray
 N : Int
def ad_.cells (x : ad_) : List AV := [.val (.int .i64 x.Kind), .val (.string x.Name), .list 0 1 (x.Subs.map aF_), .val (.string x.Value), .val (.int .i64 x.N)]
def ad_.wf (x : ad_) : Prop := g1_ x.Kind ∧ fd_ x.Name ∧ (gA_ fd_) x.Subs ∧ fd_ x.Value ∧ g1_ x.N ∧ True
def ad_.sz (x : ad_) : Nat := ByteArray.size x.Name + (aI_ ByteArray.size) x.Subs + ByteArray.size x.Value
theorem ad_.sz_Name {x : ad_} {b : Nat} (h : ad_.sz x ≤ b) : ByteArray.size x.Name ≤ b := by unfold ad_.sz at h; omega
theorem ad_.sz_Subs {x : ad_} {b : Nat} (h : ad_.sz x ≤ b) : (aI_ ByteArray.size) x.Subs ≤ b := by unfold ad_.sz at h; omega
theorem ad_.sz_Value {x : ad_} {b : Nat} (h : ad_.sz x ≤ b) : ByteArray.size x.Value ≤ b := by unfold ad_.sz at h; omega
structure ab_ where
 Job : Int
 Event : ad_
def ab_.cells (x : ab_) : List AV := [.val (.int .i64 x.Job), .val (.int .i64 x.Event.Kind), .val (.string x.Event.Name), .list 0 1 (x.Event.Subs.map aF_), .val (.string x.Event.Value), .val (.int .i64 x.Event.N)]
def ab_.wf (x : ab_) : Prop := g1_ x.Job ∧ ad_.wf x.Event ∧ True
def ab_.sz (x : ab_) : Nat := ad_.sz x.Event
theorem ab_.sz_Event {x : ab_} {b : Nat} (h : ab_.sz x ≤ b) : ad_.sz x.Event ≤ b := by unfold ab_.sz at h; omega
structure cz_ where
 From : Int
 To : Int
def cz_.cells (x : cz_) : List AV := [.val (.int .i64 x.From), .val (.int .i64 x.To)]
def cz_.wf (x : cz_) : Prop := g1_ x.From ∧ g1_ x.To ∧ True
theorem sg_ (W : World) : Rd prog W 2 bS_ g1_ := vk_ (by kernel_rfl)
theorem rE_ (W : World) : Rd prog W 9 aF_ fd_ := q7_ (by kernel_rfl)
theorem uk_ : ∃ i, prog.info? 9 = some i ∧ i.size = 1 := oV_ (by kernel_rfl)
theorem xw_ (W : World) : Rd prog W 40 (fun xs : List ByteArray => kg_ 1 aF_ xs) (gA_ fd_) := by
 obtain ⟨i, h1, h2⟩ := uk_
 exact ne_ (by kernel_rfl) h1 h2 (by decide) (fun _ => rfl) (rE_ W)
theorem nO_ : ev_ prog 42 0 = some (0, 2, 1) := by kernel_rfl
theorem rz_ : ev_ prog 42 1 = some (1, 9, 1) := by kernel_rfl
theorem rp_ : ev_ prog 42 2 = some (2, 40, 1) := by kernel_rfl
theorem se_ : ev_ prog 42 3 = some (3, 9, 1) := by kernel_rfl
theorem rJ_ : ev_ prog 42 4 = some (4, 2, 1) := by kernel_rfl
theorem wL_ (W : World) : Rd prog W 42 ad_.cells ad_.wf := by
 intro H enc fuel cs d ps hr
 obtain ⟨fs, _, hfs, _⟩ := ca_ nO_
 have hcl : prog.cellsOf 42 = 5 := by kernel_rfl
 obtain ⟨xs, n, _, _, hlen, hxl, hall⟩ := DataW.trod_struct hfs hr
 rw [hcl] at hlen
 obtain ⟨fs0, f0, u0, v0, o0, y0, z0⟩ := ca_ nO_
 rw [hfs] at u0; simp only [Option.some.injEq, TypeDesc.struct.injEq] at u0; subst u0
 obtain ⟨x0, w0, r0⟩ := eT_ (sz := 1) hall hxl v0 o0 (by rw [y0]; exact z0) (by rw [y0]; exact sg_ W)
 obtain ⟨fs1, f1, u1, v1, o1, y1, z1⟩ := ca_ rz_
 rw [hfs] at u1; simp only [Option.some.injEq, TypeDesc.struct.injEq] at u1; subst u1
 obtain ⟨x1, w1, r1⟩ := eT_ (sz := 1) hall hxl v1 o1 (by rw [y1]; exact z1) (by rw [y1]; exact rE_ W)
 obtain ⟨fs2, f2, u2, v2, o2, y2, z2⟩ := ca_ rp_
 rw [hfs] at u2; simp only [Option.some.injEq, TypeDesc.struct.injEq] at u2; subst u2
 obtain ⟨x2, w2, r2⟩ := eT_ (sz := 1) hall hxl v2 o2 (by rw [y2]; exact z2) (by rw [y2]; exact xw_ W)
 obtain ⟨fs3, f3, u3, v3, o3, y3, z3⟩ := ca_ se_
 rw [hfs] at u3; simp only [Option.some.injEq, TypeDesc.struct.injEq] at u3; subst u3
 obtain ⟨x3, w3, r3⟩ := eT_ (sz := 1) hall hxl v3 o3 (by rw [y3]; exact z3) (by rw [y3]; exact rE_ W)
 obtain ⟨fs4, f4, u4, v4, o4, y4, z4⟩ := ca_ rJ_
 rw [hfs] at u4; simp only [Option.some.injEq, TypeDesc.struct.injEq] at u4; subst u4
 obtain ⟨x4, w4, r4⟩ := eT_ (sz := 1) hall hxl v4 o4 (by rw [y4]; exact z4) (by rw [y4]; exact sg_ W)
 refine ⟨⟨x0, x1, x2, x3, x4⟩, ⟨w0, w1, w2, w3, w4, trivial⟩, ?_⟩
 have s5 : ag_ (Sit.all W) [] (cs.drop 5) := jQ_ _ (drop_eq_nil_of_le (by omega))
 have s4 : ag_ (Sit.all W) (bS_ x4 ++ ([])) (cs.drop 4) := dO_ (o := 4) r4 s5
 have s3 : ag_ (Sit.all W) (aF_ x3 ++ (bS_ x4 ++ ([]))) (cs.drop 3) := dO_ (o := 3) r3 s4
 have s2 : ag_ (Sit.all W) ((kg_ 1 aF_) x2 ++ (aF_ x3 ++ (bS_ x4 ++ ([])))) (cs.drop 2) := dO_ (o := 2) r2 s3
 have s1 : ag_ (Sit.all W) (aF_ x1 ++ ((kg_ 1 aF_) x2 ++ (aF_ x3 ++ (bS_ x4 ++ ([]))))) (cs.drop 1) := dO_ (o := 1) r1 s2
 have s0 : ag_ (Sit.all W) (bS_ x0 ++ (aF_ x1 ++ ((kg_ 1 aF_) x2 ++ (aF_ x3 ++ (bS_ x4 ++ ([])))))) (cs.drop 0) := dO_ (o := 0) r0 s1
 rw [drop_zero] at s0
 exact s0
theorem nv_ : ev_ prog 44 0 = some (0, 2, 1) := by kernel_rfl
theorem ry_ : ev_ prog 44 1 = some (1, 42, 5) := by kernel_rfl
theorem xj_ (W : World) : Rd prog W 44 ab_.cells ab_.wf := by
 intro H enc fuel cs d ps hr
 obtain ⟨fs, _, hfs, _⟩ := ca_ nv_
 have hcl : prog.cellsOf 44 = 6 := by kernel_rfl
 obtain ⟨xs, n, _, _, hlen, hxl, hall⟩ := DataW.trod_struct hfs hr
 rw [hcl] at hlen
 obtain ⟨fs0, f0, u0, v0, o0, y0, z0⟩ := ca_ nv_
 rw [hfs] at u0; simp only [Option.some.injEq, TypeDesc.struct.injEq] at u0; subst u0
 obtain ⟨x0, w0, r0⟩ := eT_ (sz := 1) hall hxl v0 o0 (by rw [y0]; exact z0) (by rw [y0]; exact sg_ W)
 obtain ⟨fs1, f1, u1, v1, o1, y1, z1⟩ := ca_ ry_
 rw [hfs] at u1; simp only [Option.some.injEq, TypeDesc.struct.injEq] at u1; subst u1
 obtain ⟨x1, w1, r1⟩ := eT_ (sz := 5) hall hxl v1 o1 (by rw [y1]; exact z1) (by rw [y1]; exact wL_ W)
 refine ⟨⟨x0, x1⟩, ⟨w0, w1, trivial⟩, ?_⟩
 have s2 : ag_ (Sit.all W) [] (cs.drop 6) := jQ_ _ (drop_eq_nil_of_le (by omega))
 have s1 : ag_ (Sit.all W) (ad_.cells x1 ++ ([])) (cs.drop 1) := dO_ (o := 1) r1 s2
 have s0 : ag_ (Sit.all W) (bS_ x0 ++ (ad_.cells x1 ++ ([]))) (cs.drop 0) := dO_ (o := 0) r0 s1
 rw [drop_zero] at s0
 exact s0
theorem t0_ : ∃ i, prog.info? 44 = some i ∧ i.size = 6 := oV_ (by kernel_rfl)
theorem xe_ (W : World) : Rd prog W 22 (fun xs : List ab_ => kg_ 6 ab_.cells xs) (gA_ ab_.wf) := by
 obtain ⟨i, h1, h2⟩ := t0_
 exact ne_ (by kernel_rfl) h1 h2 (by decide) (fun _ => rfl) (xj_ W)
theorem mixed : Tryz.prog.follows .mixedOrders = true := by kernel_rfl
end Go.Proofs.YtddmifalinefnaaGreatDoor
