/-
 The data types of the laws arguments, and that the arguments of a row, read as data, are such data. No conditions.
-/
import Derived.Test.YtkddmakjmjmokaaProg
import Derived.Test.YtkddmakjmjmokaaAwB
import Derived.KernelRfl
namespace Go.Proofs.Ytkddmakjmjmokaa
open List
open Go.AW
set_option linter.unusedVariables false
structure ah_ where
 Name : ByteArray
 Global : ByteArray
 Columns : List ByteArray
 Indexes : List ByteArray
def ah_.cells (x : ah_) : List AV := [.val (.string x.Name), .val (.string x.Global), .list 0 1 (x.Columns.map aD_), .list 0 1 (x.Indexes.map aD_)]
def ah_.wf (x : ah_) : Prop := ck_ x.Name ∧ ck_ x.Global ∧ (d5_ ck_) x.Columns ∧ (d5_ ck_) x.Indexes ∧ True
def ah_.sz (x : ah_) : Nat := ByteArray.size x.Name + ByteArray.size x.Global + (ar_ ByteArray.size) x.Columns + (ar_ ByteArray.size) x.Indexes
theorem ah_.sz_Name {x : ah_} {b : Nat} (h : ah_.sz x ≤ b) : ByteArray.size x.Name ≤ b := by unfold ah_.sz at h; omega
theorem ah_.sz_Global {x : ah_} {b : Nat} (h : ah_.sz x ≤ b) : ByteArray.size x.Global ≤ b := by unfold ah_.sz at h; omega
theorem ah_.sz_Columns {x : ah_} {b : Nat} (h : ah_.sz x ≤ b) : (ar_ ByteArray.size) x.Columns ≤ b := by unfold ah_.sz at h; omega
theorem ah_.sz_Indexes {x : ah_} {b : Nat} (h : ah_.sz x ≤ b) : (ar_ ByteArray.size) x.Indexes ≤ b := by unfold ah_.sz at h; omega
structure aq_ where
 Cells : List ByteArray
def aq_.cells (x : aq_) : List AV := [.list 0 1 (x.Cells.map aD_)]
def aq_.wf (x : aq_) : Prop := (d5_ ck_) x.Cells ∧ True
def aq_.sz (x : aq_) : Nat := (ar_ ByteArray.size) x.Cells
theorem aq_.sz_Cells {x : aq_} {b : Nat} (h : aq_.sz x ≤ b) : (ar_ ByteArray.size) x.Cells ≤ b := by unfold aq_.sz at h; omega
theorem ja_ (W : World) : Rd Try.prog W 9 aD_ ck_ := ir_ (by kernel_rfl)
theorem kU_ : ∃ i, Try.prog.info? 9 = some i ∧ i.size = 1 := kf_ (by kernel_rfl)
theorem ik_ (W : World) : Rd Try.prog W 22 (fun xs : List ByteArray => do_ 1 aD_ xs) (d5_ ck_) := by
 obtain ⟨i, h1, h2⟩ := kU_
 exact jf_ (by kernel_rfl) h1 h2 (by decide) (fun _ => rfl) (ja_ W)
theorem e2_ : c0_ Try.prog 24 0 = some (0, 9, 1) := by kernel_rfl
theorem iZ_ : c0_ Try.prog 24 1 = some (1, 9, 1) := by kernel_rfl
theorem jO_ : c0_ Try.prog 24 2 = some (2, 22, 1) := by kernel_rfl
theorem jg_ : c0_ Try.prog 24 3 = some (3, 22, 1) := by kernel_rfl
theorem lQ_ (W : World) : Rd Try.prog W 24 ah_.cells ah_.wf := by
 intro H enc fuel cs d ps hr
 obtain ⟨fs, _, hfs, _⟩ := ba_ e2_
 have hcl : Try.prog.cellsOf 24 = 4 := by kernel_rfl
 obtain ⟨xs, n, _, _, hlen, hxl, hall⟩ := DataW.trod_struct hfs hr
 rw [hcl] at hlen
 obtain ⟨fs0, f0, u0, v0, o0, y0, z0⟩ := ba_ e2_
 rw [hfs] at u0; simp only [Option.some.injEq, TypeDesc.struct.injEq] at u0; subst u0
 obtain ⟨x0, w0, r0⟩ := dA_ (sz := 1) hall hxl v0 o0 (by rw [y0]; exact z0) (by rw [y0]; exact ja_ W)
 obtain ⟨fs1, f1, u1, v1, o1, y1, z1⟩ := ba_ iZ_
 rw [hfs] at u1; simp only [Option.some.injEq, TypeDesc.struct.injEq] at u1; subst u1
 obtain ⟨x1, w1, r1⟩ := dA_ (sz := 1) hall hxl v1 o1 (by rw [y1]; exact z1) (by rw [y1]; exact ja_ W)
 obtain ⟨fs2, f2, u2, v2, o2, y2, z2⟩ := ba_ jO_
 rw [hfs] at u2; simp only [Option.some.injEq, TypeDesc.struct.injEq] at u2; subst u2
 obtain ⟨x2, w2, r2⟩ := dA_ (sz := 1) hall hxl v2 o2 (by rw [y2]; exact z2) (by rw [y2]; exact ik_ W)
 obtain ⟨fs3, f3, u3, v3, o3, y3, z3⟩ := ba_ jg_
 rw [hfs] at u3; simp only [Option.some.injEq, TypeDesc.struct.injEq] at u3; subst u3
 obtain ⟨x3, w3, r3⟩ := dA_ (sz := 1) hall hxl v3 o3 (by rw [y3]; exact z3) (by rw [y3]; exact ik_ W)
 refine ⟨⟨x0, x1, x2, x3⟩, ⟨w0, w1, w2, w3, trivial⟩, ?_⟩
 have s4 : ad_ (Sit.all W) [] (cs.drop 4) := fc_ _ (drop_eq_nil_of_le (by omega))
 have s3 : ad_ (Sit.all W) ((do_ 1 aD_) x3 ++ ([])) (cs.drop 3) := cS_ (o := 3) r3 s4
 have s2 : ad_ (Sit.all W) ((do_ 1 aD_) x2 ++ ((do_ 1 aD_) x3 ++ ([]))) (cs.drop 2) := cS_ (o := 2) r2 s3
 have s1 : ad_ (Sit.all W) (aD_ x1 ++ ((do_ 1 aD_) x2 ++ ((do_ 1 aD_) x3 ++ ([])))) (cs.drop 1) := cS_ (o := 1) r1 s2
 have s0 : ad_ (Sit.all W) (aD_ x0 ++ (aD_ x1 ++ ((do_ 1 aD_) x2 ++ ((do_ 1 aD_) x3 ++ ([]))))) (cs.drop 0) := cS_ (o := 0) r0 s1
 rw [drop_zero] at s0
 exact s0
theorem e1_ : c0_ Try.prog 32 0 = some (0, 22, 1) := by kernel_rfl
theorem l3_ (W : World) : Rd Try.prog W 32 aq_.cells aq_.wf := by
 intro H enc fuel cs d ps hr
 obtain ⟨fs, _, hfs, _⟩ := ba_ e1_
 have hcl : Try.prog.cellsOf 32 = 1 := by kernel_rfl
 obtain ⟨xs, n, _, _, hlen, hxl, hall⟩ := DataW.trod_struct hfs hr
 rw [hcl] at hlen
 obtain ⟨fs0, f0, u0, v0, o0, y0, z0⟩ := ba_ e1_
 rw [hfs] at u0; simp only [Option.some.injEq, TypeDesc.struct.injEq] at u0; subst u0
 obtain ⟨x0, w0, r0⟩ := dA_ (sz := 1) hall hxl v0 o0 (by rw [y0]; exact z0) (by rw [y0]; exact ik_ W)
 refine ⟨⟨x0⟩, ⟨w0, trivial⟩, ?_⟩
 have s1 : ad_ (Sit.all W) [] (cs.drop 1) := fc_ _ (drop_eq_nil_of_le (by omega))
 have s0 : ad_ (Sit.all W) ((do_ 1 aD_) x0 ++ ([])) (cs.drop 0) := cS_ (o := 0) r0 s1
 rw [drop_zero] at s0
 exact s0
theorem me_ (W : World) : bp_ Try.prog (Sit.all W) := by
 constructor
 ·intro p hp g hg
  simp only [lj_, mem_singleton] at hp
  subst hp
  have e : Try.prog.globalNamed "internal/strconv.uint64pow10" = none := by kernel_rfl
  rw [e] at hg
  cases hg
 ·intro g hg
  have e : Try.prog.globalNamed "internal/bytealg.NoLen" = none := by kernel_rfl
  rw [e] at hg
  cases hg
theorem mixed : Try.prog.follows .mixedOrders = true := by kernel_rfl
end Go.Proofs.Ytkddmakjmjmokaa
