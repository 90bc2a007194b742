/-
 The data types of the laws arguments, and that the arguments of a row, read as data, are such data. No conditions.
-/
import Derived.Test.YtkddmakjmjmokaaProg
import Derived.Test.YtkddmakjmjmokaaAwB
import Derived.KernelRfl
namespace Go.Proofs.Ytkddmakjmjmokaa
open List
open Go.AW
set_option linter.unusedVariables false
structure af_ where
 Name : ByteArray
 Global : ByteArray
 Columns : List ByteArray
 Indexes : List ByteArray
def af_.cells (x : af_) : List AV := [.val (.string x.Name), .val (.string x.Global), .list 0 1 (x.Columns.map aA_), .list 0 1 (x.Indexes.map aA_)]
def af_.wf (x : af_) : Prop := cr_ x.Name ∧ cr_ x.Global ∧ (ee_ cr_) x.Columns ∧ (ee_ cr_) x.Indexes ∧ True
def af_.sz (x : af_) : Nat := ByteArray.size x.Name + ByteArray.size x.Global + (ar_ ByteArray.size) x.Columns + (ar_ ByteArray.size) x.Indexes
theorem af_.sz_Name {x : af_} {b : Nat} (h : af_.sz x ≤ b) : ByteArray.size x.Name ≤ b := by unfold af_.sz at h; omega
theorem af_.sz_Global {x : af_} {b : Nat} (h : af_.sz x ≤ b) : ByteArray.size x.Global ≤ b := by unfold af_.sz at h; omega
theorem af_.sz_Columns {x : af_} {b : Nat} (h : af_.sz x ≤ b) : (ar_ ByteArray.size) x.Columns ≤ b := by unfold af_.sz at h; omega
theorem af_.sz_Indexes {x : af_} {b : Nat} (h : af_.sz x ≤ b) : (ar_ ByteArray.size) x.Indexes ≤ b := by unfold af_.sz at h; omega
structure am_ where
 Cells : List ByteArray
def am_.cells (x : am_) : List AV := [.list 0 1 (x.Cells.map aA_)]
def am_.wf (x : am_) : Prop := (ee_ cr_) x.Cells ∧ True
def am_.sz (x : am_) : Nat := (ar_ ByteArray.size) x.Cells
theorem am_.sz_Cells {x : am_} {b : Nat} (h : am_.sz x ≤ b) : (ar_ ByteArray.size) x.Cells ≤ b := by unfold am_.sz at h; omega
theorem jM_ (W : World) : Rd Try.prog W 9 aA_ cr_ := iD_ (by kernel_rfl)
theorem k7_ : ∃ i, Try.prog.info? 9 = some i ∧ i.size = 1 := ky_ (by kernel_rfl)
theorem ik_ (W : World) : Rd Try.prog W 22 (fun xs : List ByteArray => dv_ 1 aA_ xs) (ee_ cr_) := by
 obtain ⟨i, h1, h2⟩ := k7_
 exact jX_ (by kernel_rfl) h1 h2 (by decide) (fun _ => rfl) (jM_ W)
theorem fi_ : da_ Try.prog 24 0 = some (0, 9, 1) := by kernel_rfl
theorem jD_ : da_ Try.prog 24 1 = some (1, 9, 1) := by kernel_rfl
theorem ji_ : da_ Try.prog 24 2 = some (2, 22, 1) := by kernel_rfl
theorem jj_ : da_ Try.prog 24 3 = some (3, 22, 1) := by kernel_rfl
theorem mc_ (W : World) : Rd Try.prog W 24 af_.cells af_.wf := by
 intro H enc fuel cs d ps hr
 obtain ⟨fs, _, hfs, _⟩ := a9_ fi_
 have hcl : Try.prog.cellsOf 24 = 4 := by kernel_rfl
 obtain ⟨xs, n, _, _, hlen, hxl, hall⟩ := DataW.trod_struct hfs hr
 rw [hcl] at hlen
 obtain ⟨fs0, f0, u0, v0, o0, y0, z0⟩ := a9_ fi_
 rw [hfs] at u0; simp only [Option.some.injEq, TypeDesc.struct.injEq] at u0; subst u0
 obtain ⟨x0, w0, r0⟩ := dJ_ (sz := 1) hall hxl v0 o0 (by rw [y0]; exact z0) (by rw [y0]; exact jM_ W)
 obtain ⟨fs1, f1, u1, v1, o1, y1, z1⟩ := a9_ jD_
 rw [hfs] at u1; simp only [Option.some.injEq, TypeDesc.struct.injEq] at u1; subst u1
 obtain ⟨x1, w1, r1⟩ := dJ_ (sz := 1) hall hxl v1 o1 (by rw [y1]; exact z1) (by rw [y1]; exact jM_ W)
 obtain ⟨fs2, f2, u2, v2, o2, y2, z2⟩ := a9_ ji_
 rw [hfs] at u2; simp only [Option.some.injEq, TypeDesc.struct.injEq] at u2; subst u2
 obtain ⟨x2, w2, r2⟩ := dJ_ (sz := 1) hall hxl v2 o2 (by rw [y2]; exact z2) (by rw [y2]; exact ik_ W)
 obtain ⟨fs3, f3, u3, v3, o3, y3, z3⟩ := a9_ jj_
 rw [hfs] at u3; simp only [Option.some.injEq, TypeDesc.struct.injEq] at u3; subst u3
 obtain ⟨x3, w3, r3⟩ := dJ_ (sz := 1) hall hxl v3 o3 (by rw [y3]; exact z3) (by rw [y3]; exact ik_ W)
 refine ⟨⟨x0, x1, x2, x3⟩, ⟨w0, w1, w2, w3, trivial⟩, ?_⟩
 have s4 : ac_ (Sit.all W) [] (cs.drop 4) := fg_ _ (drop_eq_nil_of_le (by omega))
 have s3 : ac_ (Sit.all W) ((dv_ 1 aA_) x3 ++ ([])) (cs.drop 3) := cQ_ (o := 3) r3 s4
 have s2 : ac_ (Sit.all W) ((dv_ 1 aA_) x2 ++ ((dv_ 1 aA_) x3 ++ ([]))) (cs.drop 2) := cQ_ (o := 2) r2 s3
 have s1 : ac_ (Sit.all W) (aA_ x1 ++ ((dv_ 1 aA_) x2 ++ ((dv_ 1 aA_) x3 ++ ([])))) (cs.drop 1) := cQ_ (o := 1) r1 s2
 have s0 : ac_ (Sit.all W) (aA_ x0 ++ (aA_ x1 ++ ((dv_ 1 aA_) x2 ++ ((dv_ 1 aA_) x3 ++ ([]))))) (cs.drop 0) := cQ_ (o := 0) r0 s1
 rw [drop_zero] at s0
 exact s0
theorem fh_ : da_ Try.prog 32 0 = some (0, 22, 1) := by kernel_rfl
theorem ms_ (W : World) : Rd Try.prog W 32 am_.cells am_.wf := by
 intro H enc fuel cs d ps hr
 obtain ⟨fs, _, hfs, _⟩ := a9_ fh_
 have hcl : Try.prog.cellsOf 32 = 1 := by kernel_rfl
 obtain ⟨xs, n, _, _, hlen, hxl, hall⟩ := DataW.trod_struct hfs hr
 rw [hcl] at hlen
 obtain ⟨fs0, f0, u0, v0, o0, y0, z0⟩ := a9_ fh_
 rw [hfs] at u0; simp only [Option.some.injEq, TypeDesc.struct.injEq] at u0; subst u0
 obtain ⟨x0, w0, r0⟩ := dJ_ (sz := 1) hall hxl v0 o0 (by rw [y0]; exact z0) (by rw [y0]; exact ik_ W)
 refine ⟨⟨x0⟩, ⟨w0, trivial⟩, ?_⟩
 have s1 : ac_ (Sit.all W) [] (cs.drop 1) := fg_ _ (drop_eq_nil_of_le (by omega))
 have s0 : ac_ (Sit.all W) ((dv_ 1 aA_) x0 ++ ([])) (cs.drop 0) := cQ_ (o := 0) r0 s1
 rw [drop_zero] at s0
 exact s0
theorem my_ (W : World) : bq_ Try.prog (Sit.all W) := by
 constructor
 ·intro p hp g hg
  simp only [k5_, mem_singleton] at hp
  subst hp
  have e : Try.prog.globalNamed "internal/strconv.uint64pow10" = none := by kernel_rfl
  rw [e] at hg
  cases hg
 ·intro g hg
  have e : Try.prog.globalNamed "internal/bytealg.NoLen" = none := by kernel_rfl
  rw [e] at hg
  cases hg
theorem mixed : Try.prog.follows .mixedOrders = true := by kernel_rfl
end Go.Proofs.Ytkddmakjmjmokaa
