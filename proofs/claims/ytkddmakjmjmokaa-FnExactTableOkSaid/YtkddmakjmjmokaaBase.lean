/-
 The data types of the laws arguments, and that the arguments of a row, read as data, are such data. No conditions.
-/
import Derived.Test.YtkddmakjmjmokaaProg
import Derived.Test.YtkddmakjmjmokaaAwB
import Derived.KernelRfl
namespace Go.Proofs.Ytkddmakjmjmokaa
open Go.AW
set_option linter.unusedVariables false
structure ai_ where
 Name : ByteArray
 Global : ByteArray
 Columns : List ByteArray
 Indexes : List ByteArray
def ai_.cells (x : ai_) : List AV := [.val (.string x.Name), .val (.string x.Global), .list 0 1 (x.Columns.map aA_), .list 0 1 (x.Indexes.map aA_)]
def ai_.wf (x : ai_) : Prop := b7_ x.Name ∧ b7_ x.Global ∧ (dU_ b7_) x.Columns ∧ (dU_ b7_) x.Indexes ∧ True
def ai_.sz (x : ai_) : Nat := ByteArray.size x.Name + ByteArray.size x.Global + (ax_ ByteArray.size) x.Columns + (ax_ ByteArray.size) x.Indexes
theorem ai_.sz_Name {x : ai_} {b : Nat} (h : ai_.sz x ≤ b) : ByteArray.size x.Name ≤ b := by unfold ai_.sz at h; omega
theorem ai_.sz_Global {x : ai_} {b : Nat} (h : ai_.sz x ≤ b) : ByteArray.size x.Global ≤ b := by unfold ai_.sz at h; omega
theorem ai_.sz_Columns {x : ai_} {b : Nat} (h : ai_.sz x ≤ b) : (ax_ ByteArray.size) x.Columns ≤ b := by unfold ai_.sz at h; omega
theorem ai_.sz_Indexes {x : ai_} {b : Nat} (h : ai_.sz x ≤ b) : (ax_ ByteArray.size) x.Indexes ≤ b := by unfold ai_.sz at h; omega
structure fD_ where
 Cells : List ByteArray
def fD_.cells (x : fD_) : List AV := [.list 0 1 (x.Cells.map aA_)]
def fD_.wf (x : fD_) : Prop := (dU_ b7_) x.Cells ∧ True
def fD_.sz (x : fD_) : Nat := (ax_ ByteArray.size) x.Cells
theorem iH_ (W : World) : Rd Try.prog W 9 aA_ b7_ := h0_ (by kernel_rfl)
theorem kJ_ : ∃ i, Try.prog.info? 9 = some i ∧ i.size = 1 := jy_ (by kernel_rfl)
theorem jm_ (W : World) : Rd Try.prog W 22 (fun xs : List ByteArray => dv_ 1 aA_ xs) (dU_ b7_) := by
 obtain ⟨i, h1, h2⟩ := kJ_
 exact iT_ (by kernel_rfl) h1 h2 (by decide) (fun _ => rfl) (iH_ W)
theorem e0_ : dj_ Try.prog 24 0 = some (0, 9, 1) := by kernel_rfl
theorem i7_ : dj_ Try.prog 24 1 = some (1, 9, 1) := by kernel_rfl
theorem iE_ : dj_ Try.prog 24 2 = some (2, 22, 1) := by kernel_rfl
theorem iN_ : dj_ Try.prog 24 3 = some (3, 22, 1) := by kernel_rfl
theorem lb_ (W : World) : Rd Try.prog W 24 ai_.cells ai_.wf := by
 intro H enc fuel cs d ps hr
 obtain ⟨fs, _, hfs, _⟩ := bO_ e0_
 have hcl : Try.prog.cellsOf 24 = 4 := by kernel_rfl
 obtain ⟨xs, n, _, _, hlen, hxl, hall⟩ := DataW.trod_struct hfs hr
 rw [hcl] at hlen
 obtain ⟨fs0, f0, u0, v0, o0, y0, z0⟩ := bO_ e0_
 rw [hfs] at u0; simp only [Option.some.injEq, TypeDesc.struct.injEq] at u0; subst u0
 obtain ⟨x0, w0, r0⟩ := ea_ (sz := 1) hall hxl v0 o0 (by rw [y0]; exact z0) (by rw [y0]; exact iH_ W)
 obtain ⟨fs1, f1, u1, v1, o1, y1, z1⟩ := bO_ i7_
 rw [hfs] at u1; simp only [Option.some.injEq, TypeDesc.struct.injEq] at u1; subst u1
 obtain ⟨x1, w1, r1⟩ := ea_ (sz := 1) hall hxl v1 o1 (by rw [y1]; exact z1) (by rw [y1]; exact iH_ W)
 obtain ⟨fs2, f2, u2, v2, o2, y2, z2⟩ := bO_ iE_
 rw [hfs] at u2; simp only [Option.some.injEq, TypeDesc.struct.injEq] at u2; subst u2
 obtain ⟨x2, w2, r2⟩ := ea_ (sz := 1) hall hxl v2 o2 (by rw [y2]; exact z2) (by rw [y2]; exact jm_ W)
 obtain ⟨fs3, f3, u3, v3, o3, y3, z3⟩ := bO_ iN_
 rw [hfs] at u3; simp only [Option.some.injEq, TypeDesc.struct.injEq] at u3; subst u3
 obtain ⟨x3, w3, r3⟩ := ea_ (sz := 1) hall hxl v3 o3 (by rw [y3]; exact z3) (by rw [y3]; exact jm_ W)
 refine ⟨⟨x0, x1, x2, x3⟩, ⟨w0, w1, w2, w3, trivial⟩, ?_⟩
 have s4 : ad_ (Sit.all W) [] (cs.drop 4) := gu_ _ (List.drop_eq_nil_of_le (by omega))
 have s3 : ad_ (Sit.all W) ((dv_ 1 aA_) x3 ++ ([])) (cs.drop 3) := df_ (o := 3) r3 s4
 have s2 : ad_ (Sit.all W) ((dv_ 1 aA_) x2 ++ ((dv_ 1 aA_) x3 ++ ([]))) (cs.drop 2) := df_ (o := 2) r2 s3
 have s1 : ad_ (Sit.all W) (aA_ x1 ++ ((dv_ 1 aA_) x2 ++ ((dv_ 1 aA_) x3 ++ ([])))) (cs.drop 1) := df_ (o := 1) r1 s2
 have s0 : ad_ (Sit.all W) (aA_ x0 ++ (aA_ x1 ++ ((dv_ 1 aA_) x2 ++ ((dv_ 1 aA_) x3 ++ ([]))))) (cs.drop 0) := df_ (o := 0) r0 s1
 rw [List.drop_zero] at s0
 exact s0
theorem lw_ (W : World) : bq_ Try.prog (Sit.all W) := by
 constructor
 ·intro p hp g hg
  simp only [kI_, List.mem_singleton] at hp
  subst hp
  have e : Try.prog.globalNamed "internal/strconv.uint64pow10" = none := by kernel_rfl
  rw [e] at hg
  cases hg
 ·intro g hg
  have e : Try.prog.globalNamed "internal/bytealg.NoLen" = none := by kernel_rfl
  rw [e] at hg
  cases hg
theorem mixed : Try.prog.follows .mixedOrders = true := by kernel_rfl
end Go.Proofs.Ytkddmakjmjmokaa
