/-
 Contracts of functions of this program, over abstract values. Conditions: as each theorem says.
-/
import Derived.Test.YtclhpcfpchpbnaaGreatDoorFnTU
namespace Go.Proofs.YtclhpcfpchpbnaaGreatDoor
open Go.AW
set_option linter.unusedVariables false
set_option linter.unusedSimpArgs false
set_option maxRecDepth 4000

theorem strs_fb {H : List Row} {l : Nat} {E : Tag} {xs : List ByteArray} (hl : H[l]? = some ⟨E, 1, xs.map cStr⟩) : FreshB l (l + 1) H (.own l xs.length) (.list 0 1 (xs.map cStr)) :=
 FreshB.mkown (lo := l + 1) (hi := l + 1) (FreshLLB.ofVals _ _ _ _ (by
  intro e he c hc
  obtain ⟨x, _, q⟩ := List.mem_map.1 he; subst q
  simp only [cStr, List.mem_singleton] at hc
  exact ⟨_, hc⟩)) hl (by simp) (Nat.le_refl _) (Nat.lt_succ_self _) (Nat.le_refl _)
theorem strs_cell (xs : List ByteArray) : ∀ e ∈ xs.map cStr, e.all AV.cell = true := by
 intro e he
 obtain ⟨x, _, q⟩ := List.mem_map.1 he; subst q; rfl
def c190 : LC :=
 .seq (.ops [⟨some 2, none, .mov (.const (.slice none 0 0))⟩]) (.seq (.ops [⟨some 3, none, .buildSlice 9 1 (.string ⟨#[]⟩) 0 []⟩, ⟨some 4, none, .mov (.tmp 0)⟩, ⟨some 5, none, .append 9 1 16 (.tmp 3) (.tmp 4)⟩, ⟨some 2,
 none, .mov (.tmp 5)⟩]) (.ret))
def lf190 : LF := { np := 1, N := 6, body := c190, res := [.tmp 2] }
theorem low190 : LowF Tryz.prog Tryz.f190 lf190 := LowF.mk' (by kernel_rfl) (by kernel_rfl) (by kernel_rfl) (by decide)

theorem spec_l03Subs_fresh (xs : List ByteArray) (hx : xs.length ≤ 1048576) : FreshCall Tryz.prog 190 [.list 0 1 (xs.map cStr)] (.list 0 1 (xs.map cStr)) (fun a => ∃ l, a = .own l xs.length) := by
 refine fresh_fn2 mixed Tryz.func190 low190 rfl (fun h0 => ?_)
 simp (disch := omega) only [lf190, c190, go_sem, Nat.reduceEqDiff, reduceCtorEq, ↓reduceIte]
 exact ⟨by omega, by omega, strs_cell xs, ⟨More.app _ _, (strs_fb (by rw [getA0]; rfl)).widen (Nat.le_refl _) (by simp)⟩, _, rfl⟩

end Go.Proofs.YtclhpcfpchpbnaaGreatDoor
