/-
 Contracts of functions of this program, over abstract values. Conditions: as each theorem says.
-/
import Derived.Test.YtclhpcfpchpbnaaGreatDoorFnTR
namespace Go.Proofs.YtclhpcfpchpbnaaGreatDoor
open Go.AW
set_option linter.unusedVariables false
set_option linter.unusedSimpArgs false
set_option maxRecDepth 4000

def c174 : LC :=
 .seq (.ops [⟨some 2, none, .mov (.const (.slice none 0 0))⟩]) (.seq (.seq (.ops [⟨some 3, none, .mov (.tmp 0)⟩, ⟨some 4, none, .isNil false (.tmp 3)⟩]) (.cond (.tmp 4) (.seq (.ops [⟨some 2, none, .mov (.const (.slice none
 0 0))⟩]) (.ghost .ret)) (.skip))) (.seq (.ops [⟨some 5, none, .buildSlice 9 1 (.string ⟨#[]⟩) 0 []⟩, ⟨some 6, none, .mov (.tmp 0)⟩, ⟨some 7, none, .append 9 1 16 (.tmp 5) (.tmp 6)⟩, ⟨some 2, none, .mov (.tmp 7)⟩]) (.ghost
 .ret)))
def lf174 : LF := { np := 1, N := 8, body := c174, res := [.tmp 2] }
theorem low174 : LowF Tryz.prog Tryz.f174 lf174 := LowF.mk' (by kernel_rfl) (by kernel_rfl) (by kernel_rfl) (by decide)

theorem slices_Clone_string_fresh (xs : List ByteArray) (hx : xs.length ≤ 1048576) : FreshCall Tryz.prog 174 [.list 0 1 (xs.map cStr)] (.list 0 1 (xs.map cStr)) (fun a => ∃ l, a = .own l xs.length) := by
 refine fresh_fn2 mixed Tryz.func174 low174 rfl (fun h0 => ?_)
 have hv : ∀ e ∈ xs.map cStr, ∀ c ∈ e, ∃ v, c = AV.val v := by
  intro e he c hc
  obtain ⟨x, _, q⟩ := List.mem_map.1 he; subst q
  simp only [cStr, List.mem_cons, List.not_mem_nil, or_false] at hc
  first | (rcases hc with rfl) | (rcases hc with rfl | rfl) | (rcases hc with rfl | rfl | rfl)
  all_goals exact ⟨_, rfl⟩
 have hcell : ∀ e ∈ xs.map cStr, e.all AV.cell = true := by
  intro e he
  obtain ⟨x, _, q⟩ := List.mem_map.1 he; subst q; rfl
 simp (disch := omega) only [lf174, c174, go_sem, reduceCtorEq, ↓reduceIte]
 intro b hb
 cases b
 ·simp (disch := omega) only [bne_self_eq_false, go_sem, Nat.reduceEqDiff, reduceCtorEq, ↓reduceIte]
  refine ⟨by omega, by omega, hcell, ?_⟩
  try simp (disch := omega) only [go_sem, Nat.reduceEqDiff, Nat.reduceAdd, Nat.reduceLeDiff, reduceCtorEq, Int.reduceLT, Int.reduceLE, Int.reduceNeg, Int.reduceSub, Int.reduceAdd, Int.reduceToNat, ↓reduceIte]
  refine Ex_ghost _ _ ghost_id ?_
  simp (disch := omega) only [go_sem, ↓reduceIte]
  exact ⟨⟨More.app _ _, (FreshB.mkown (lo := h0.length + 1) (hi := h0.length + 1) (FreshLLB.ofVals _ _ _ _ hv) (by rw [getA0]; rfl) (by simp) (Nat.le_refl _) (Nat.lt_succ_self _) (Nat.le_refl _)).widen (Nat.le_refl _) (by simp)⟩, _, rfl⟩
 ·have hx0 : xs = [] := by simpa using hb rfl
  subst hx0
  simp (disch := omega) only [Bool.bne_false, List.map_nil, go_sem]
  refine Ex_ghost _ _ (ghost_tmp 2 9 1 rfl) ?_
  simp (disch := omega) only [go_sem, ↓reduceIte]
  exact ⟨⟨More.app _ _, (FreshB.mkown (lo := h0.length + 1) (hi := h0.length + 1) (FreshLLB.nil _ _ _) (by rw [getA0]; rfl) (by simp) (Nat.le_refl _) (Nat.lt_succ_self _) (Nat.le_refl _)).widen (Nat.le_refl _) (by simp)⟩, _, rfl⟩

end Go.Proofs.YtclhpcfpchpbnaaGreatDoor
