/-
 Contracts of functions of this program, over abstract values. Conditions: as each theorem says.
-/
import Derived.Test.YtclhpcfpchpbnaaGreatDoorFnVF
import Derived.Test.YtclhpcfpchpbnaaGreatDoorFnUB
namespace Go.Proofs.YtclhpcfpchpbnaaGreatDoor
open Go.AW
set_option linter.unusedVariables false
set_option linter.unusedSimpArgs false
set_option maxRecDepth 4000

theorem idxFrom_find {α : Type} (p : α → Bool) : ∀ (xs : List α) (k : Nat), (idxFrom p xs k = -1 ∧ ∀ c ∈ xs, p c = false) ∨ ∃ i, ∃ hi : i < xs.length, idxFrom p xs k = ((k + i : Nat) : Int) ∧ p xs[i] = true
 | [], k => .inl ⟨rfl, fun _ h => by simp at h⟩
 | x :: r, k => by
  by_cases q : p x = true
  ·exact .inr ⟨0, by simp, by simp [idxFrom, q], by simpa using q⟩
  ·have q' : p x = false := by simpa using q
   rcases idxFrom_find p r (k + 1) with ⟨h1, h2⟩ | ⟨i, hi, h1, h2⟩
   ·refine .inl ⟨?_, fun c hc => ?_⟩
    ·unfold idxFrom; rw [q']; simpa using h1
    ·rcases List.mem_cons.1 hc with e | e
     ·subst e; exact q'
     ·exact h2 c e
   ·refine .inr ⟨i + 1, by simpa using hi, ?_, by simpa using h2⟩
    unfold idxFrom; rw [q']
    simp only [Bool.false_eq_true, if_false]
    rw [h1]; congr 1; omega
theorem cells_one {cs : List GCell} (h : cs.Pairwise fun a b => ltCell a b = true) {i j : Nat} (hi : i < cs.length) (hj : j < cs.length) (e : cs[i].Id = cs[j].Id) : i = j := by
 rcases Nat.lt_trichotomy i j with q | q | q
 ·have := List.pairwise_iff_getElem.1 h i j hi hj q
  simp only [ltCell, decide_eq_true_eq] at this; omega
 ·exact q
 ·have := List.pairwise_iff_getElem.1 h j i hj hi q
  simp only [ltCell, decide_eq_true_eq] at this; omega
theorem cell_at {x : GLocals} (hs : x.Cells.Pairwise fun a b => ltCell a b = true) {j : Int} (h : hasCell x j = true) : posC x.Cells j < x.Cells.length ∧ cellIx x j = (posC x.Cells j : Int) := by
 have h' := h
 unfold hasCell at h
 rw [← foundC_any hs] at h
 unfold foundC at h
 split at h
 ·rename_i c hc
  obtain ⟨hp, rfl⟩ := List.getElem?_eq_some_iff.1 hc
  refine ⟨hp, ?_⟩
  rcases idxFrom_find (isId j) x.Cells 0 with ⟨h1, h2⟩ | ⟨i, hi, h1, h2⟩
  ·exact absurd h (by rw [h2 _ (List.getElem_mem hp)]; simp)
  ·simp only [isId, decide_eq_true_eq] at h h2
   have := cells_one hs hi hp (h2.trans h.symm)
   subst this
   unfold cellIx
   rw [h1]; congr 1; omega
 ·cases h
/-- The tree that a name has. -/
def treeOf (x : GLocals) (n : ByteArray) : GTree := if hasCell x (cellAt x.Binds n) = true then (match x.Cells[posC x.Cells (cellAt x.Binds n)]? with | some c => c.Tree | none => ⟨[]⟩) else ⟨[]⟩
theorem treeOf_yes {x : GLocals} {n : ByteArray} (h : hasCell x (cellAt x.Binds n) = true) (hp : posC x.Cells (cellAt x.Binds n) < x.Cells.length) : treeOf x n = x.Cells[posC x.Cells (cellAt x.Binds n)].Tree := by
 unfold treeOf; rw [if_pos h, List.getElem?_eq_getElem hp]
theorem locals_sorted {x : GLocals} (h : localsOk x = true) : (x.Cells.Pairwise fun a b => ltCell a b = true) ∧ x.Binds.Pairwise fun a b => ltBind a b = true := by
 simp only [localsOk, Bool.and_eq_true] at h
 exact ⟨cells_sorted h.1.1.1, (prevGo_sorted ltBind_trans _ _ h.1.2).1⟩
def c62 : LC :=
 .seq (.ops [⟨some 4, none, .mov (.const (.pointer none))⟩]) (.seq (.ops [⟨some 8, none, .mov (.tmp 0)⟩, ⟨some 9, none, .mov (.tmp 0)⟩, ⟨some 10, none, .mov (.tmp 1)⟩, ⟨some 11, none, .call 127 [.tmp 9, .tmp 10]⟩, ⟨some
 12, none, .call 51 [.tmp 8, .tmp 11]⟩, ⟨some 7, none, .mov (.tmp 12)⟩, ⟨some 13, none, .extract (.tmp 7) 0⟩, ⟨some 14, none, .extract (.tmp 7) 1⟩, ⟨some 5, none, .mov (.tmp 13)⟩, ⟨some 6, none, .mov (.tmp 14)⟩]) (.seq
 (.seq (.ops [⟨some 15, none, .mov (.tmp 6)⟩, ⟨some 16, none, .un .not (.tmp 15)⟩]) (.cond (.tmp 16) (.seq (.ops [⟨some 4, none, .mov (.const (.pointer none))⟩]) (.ret)) (.skip))) (.seq (.ops [⟨some 17, none, .mov (.tmp
 0)⟩, ⟨some 18, none, .nilCheck (.tmp 17)⟩, ⟨some 19, none, .fieldAddr 2 (.tmp 18)⟩, ⟨some 20, none, .load none (.tmp 19)⟩, ⟨some 21, none, .mov (.tmp 5)⟩, ⟨some 22, none, .indexAddr 2 (.tmp 20) (.tmp 21)⟩, ⟨some 23, none,
 .fieldAddr 1 (.tmp 22)⟩, ⟨some 4, none, .mov (.tmp 23)⟩]) (.ret))))
def lf62 : LF := { np := 2, N := 24, body := c62, res := [.tmp 4] }
theorem low62 : LowF Tryz.prog Tryz.f62 lf62 := LowF.mk' (by kernel_rfl) (by kernel_rfl) (by kernel_rfl) (by decide)

end Go.Proofs.YtclhpcfpchpbnaaGreatDoor
