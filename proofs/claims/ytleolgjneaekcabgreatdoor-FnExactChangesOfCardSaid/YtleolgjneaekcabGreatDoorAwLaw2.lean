/-
  AW, part 36: marks of a struct that a call has given.
-/
import Derived.Test.YtleolgjneaekcabGreatDoorAwLaw
import Derived.Test.YtleolgjneaekcabGreatDoorAwMark2
namespace Go.AW
set_option linter.unusedVariables false
set_option linter.unusedSimpArgs false
variable {mt : Int → ByteArray}
theorem cntTop_mk : ∀ (fs : List Sch) (cs : List AV) (k : Int), shEl fs cs → cntTop fs (mkTop mt fs cs k).1 = cntTop fs cs
  | [], cs, k, h => by simp [mkTop, cntTop]
  | .list fs :: ss, cs, k, h => by
    unfold shEl at h
    obtain ⟨c, r, rfl, h1, h2⟩ := h
    simp only [mkTop, cntTop]
    rw [cntCell_mk _ c k h1, cntTop_mk ss r _ h2]
  | .int :: ss, cs, k, h => by
    unfold shEl at h
    obtain ⟨c, r, rfl, h1, h2⟩ := h
    simp only [mkTop, cntTop]
    exact cntTop_mk ss r _ h2
  | .str :: ss, cs, k, h => by
    unfold shEl at h
    obtain ⟨c, r, rfl, h1, h2⟩ := h
    simp only [mkTop, cntTop]
    exact cntTop_mk ss r _ h2
  | .bool :: ss, cs, k, h => by
    unfold shEl at h
    obtain ⟨c, r, rfl, h1, h2⟩ := h
    simp only [mkTop, cntTop]
    exact cntTop_mk ss r _ h2
theorem shEl_flat : ∀ (fs : List Sch) (cs : List AV), shEl fs cs → cs.all AV.flat = true
  | [], cs, h => by unfold shEl at h; subst h; rfl
  | s :: ss, cs, h => by
    unfold shEl at h
    obtain ⟨c, r, rfl, h1, h2⟩ := h
    rw [List.all_cons, shEl_flat ss r h2, Bool.and_true]
    cases s <;> (unfold shCell at h1; obtain ⟨_, h1⟩ := h1) <;> first | (subst h1; rfl) | (obtain ⟨rfl, _⟩ := h1; rfl)
theorem post_cell2 {t : Nat → AV} {h : List Row} (a s : Nat) (n : Option Nat) (K : AV → List Row → Prop) : fnPost [.cell a n, .tmp s] K .ret t h = match opEval t h (.load n (.tmp a)) with | some av => K (.tup [av, t s]) h | none => False := by
  simp only [fnPost, resAV, List.mapM_cons, List.mapM_nil]
  cases opEval t h (.load n (.tmp a)) <;> simp [retOf]
end Go.AW
