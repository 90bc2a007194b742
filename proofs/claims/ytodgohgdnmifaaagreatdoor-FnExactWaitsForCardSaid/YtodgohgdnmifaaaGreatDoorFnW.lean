/-
  Contracts of functions of this program, over abstract values. Conditions: as each theorem says.
-/
import Derived.Test.YtodgohgdnmifaaaGreatDoorFnV
namespace Go.Proofs.YtodgohgdnmifaaaGreatDoor
open Go.AW
set_option linter.unusedVariables false
set_option linter.unusedSimpArgs false
set_option maxRecDepth 4000

theorem heldGo_all : ∀ (r pre : List GLock), heldGo pre r = true → ∀ a ∈ r, lockOk1 a = true
  | [], pre, _, a, ha => by simp at ha
  | b :: r, pre, h, a, ha => by
    simp only [heldGo, Bool.and_eq_true] at h
    rcases List.mem_cons.1 ha with q | q
    · subst q; exact h.1.1.1
    · exact heldGo_all r _ h.2 a q
theorem locks_all {x : GLocks} (h : locksOkB x = true) : ∀ a ∈ x.Held, lockOk1 a = true := by
  simp only [locksOkB, heldOkB, Bool.and_eq_true] at h
  exact heldGo_all x.Held [] h.2.2
theorem lockLt_congr {a b x : GLock} (h : sameKey a b) : lockLt x a = lockLt x b := by
  obtain ⟨h1, h2, h3⟩ := h
  unfold lockLt cmpLock; rw [h1, h2, h3]
theorem sameKey.symm {a b : GLock} (h : sameKey a b) : sameKey b a := ⟨h.1.symm, h.2.1.symm, h.2.2.symm⟩
theorem sameKey.trans {a b c : GLock} (h : sameKey a b) (k : sameKey b c) : sameKey a c := ⟨h.1.trans k.1, h.2.1.trans k.2.1, h.2.2.trans k.2.2⟩
theorem count_at {x : GLocks} {j : Int} {n : ByteArray} {s : List ByteArray} {m : Nat} (hp : x.Held.Pairwise (fun a b => lockLt a b = true)) (hpart : ∀ (i : Nat) (h : i < x.Held.length), (lockLt x.Held[i] ⟨j, 0, n, s⟩ = true ↔ i < m)) :
    countOf x j n s = if h : m < x.Held.length then (if cmpLock x.Held[m] ⟨j, 0, n, s⟩ = 0 then x.Held[m].Count else 0) else 0 := by
  have hsome : ∀ i (hi : i < x.Held.length), keyIs j n s x.Held[i] = true → i = m := by
    intro i hi hk
    have hs := (keyIs_iff j n s x.Held[i] 0).1 hk
    have h1 : ¬ (i < m) := by
      intro q
      have := (hpart i hi).2 q
      rw [lockLt_irrefl _ _ hs] at this; cases this
    rcases Nat.lt_or_ge m i with q | q
    · exfalso
      have hlt := List.pairwise_iff_getElem.1 hp m i (by omega) hi q
      rw [lockLt_congr hs] at hlt
      have := (hpart m (by omega)).1 hlt
      omega
    · omega
  unfold countOf
  rcases idx_find (keyIs j n s) x.Held 0 with ⟨_, h2⟩ | ⟨i, hi, _, h2⟩
  · rw [h2]
    by_cases hm : m < x.Held.length
    · rw [dif_pos hm]
      have hnone := List.find?_eq_none.1 h2 x.Held[m] (List.getElem_mem hm)
      rw [if_neg]
      intro q
      exact hnone ((keyIs_iff j n s _ 0).2 ((cmpLock_zero _ _).1 q))
    · rw [dif_neg hm]
  · rw [h2]
    have hk : keyIs j n s x.Held[i] = true := List.find?_some h2
    have := hsome i hi hk
    subst this
    rw [dif_pos hi, if_pos ((cmpLock_zero _ _).2 ((keyIs_iff j n s _ 0).1 hk))]
theorem count_none {x : GLocks} {j : Int} {n : ByteArray} {s : List ByteArray} (h : locksOkB x = true) (hno : (within j 1 4 && thing n s) = false) : countOf x j n s = 0 := by
  unfold countOf
  cases hf : x.Held.find? (keyIs j n s) with
  | none => rfl
  | some a =>
    have hk := List.find?_some hf
    have ha := locks_all h a (List.mem_of_find?_eq_some hf)
    have hs := (keyIs_iff j n s a 0).1 hk
    simp only [lockOk1, Bool.and_eq_true] at ha
    have e1 : a.Job = j := hs.1
    have e2 : a.Name = n := hs.2.1
    have e3 : a.Subs = s := hs.2.2
    rw [e1, e2, e3] at ha
    rw [ha.1.1, ha.2] at hno
    simp at hno
end Go.Proofs.YtodgohgdnmifaaaGreatDoor
