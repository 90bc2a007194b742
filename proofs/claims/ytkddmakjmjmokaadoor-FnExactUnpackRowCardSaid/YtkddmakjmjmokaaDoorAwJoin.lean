/-
  AW: the library's joining of texts, over a list that is only read.
-/
import Derived.Test.YtkddmakjmjmokaaDoorAwC
import Derived.Lib.Join
namespace Go.AW
open Go.RowKit (Below)
set_option linter.unusedVariables false

def joinT (xs : List ByteArray) (sep : ByteArray) : ByteArray := ⟨(Lib.join (xs.map (·.data.toList)) sep.data.toList).toArray⟩
theorem join_pure {P : Program} {f : FuncId}
    (hN : ∀ (a : Option Addr) (c : Nat) (sep : ByteArray) (w : World), Calls P f #[.slice a 0 c, .string sep] w fun e w' => e = .returned (.string ⟨#[]⟩) ∧ w' = w)
    (hJ : ∀ (bk o c : Nat) (xs : List ByteArray) (sep : ByteArray) (w : World), (∀ (j : Nat) x, xs[j]? = some x → w.cell? ⟨bk, o + j, none⟩ = some (.string x)) → bk < w.heap.size → xs.length ≤ 140737488355328 → xs.length ≤ c → (Lib.join (xs.map (·.data.toList)) sep.data.toList).length ≤ 140737488355328 →
      Calls P f #[.slice (some ⟨bk, o, none⟩) xs.length c, .string sep] w fun e w' => e = .returned (.string ⟨(Lib.join (xs.map (·.data.toList)) sep.data.toList).toArray⟩) ∧ Below w.heap.size w w')
    (xs : List ByteArray) (sep : ByteArray) (hx : xs.length ≤ 1048576) (hl : (joinT xs sep).size ≤ 140737488355328) (h : List Row) : PureCall P f [.list 0 1 (xs.map fun s => [.val (.string s)]), .val (.string sep)] h (.val (.string (joinT xs sep))) := by
  intro K hk S w vals hm hgl hr
  simp only [RepL] at hr
  obtain ⟨x, r, e, rx, y, r2, e2, ry, e3⟩ := hr
  subst e3 e2
  simp only [Rep] at rx ry
  subst ry
  have e' : vals = #[x, .string sep] := by cases vals; simp at e; rw [e]
  subst e'
  have hl2 : (Lib.join (xs.map (·.data.toList)) sep.data.toList).length ≤ 140737488355328 := by
    have : (joinT xs sep).size = (Lib.join (xs.map (·.data.toList)) sep.data.toList).length := by simp [joinT, ByteArray.size]
    omega
  rcases rx with ⟨z1, _, p, cc, z2⟩ | ⟨b', off, cap, c', z1, z2, z3, z4, z5, z6, z7⟩
  · have : xs = [] := by simpa using z1
    subst this z2
    refine (hN p cc sep w).mono ?_
    rintro e w' ⟨rfl, rfl⟩
    exact ⟨_, .val _, S, h, rfl, Step.refl _ _, hm, by simp [Rep, joinT, Lib.join], hk⟩
  · rw [List.length_map] at z1 z2
    subst z1
    obtain ⟨E', fr, hbk⟩ := hm.imm b' c' z3
    rw [RepLL_iff (sz := 1) (fun e he => by obtain ⟨s, _, q⟩ := List.mem_map.1 he; subst q; rfl)] at z7
    refine (hJ b' off cap xs sep w (fun j x hj => ?_) (hm.immLt z3) (by omega) z2 hl2).mono ?_
    · obtain ⟨v, h1, h2⟩ := z7 j [.val (.string x)] (by rw [List.getElem?_map, hj]; rfl) 0 _ rfl
      simp only [Rep] at h2
      subst h2
      rw [List.getElem?_drop] at h1
      have h8 : c'[off + j]? = some (.string x) := by simpa using h1
      simp only [World.cell?, hbk, h8]
      rfl
    · rintro e w' ⟨rfl, hB⟩
      exact ⟨_, .val _, S, h, rfl, Step.below hB, hm.below hB, by simp [Rep, joinT], hk⟩
end Go.AW
