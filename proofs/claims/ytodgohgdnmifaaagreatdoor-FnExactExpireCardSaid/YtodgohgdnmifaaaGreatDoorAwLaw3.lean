/-
 AW, part 46: a call with several results that hold memory: each has rows of its own.
-/
import Derived.Test.YtodgohgdnmifaaaGreatDoorAwC
namespace Go.AW
open List
open Go.RowKit
set_option linter.unusedVariables false
set_option linter.unusedSimpArgs false
structure FX (f : List Nat) (H : List Row) (a r : AV) : Prop where
 tree : ∃ n, Own H n a r f
 one : f.Nodup
 lt : ∀ l ∈ f, l < H.length
structure FXL (f : List Nat) (H : List Row) (as rs : List AV) : Prop where
 tree : ∃ n, au_ (Own H n) as rs f
 one : f.Nodup
 lt : ∀ l ∈ f, l < H.length
section
variable {lo hi : Nat} {f g : List Nat} {H H' : List Row} {a r : AV} {as rs : List AV}
theorem FX.keep (h : FX f H a r) (hk : ∀ l ∈ f, H'[l]? = H[l]?) (hl : H.length ≤ H'.length) : FX f H' a r := by
 obtain ⟨⟨n, h1⟩, h2, h3⟩ := h
 exact ⟨⟨n, h1.keep hk⟩, h2, fun l q => Nat.lt_of_lt_of_le (h3 l q) hl⟩
theorem FX.more (h : FX f H a r) (m : aK_ H H') : FX f H' a r := h.keep (fun l q => m.kept l (h.lt l q)) m.len
theorem FX.but (h : FX f H a r) (m : But g H H') (d : ∀ l ∈ f, l ∉ g) : FX f H' a r := h.keep (fun l q => m.kept l (h.lt l q) (d l q)) m.len
theorem FX.arg (h : FX f H a r) : a7_ H a r := by
 obtain ⟨⟨n, h1⟩, _⟩ := h
 exact .inr ⟨n, f, h1⟩
theorem FB.untupX (h : FB lo hi H (.tup as) (.tup rs)) : ∃ f, FXL f H as rs ∧ ∀ l ∈ f, lo ≤ l ∧ l < hi := by
 have h4 := h.le
 obtain ⟨n, fs, h1, h2, h3⟩ := h.tree.untup
 exact ⟨fs, ⟨⟨n, h1⟩, h2, fun l q => by have := h3 l q; omega⟩, h3⟩
theorem FXL.head (h : FXL f H (a :: as) (r :: rs)) : ∃ g k, FX g H a r ∧ FXL k H as rs ∧ (∀ l ∈ g, l ∈ f) ∧ (∀ l ∈ k, l ∈ f) ∧ ∀ l ∈ g, l ∉ k := by
 obtain ⟨⟨n, h1⟩, h2, h3⟩ := h
 obtain ⟨d, ds, g, k, e1, rfl, q1, q2⟩ := h1
 simp only [List.cons.injEq] at e1
 obtain ⟨rfl, rfl⟩ := e1
 obtain ⟨p1, p2, p3⟩ := nodup_append.1 h2
 exact ⟨g, k, ⟨⟨n, q1⟩, p1, fun l q => h3 l (mem_append_left _ q)⟩, ⟨⟨n, q2⟩, p2, fun l q => h3 l (mem_append_right _ q)⟩, fun l q => mem_append_left _ q, fun l q => mem_append_right _ q, fun l q q2 => p3 l q l q2 rfl⟩
theorem FXL.val {v u : Value} (h : FXL f H (.val v :: as) (.val u :: rs)) : AV.val v = AV.val u := by
 obtain ⟨⟨n, h1⟩, _⟩ := h
 obtain ⟨d, ds, g, k, e1, rfl, q1, q2⟩ := h1
 simp only [List.cons.injEq] at e1
 obtain ⟨rfl, rfl⟩ := e1
 exact q1.of_val.2
end
theorem o9_ {P : Program} {F : FuncId} {mt : Int → ByteArray} {fs : List Sch} (hc : fp_ P F mt fs) {g : List Nat} {H : List Row} {a : AV} {es : List (List AV)} {k : Int} {K : AV → List Row → Prop} (ha : FX g H a (.list 0 fs.length es)) (hsh : ∀ e ∈ es, aM_ fs e) (hk : 0 ≤ k) (hb : k + aT_ (aJ_ fs) es ≤ 4611686018427387904)
 (hK : ∀ H', But g H H' → FX g H' a (.list 0 fs.length (aC_ (aZ_ mt fs) es k).1) → K (.val (.int .i64 (aC_ (aZ_ mt fs) es k).2)) H') : callSem P F [a, .val (.int .i64 k)] H K := by
 obtain ⟨⟨n, h1⟩, h2, h3⟩ := ha
 refine hc n a es g H k K h1 h2 hsh hk hb fun H' m' e1 e2 e3 => hK H' ⟨by omega, fun l _ hg => e2 l hg⟩ ⟨⟨m', e3⟩, h2, fun l q => by have := h3 l q; omega⟩
theorem w4_ {P : Program} {F : FuncId} {mt : Int → ByteArray} {fs : List Sch} (hc : po_ P F mt fs) {g : List Nat} {H : List Row} {cs ds : List AV} {k : Int} {K : AV → List Row → Prop} (ha : FX g H (.agg cs) (.agg ds)) (hsh : aM_ fs ds) (hk : 0 ≤ k) (hb : k + bG_ fs ds ≤ 4611686018427387904)
 (hK : ∀ H', But g H H' → FX g H' (.agg cs) (.agg (bc_ mt fs ds k).1) → K (.val (.int .i64 (bc_ mt fs ds k).2)) H') : callSem P F [.agg cs, .val (.int .i64 k)] H K := by
 obtain ⟨⟨n, h1⟩, h2, h3⟩ := ha
 cases n with
 | zero => exact h1.elim
 | succ n =>
  obtain ⟨ds', q1, q2⟩ := h1
  cases q2
  refine hc n cs ds g H k K q1 h2 hsh hk hb fun H' e1 e2 ⟨m', e3⟩ => hK H' ⟨e1, fun l hl hg => e2 l hl hg⟩ ⟨⟨m' + 1, _, e3, rfl⟩, h2, fun l q => by have := h3 l q; omega⟩
end Go.AW
