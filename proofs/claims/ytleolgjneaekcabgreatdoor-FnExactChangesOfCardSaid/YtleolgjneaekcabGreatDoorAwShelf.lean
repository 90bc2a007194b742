/-
  AW, part 26: contracts of Go's library, as the kit's shelf states them, taken over.
-/
import Derived.Test.YtleolgjneaekcabGreatDoorAwAuto
import Derived.Lib.LaidTab
import Derived.Below
namespace Go.AW
open Go.RowKit

theorem Models.below {S : Sit} {h : List Row} {w w' : World} (m : Models S h w) (b : Below w.heap.size w w') : Models S h w' := by
  refine ⟨fun k c e => ?_, m.len, fun l i r q1 q2 => ?_, m.one⟩
  · rw [b.block k (m.immLt e)]; exact m.imm k c e
  · obtain ⟨k1, k2, k3, k4⟩ := m.rows l i r q1 q2
    refine ⟨k1, k2, k3, ?_⟩
    cases hb : i.blk with
    | none => rw [hb] at k4; exact k4
    | some k =>
      rw [hb] at k4
      exact ⟨k4.1, k4.2.le (.refl S) (b.block k (m.ownLt ⟨l, i, q1, hb⟩))⟩
theorem Step.below {S : Sit} {w w' : World} (b : Below w.heap.size w w') : Step S w S w' :=
  ⟨.refl S, b.os, b.tape, b.output, b.size, fun k hk _ => b.block k hk, fun _ q => .inl q, fun _ _ q => .inl q⟩
theorem RepL_valsM {S : Sit} : ∀ {vs xs : List Value}, RepL S (vs.map AV.val) xs → xs = vs
  | [], xs, r => by simpa [RepL] using r
  | v :: vs, xs, r => by
    simp only [List.map_cons, RepL] at r
    obtain ⟨x, r', e, r1, r2⟩ := r
    simp only [Rep] at r1
    rw [e, r1, RepL_valsM r2]

/-- A contract of the shelf over plain values; it may lean on the tables. -/
theorem shelf_pure {P : Program} {f : FuncId} {vals : List Value} {v : Value}
    (hc : ∀ w, (∀ p ∈ tabs, (P.globalNamed p.1).isSome = true → w.var? P p.1 = some p.2) → Calls P f vals.toArray w fun e w' => e = .returned v ∧ Below w.heap.size w w') (h : List Row) : PureCall P f (vals.map AV.val) h (.val v) := by
  intro K hk S w xs hm hgl hr
  have e := RepL_valsM hr
  have e' : xs = vals.toArray := by cases xs; simp at e; rw [e]
  subst e'
  refine (hc w ?_).mono ?_
  · intro p hp hs
    obtain ⟨g, hg⟩ := Option.isSome_iff_exists.1 hs
    obtain ⟨E, fr, hw⟩ := hm.imm g p.2 (hgl.1 p hp g hg)
    simp only [World.var?, hg, Option.bind_some, hw]
  · rintro e w' ⟨rfl, b⟩
    exact ⟨v, .val v, S, h, rfl, Step.below b, hm.below b, by simp [Rep], hk⟩
/-- A contract of the shelf that reads the greatest length of a search. -/
theorem shelf_pureM {P : Program} {f : FuncId} {vals : List Value} {v : Value}
    (hc : ∀ w, (∀ g, P.globalNamed "internal/bytealg.MaxLen" = some g → ∃ m, w.cell? ⟨g, 0, none⟩ = some (.int .i64 m)) → Calls P f vals.toArray w fun e w' => e = .returned v ∧ Below w.heap.size w w') (h : List Row) : PureCall P f (vals.map AV.val) h (.val v) := by
  intro K hk S w xs hm hgl hr
  have e := RepL_valsM hr
  have e' : xs = vals.toArray := by cases xs; simp at e; rw [e]
  subst e'
  refine (hc w ?_).mono ?_
  · intro g hg
    obtain ⟨c, m, h1, h2⟩ := hgl.2 g hg
    obtain ⟨E, fr, hw⟩ := hm.imm g c h1
    exact ⟨m, by simp [World.cell?, hw, h2]⟩
  · rintro e w' ⟨rfl, b⟩
    exact ⟨v, .val v, S, h, rfl, Step.below b, hm.below b, by simp [Rep], hk⟩
end Go.AW
