/-
  AW: a text cut by the library into pieces: a new row.
-/
import Derived.Test.YtkddmakjmjmokaaDoorAwAdopt
import Derived.Lib.SplitLaws
import Derived.MapKept
namespace Go.AW
open Go.RowKit (Below)
set_option linter.unusedVariables false

theorem split_own {P : Program} {f : FuncId} {E : TypeId} {g : Nat} (hg : P.globalNamed "internal/bytealg.MaxLen" = some g)
    (hC : ∀ (s sep : ByteArray) (m : Int) (w : World), s.size < 4294967281 → w.cell? ⟨g, 0, none⟩ = some (.int .i64 m) → 1 ≤ sep.size →
      Calls P f #[.string s, .string sep] w fun e w' => e = .returned (.slice (some ⟨w.heap.size, 0, none⟩) (Lib.countB s sep + 1) (Lib.countB s sep + 1)) ∧ w' = w.alloc (.cells ((Lib.splitB sep 0 (Lib.countB s sep) s).map Value.string).toArray E))
    {s sep : ByteArray} (hs : s.size ≤ 1048576) (h1 : 1 ≤ sep.size) {H : List Row} {K : AV → List Row → Prop}
    (hk : K (.own H.length (Lib.countB s sep + 1)) (H ++ [⟨.ty E, 1, (Lib.splitB sep 0 (Lib.countB s sep) s).map fun x => [.val (.string x)]⟩])) :
    callSem P f [.val (.string s), .val (.string sep)] H K := by
  intro S w vals hm hgl hr
  simp only [RepL] at hr
  obtain ⟨x, r, e, rx, y, r2, e2, ry, e3⟩ := hr
  subst e3 e2
  simp only [Rep] at rx ry
  subst rx ry
  have e' : vals = #[.string s, .string sep] := by cases vals; simp at e; rw [e]
  subst e'
  obtain ⟨c0, m, himm, hc0⟩ := hgl.2 g hg
  obtain ⟨E', fr, hbk⟩ := hm.imm g c0 himm
  have hcell : w.cell? ⟨g, 0, none⟩ = some (.int .i64 m) := by
    simp only [World.cell?, hbk, hc0]; rfl
  have hlen : (Lib.splitB sep 0 (Lib.countB s sep) s).length = Lib.countB s sep + 1 := Lib.splitB_all sep h1 0 _ s rfl
  have hle := Lib.countB_le sep h1 s.size s (Nat.le_refl _)
  refine (hC s sep m w (by omega) hcell h1).mono ?_
  rintro e w' ⟨rfl, rfl⟩
  have hB : Below w.heap.size w (w.alloc (.cells ((Lib.splitB sep 0 (Lib.countB s sep) s).map Value.string).toArray E)) := (Below.refl _ w).alloc (Nat.le_refl _) _
  have hmx : (1048577 : Nat) ≤ maxLen := by decide
  have hmax : Lib.countB s sep + 1 ≤ maxLen := by omega
  have ha := Models.takeOver hm hB (Nat.le_refl _) (E := E) (es := (Lib.splitB sep 0 (Lib.countB s sep) s).map fun x => [.val (.string x)]) (sz := 1) (cap := Lib.countB s sep + 1) (c := ((Lib.splitB sep 0 (Lib.countB s sep) s).map Value.string).toArray) (by
    rw [RepLL_iff (sz := 1) (fun e he => by obtain ⟨s, _, q⟩ := List.mem_map.1 he; subst q; rfl)]
    intro j e he d a ha
    rw [List.getElem?_map] at he
    cases q : (Lib.splitB sep 0 (Lib.countB s sep) s)[j]? with
    | none => rw [q] at he; simp at he
    | some z =>
      rw [q] at he
      simp at he
      subst he
      cases d with
      | succ d => simp at ha
      | zero =>
        simp at ha
        subst ha
        exact ⟨.string z, by simp [q], by simp [Rep]⟩) (fun e he => by obtain ⟨s, _, q⟩ := List.mem_map.1 he; subst q; rfl) (by rw [List.size_toArray, List.length_map, hlen, Nat.mul_one]) (by rw [List.length_map, hlen]; exact Nat.le_refl _) hmax (MapKept.heap_alloc w _).1
  refine ⟨_, .own H.length (Lib.countB s sep + 1), _, _, rfl, ha.2, ha.1, ?_, hk⟩
  simp only [Rep]
  refine ⟨⟨_, _, _, rfl⟩, ⟨((Lib.splitB sep 0 (Lib.countB s sep) s).map fun x => [AV.val (.string x)]).length, some w.heap.size, Lib.countB s sep + 1, 1⟩, ?_, ?_, fun _ => .inl ?_⟩
  · rw [← hm.len]; simp
  · rw [List.length_map, hlen]; exact Nat.le_refl _
  · simp only [sliceAt, List.length_map, hlen]
end Go.AW
