/-
  Contracts of functions of this program, over abstract values. Conditions: as each theorem says.
-/
import Derived.Test.YtleolgjneaekcabGreatDoorFnCB
namespace Go.Proofs.YtleolgjneaekcabGreatDoor
open Go.AW
set_option linter.unusedVariables false
set_option linter.unusedSimpArgs false
set_option maxRecDepth 4000

theorem fresh_event {h0 hn : List Row} {x1 x2 y1 y2 : Row} {k m : Int} {n v : ByteArray} {s : List ByteArray} {l : Nat} (hf : Fresh (h0 ++ [y1, y2]).length ((h0 ++ [y1, y2]) ++ hn) (.own l s.length) (.list 0 1 (s.map cStr))) :
    Fresh h0.length (h0 ++ x1 :: x2 :: hn) (.agg [.val (.int .i64 k), .val (.string n), .own l s.length, .val (.string v), .val (.int .i64 m)]) (.agg (GEvent.cells ⟨k, n, s, v, m⟩)) := by
  have hb := (hf.b.keep (H' := h0 ++ x1 :: x2 :: hn) fun l q1 q2 => pre2 q1).widen (lo' := h0.length) (hi' := (h0 ++ x1 :: x2 :: hn).length) (by simp) (by simp)
  exact (FreshB.agg (FreshLB.val _ (FreshLB.val _ (FreshLB.cons hb (FreshLB.val _ (FreshLB.val _ (FreshLB.nil _ _ _))) ⟨by simp, Nat.le_refl _⟩)))).fresh
def c_impl_copyEvent : LC :=
 .seq (.ops [⟨some 1, none, .box 30 (.tmp 0)⟩, ⟨some 2, none, .alloc 30 (.agg #[.int .i64 0, .string ⟨#[]⟩, .slice none 0 0, .string ⟨#[]⟩, .int .i64 0])⟩]) (.seq (.ops [⟨some 3, none, .fieldAddr 2 (.tmp 1)⟩, ⟨some 4,
 none, .load none (.tmp 3)⟩, ⟨some 5, none, .call 88 [.tmp 4]⟩, ⟨some 6, none, .fieldAddr 2 (.tmp 1)⟩, ⟨none, none, .store 1 (.tmp 6) (.tmp 5)⟩]) (.seq (.ops [⟨some 7, none, .load (some 5) (.tmp 1)⟩, ⟨none, none, .store 5
 (.tmp 2) (.tmp 7)⟩]) (.ret)))
def lf_impl_copyEvent : LF := { np := 1, N := 8, body := c_impl_copyEvent, res := [.cell 2 (some 5)] }
theorem low_impl_copyEvent : LowF Tryz.prog Tryz.f75 lf_impl_copyEvent := LowF.mk' (by kernel_rfl) (by kernel_rfl) (by kernel_rfl) (by decide)

def c_spec_l25Own : LC :=
 .seq (.ops [⟨some 1, none, .box 30 (.tmp 0)⟩, ⟨some 2, none, .alloc 30 (.agg #[.int .i64 0, .string ⟨#[]⟩, .slice none 0 0, .string ⟨#[]⟩, .int .i64 0])⟩]) (.seq (.ops [⟨some 3, none, .fieldAddr 2 (.tmp 1)⟩, ⟨some 4,
 none, .load none (.tmp 3)⟩, ⟨some 5, none, .call 83 [.tmp 4]⟩, ⟨some 6, none, .fieldAddr 2 (.tmp 1)⟩, ⟨none, none, .store 1 (.tmp 6) (.tmp 5)⟩]) (.seq (.ops [⟨some 7, none, .load (some 5) (.tmp 1)⟩, ⟨none, none, .store 5
 (.tmp 2) (.tmp 7)⟩]) (.ret)))
def lf_spec_l25Own : LF := { np := 1, N := 8, body := c_spec_l25Own, res := [.cell 2 (some 5)] }
theorem low_spec_l25Own : LowF Tryz.prog Tryz.f70 lf_spec_l25Own := LowF.mk' (by kernel_rfl) (by kernel_rfl) (by kernel_rfl) (by decide)

theorem impl_copyEvent_fresh (x : GEvent) (hx : GEvent.sz x ≤ 1048576) : FreshCall Tryz.prog 75 [.agg (GEvent.cells x)] (.agg (GEvent.cells x)) (fun a => ∃ l, a = .agg [.val (.int .i64 x.Kind), .val (.string x.Name), .own l x.Subs.length, .val (.string x.Value), .val (.int .i64 x.N)]) := by
  refine fresh_fn mixed Tryz.func75 low_impl_copyEvent rfl (fun h0 => ?_)
  have h2 := szList_len (GEvent.sz_Subs hx)
  simp (disch := omega) only [lf_impl_copyEvent, c_impl_copyEvent, GEvent.cells, Ex_cond, go_sem, Nat.reduceEqDiff, Nat.reduceAdd, Nat.reduceLeDiff, reduceCtorEq, Int.reduceLT, Int.reduceLE, Int.reduceNeg, Int.reduceSub, Int.reduceAdd, Int.reduceToNat, ↓reduceIte]
  refine slices_Clone_string_fresh x.Subs h2 _ _ (fun av hn hf hq => ?_)
  obtain ⟨l, rfl⟩ := hq
  simp (disch := omega) only [afill, Option.map_some, post_cell, List.append_assoc, Ex_cond, go_sem, Nat.reduceEqDiff, Nat.reduceAdd, Nat.reduceLeDiff, reduceCtorEq, Int.reduceLT, Int.reduceLE, Int.reduceNeg, Int.reduceSub, Int.reduceAdd, Int.reduceToNat, ↓reduceIte]
  exact ⟨_, rfl, fresh_event hf, _, rfl⟩

theorem spec_l25Own_fresh (x : GEvent) (hx : GEvent.sz x ≤ 1048576) : FreshCall Tryz.prog 70 [.agg (GEvent.cells x)] (.agg (GEvent.cells x)) (fun a => ∃ l, a = .agg [.val (.int .i64 x.Kind), .val (.string x.Name), .own l x.Subs.length, .val (.string x.Value), .val (.int .i64 x.N)]) := by
  refine fresh_fn mixed Tryz.func70 low_spec_l25Own rfl (fun h0 => ?_)
  have h2 := szList_len (GEvent.sz_Subs hx)
  simp (disch := omega) only [lf_spec_l25Own, c_spec_l25Own, GEvent.cells, Ex_cond, go_sem, Nat.reduceEqDiff, Nat.reduceAdd, Nat.reduceLeDiff, reduceCtorEq, Int.reduceLT, Int.reduceLE, Int.reduceNeg, Int.reduceSub, Int.reduceAdd, Int.reduceToNat, ↓reduceIte]
  refine spec_l24Subs_fresh x.Subs h2 _ _ (fun av hn hf hq => ?_)
  obtain ⟨l, rfl⟩ := hq
  simp (disch := omega) only [afill, Option.map_some, post_cell, List.append_assoc, Ex_cond, go_sem, Nat.reduceEqDiff, Nat.reduceAdd, Nat.reduceLeDiff, reduceCtorEq, Int.reduceLT, Int.reduceLE, Int.reduceNeg, Int.reduceSub, Int.reduceAdd, Int.reduceToNat, ↓reduceIte]
  exact ⟨_, rfl, fresh_event hf, _, rfl⟩

end Go.Proofs.YtleolgjneaekcabGreatDoor
