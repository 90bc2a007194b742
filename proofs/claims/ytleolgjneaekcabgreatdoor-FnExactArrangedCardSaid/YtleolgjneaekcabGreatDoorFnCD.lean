/-
  Contracts of functions of this program, over abstract values. Conditions: as each theorem says.
-/
import Derived.Test.YtleolgjneaekcabGreatDoorFnCC
namespace Go.Proofs.YtleolgjneaekcabGreatDoor
open Go.AW
set_option linter.unusedVariables false
set_option linter.unusedSimpArgs false
set_option maxRecDepth 4000

theorem fresh_roundX {h0 rest hn : List Row} {r r' row : Row} {done ds : List (List AV)} {cs rs : List AV} (h1 : FreshLLB (h0.length + 1) (h0 ++ r :: rest).length (h0 ++ r :: rest) done ds) (h2 : Fresh (h0 ++ r :: rest).length ((h0 ++ r :: rest) ++ hn) (.agg cs) (.agg rs)) :
    FreshLLB (h0.length + 1) (h0 ++ r' :: (rest ++ (hn ++ [row]))).length (h0 ++ r' :: (rest ++ (hn ++ [row]))) (done ++ [cs]) (ds ++ [rs]) := by
  have hz := fresh_round (r' := r') h1 h2
  have e : h0 ++ r' :: (rest ++ (hn ++ [row])) = (h0 ++ r' :: (rest ++ hn)) ++ [row] := by simp
  rw [e]
  exact (hz.keep fun l _ hl => List.getElem?_append_left hl).widen (Nat.le_refl _) (by simp)
def c_spec_l25OwnAll : LC :=
 .seq (.ops [⟨some 2, none, .mov (.const (.slice none 0 0))⟩]) (.seq (.ops [⟨some 5, none, .buildSlice 30 5 (.agg #[.int .i64 0, .string ⟨#[]⟩, .slice none 0 0, .string ⟨#[]⟩, .int .i64 0]) 0 []⟩, ⟨some 3, none, .mov (.tmp
 5)⟩]) (.seq (.seq (.ops [⟨some 4, none, .mov (.const (.int .i64 0))⟩]) (.block 0 (.loop (.seq (.seq (.ops [⟨some 6, none, .mov (.tmp 4)⟩, ⟨some 7, none, .mov (.tmp 0)⟩, ⟨some 8, none, .lenSl (.tmp 7)⟩, ⟨some 9, none, .bin
 .lss false (.tmp 6) (.tmp 8)⟩]) (.cond (.tmp 9) (.skip) (.exit 0))) (.seq (.block 1 (.ops [⟨some 12, none, .mov (.tmp 3)⟩, ⟨some 13, none, .mov (.tmp 0)⟩, ⟨some 14, none, .mov (.tmp 4)⟩, ⟨some 15, none, .indexAddr 5 (.tmp
 13) (.tmp 14)⟩, ⟨some 16, none, .load (some 5) (.tmp 15)⟩, ⟨some 17, none, .call 70 [.tmp 16]⟩, ⟨some 18, none, .buildSlice 30 5 (.agg #[.int .i64 0, .string ⟨#[]⟩, .slice none 0 0, .string ⟨#[]⟩, .int .i64 0]) 1 [(0,
 .tmp 17)]⟩, ⟨some 19, none, .append 30 5 72 (.tmp 12) (.tmp 18)⟩, ⟨some 3, none, .mov (.tmp 19)⟩])) (.ops [⟨some 10, none, .mov (.tmp 4)⟩, ⟨some 11, none, .bin .add false (.tmp 10) (.const (.int .i64 1))⟩, ⟨some 4, none,
 .mov (.tmp 11)⟩])))))) (.seq (.ops [⟨some 20, none, .mov (.tmp 3)⟩, ⟨some 2, none, .mov (.tmp 20)⟩]) (.ret))))
def lf_spec_l25OwnAll : LF := { np := 1, N := 21, body := c_spec_l25OwnAll, res := [.tmp 2] }
theorem low_spec_l25OwnAll : LowF Tryz.prog Tryz.f64 lf_spec_l25OwnAll := LowF.mk' (by kernel_rfl) (by kernel_rfl) (by kernel_rfl) (by decide)

theorem spec_l25OwnAll_fresh (xs : List GEvent) (hs : szList GEvent.sz xs ≤ 1048576) : FreshCall Tryz.prog 64 [.list 0 5 (xs.map GEvent.cells)] (.list 0 5 (xs.map GEvent.cells)) (fun a => ∃ l, a = .own l xs.length) := by
  refine fresh_fn mixed Tryz.func64 low_spec_l25OwnAll rfl (fun h0 => ?_)
  have hx := szList_len hs
  have hm : ∀ x ∈ xs, GEvent.sz x ≤ 1048576 := fun x hx => by have := szList_mem (f := GEvent.sz) hx; omega
  simp (disch := omega) only [lf_spec_l25OwnAll, c_spec_l25OwnAll, Ex_cond, go_sem, Nat.reduceEqDiff, Nat.reduceAdd, Nat.reduceLeDiff, reduceCtorEq, Int.reduceLT, Int.reduceLE, Int.reduceNeg, Int.reduceSub, Int.reduceAdd, Int.reduceToNat, ↓reduceIte]
  refine Ex_loop (fun n t h => ∃ (k : Nat) (done : List (List AV)) (rest : List Row), t 0 = .list 0 5 (xs.map GEvent.cells) ∧ t 3 = .own h0.length k ∧ t 4 = .val (.int .i64 k) ∧ h = h0 ++ ⟨30, 5, done⟩ :: rest ∧ n = xs.length - k ∧ k ≤ xs.length ∧ done.length = k ∧ FreshLLB (h0.length + 1) h.length h done ((xs.take k).map GEvent.cells)) xs.length ?_ ?_
  · exact ⟨0, [], [], rfl, rfl, rfl, rfl, rfl, Nat.zero_le _, rfl, .nil _ _ _⟩
  rintro J hJ n t h ⟨k, done, rest, t0, t3, t4, rfl, rfl, hk, hd, hF⟩
  by_cases hlt : k < xs.length
  · have hltI : (k : Int) < xs.length := by omega
    simp (disch := omega) only [t0, t3, t4, hltI, hlt, hd, GEvent.cells, Ex_cond, go_sem, Nat.reduceEqDiff, Nat.reduceAdd, Nat.reduceLeDiff, reduceCtorEq, Int.reduceLT, Int.reduceLE, Int.reduceNeg, Int.reduceSub, Int.reduceAdd, Int.reduceToNat, ↓reduceIte]
    refine spec_l25Own_fresh xs[k] (hm _ (List.getElem_mem hlt)) _ _ (fun av hn hf hq => ?_)
    obtain ⟨l, rfl⟩ := hq
    simp (disch := omega) only [t0, t3, t4, hltI, hlt, hd, List.append_assoc, Ex_cond, go_sem, Nat.reduceEqDiff, Nat.reduceAdd, Nat.reduceLeDiff, reduceCtorEq, Int.reduceLT, Int.reduceLE, Int.reduceNeg, Int.reduceSub, Int.reduceAdd, Int.reduceToNat, ↓reduceIte]
    refine ⟨by omega, by omega, xs.length - (k + 1), by omega, hJ _ _ _ ⟨k + 1, done ++ [[.val (.int .i64 xs[k].Kind), .val (.string xs[k].Name), .own l xs[k].Subs.length, .val (.string xs[k].Value), .val (.int .i64 xs[k].N)]], _, by simp [upd, t0], by simp [upd], by simp [upd], rfl, rfl, by omega, by simp [hd], ?_⟩⟩
    rw [List.take_succ_eq_append_getElem hlt, List.map_append]
    exact fresh_roundX hF hf
  · have hltI : ¬ (k : Int) < xs.length := by omega
    simp (disch := omega) only [t0, t3, t4, hltI, hd, Ex_cond, go_sem, Nat.reduceEqDiff, Nat.reduceAdd, Nat.reduceLeDiff, reduceCtorEq, Int.reduceLT, Int.reduceLE, Int.reduceNeg, Int.reduceSub, Int.reduceAdd, Int.reduceToNat, ↓reduceIte]
    rw [List.take_of_length_le (by omega)] at hF
    have e : k = xs.length := by omega
    rw [e]
    exact ⟨_, rfl, fresh_done hF (by omega), _, rfl⟩
end Go.Proofs.YtleolgjneaekcabGreatDoor
