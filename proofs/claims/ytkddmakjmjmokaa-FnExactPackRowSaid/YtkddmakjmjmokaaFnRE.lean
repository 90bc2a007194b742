/-
 Contracts of functions. Conditions: as each theorem says.
-/
import Derived.Test.YtkddmakjmjmokaaFnRD
import Derived.Test.YtkddmakjmjmokaaAwJoin
import Derived.Test.YtkddmakjmjmokaaShelfJ
namespace Go.Proofs.Ytkddmakjmjmokaa
open Nat (reduceEqDiff reduceLeDiff)
open List
open Go.AW
set_option linter.unusedVariables false
set_option linter.unusedSimpArgs false
set_option maxRecDepth 4000
def bu_ (xs : List ByteArray) : List UInt8 := Lib.join (xs.map (·.data.toList)) [94]
def gF_ (r : am_) : ByteArray := txt (bu_ (r.Cells.drop 1))
def dt_ (b : af_) (r : am_) : ByteArray × Int := if ce_ b r then (gF_ r, 0) else (txt [], 1)
theorem gh_ (xs : List ByteArray) : dZ_ xs (txt [94]) = txt (bu_ xs) := by
 simp only [dZ_, bu_, c2_]; rfl
theorem jc_ (x : ByteArray) : bu_ [x] = x.data.toList := by simp [bu_, Lib.join_one]
theorem h2_ (xs : List ByteArray) (hx : xs ≠ []) (y : ByteArray) : bu_ (xs ++ [y]) = bu_ xs ++ [94] ++ y.data.toList := by
 cases xs with
 | nil => exact absurd rfl hx
 | cons x r =>
  simp only [bu_, map_append, map_cons, map_nil, cons_append, Lib.join_cons, Lib.joinTail, flatten_append]
  simp
theorem hL_ : ∀ (xs : List ByteArray), (∀ s ∈ xs, s.size ≤ 11) → Lib.lens (xs.map (·.data.toList)) ≤ 11 * xs.length
 | [], _ => by simp [Lib.lens]
 | x :: xs, h => by
  have := hL_ xs fun s hs => h s (by simp [hs])
  have hx : x.data.toList.length ≤ 11 := by rw [Array.length_toList]; exact h x (by simp)
  simp only [Lib.lens, map_cons, sum_cons, lc_] at this ⊢
  omega
theorem ge_ (xs : List ByteArray) (h : ∀ s ∈ xs, s.size ≤ 11) : (bu_ xs).length ≤ 12 * xs.length := by
 cases xs with
 | nil => simp [bu_, Lib.join_nil]
 | cons x r =>
  have := hL_ (x :: r) h
  simp only [bu_, map_cons, Lib.join_length, lc_, length_map, ln_] at this ⊢
  omega
theorem fG_ (xs : List ByteArray) (hx : xs.length ≤ 1048576) (hs : ∀ s ∈ xs, s.size ≤ 11) (h : List Row) : aa_ Try.prog 44 [.list 0 1 (xs.map aA_), .val (.string (txt [94]))] h (.val (.string (txt (bu_ xs)))) := by
 rw [← gh_]
 exact iJ_ Try.strings_Join_none Try.strings_Join xs (txt [94]) hx (by rw [gh_, c4_]; have := ge_ xs hs; omega) h
def c32 : LC :=
 .q [.o [.bx 1 35 0, .s 2 (.mov (.const (.string ⟨#[]⟩)))], .o [.fa 3 0 1, .ln 4 3, .s 5 (.sliceSl 1 (.tmp 4) (some (.const (.int .i64 1))) none), .s 6 (.call 44 [.tmp 5, .const (.string ⟨#[94]⟩)]), .m 2 6], .ret]
def lr_ : LF := ⟨1, 7, c32, [.tmp 2]⟩
theorem l7_ : aF_ Try.prog Try.f32 lr_ := ax_
def c31 : LC :=
 .q [.o [.bx 1 35 0, .s 2 (.mov (.const (.string ⟨#[]⟩)))], .o [.s 3 (.mov (.const (.string ⟨#[]⟩)))], .q [.o [.ki 4 1], .block 0 (.loop (.q [.q [.o [.m 5 4, .fa 6 0 1, .ln 7 6, .ll 8 7, .bb 9 .lss false 5 8], .k 9 .skip
 (.exit 0)], .block 1 (.q [.q [.o [.m 12 4, .bk 13 .gtr false 12 1], .k 13 (.o [.m 14 3, .s 15 (.bin .add false (.tmp 14) (.const (.string ⟨#[94]⟩))), .m 3 15]) .skip], .o [.m 16 3, .fa 17 0 1, .ln 18 17, .m 19 4, .ia 20
 1 18 19, .ln 21 20, .bb 22 .add false 16 21, .m 3 22]]), .o [.m 10 4, .bk 11 .add false 10 1, .m 4 11]]))], .o [.m 23 3, .m 2 23], .ret]
def lq_ : LF := ⟨1, 24, c31, [.tmp 2]⟩
theorem lY_ : aF_ Try.prog Try.f31 lq_ := ax_
def c17 : LC :=
 .q [.o [.bx 2 27 0, .bx 3 35 1, .s 4 (.mov (.const (.string ⟨#[]⟩))), .ki 5 0], .q [.o [.ld 6 4 2, .ld 7 1 3, .c2 8 14 6 7, .nt 9 8], .k 9 (.q [.o [.s 4 (.mov (.const (.string ⟨#[]⟩))), .ki 5 1], .ret]) .skip], .o [.ld
 10 1 3, .c1 11 32 10, .m 4 11, .ki 5 0], .ret]
def lo_ : LF := ⟨2, 12, c17, [.tmp 4, .tmp 5]⟩
theorem mt_ : aF_ Try.prog Try.f17 lo_ := ax_
def c16 : LC :=
 .q [.o [.bx 2 27 0, .bx 3 35 1, .s 4 (.mov (.const (.string ⟨#[]⟩))), .ki 5 0], .q [.o [.ld 6 4 2, .c1 7 19 6, .nt 8 7, .m 9 8, .gl 10 9 false 4 2, .gl 11 9 false 1 3, .g 12 9 false (.call 29 [.tmp 10, .tmp 11]), .gu 13
 9 false 12, .pt 14 9 13], .k 14 (.q [.o [.s 4 (.mov (.const (.string ⟨#[]⟩))), .ki 5 1], .ret]) .skip], .o [.ld 15 1 3, .c1 16 31 15, .m 4 16, .ki 5 0], .ret]
def lG_ : LF := ⟨2, 17, c16, [.tmp 4, .tmp 5]⟩
theorem mm_ : aF_ Try.prog Try.f16 lG_ := ax_
theorem f3_ (r : am_) (h1 : 1 ≤ r.Cells.length) (hc : r.Cells.length ≤ 1048576) (hs : ∀ s ∈ r.Cells, s.size ≤ 11) (h : List Row) : aa_ Try.prog 32 [.agg (am_.cells r)] h (.val (.string (gF_ r))) := by
 refine as_ mixed Try.func32 l7_ rfl rfl ?_ h
 have hj : ∀ H, aa_ Try.prog 44 [.list 0 1 ((r.Cells.map aA_).drop 1), .val (.string (txt [94]))] H (.val (.string (gF_ r))) := by
  intro H
  rw [← map_drop]
  exact fG_ _ (by rw [length_drop]; omega) (fun s hs' => hs s (drop_subset _ _ hs')) H
 have htl : (r.Cells.map aA_).take r.Cells.length = r.Cells.map aA_ := take_of_length_le (by simp)
 simp (disch := omega) only [lr_, c32, am_.cells, htl, go_sem, reduceEqDiff, Int.reduceLE, Int.reduceToNat, ↓reduceIte]
 refine aa_.call (hj _) ?_
 simp (disch := omega) only [go_sem, ↓reduceIte]
 exact al_ _ _
theorem fC_ (r : am_) (h1 : 1 ≤ r.Cells.length) (hc : r.Cells.length ≤ 1048576) (hs : ∀ s ∈ r.Cells, s.size ≤ 11) (h : List Row) : aa_ Try.prog 31 [.agg (am_.cells r)] h (.val (.string (gF_ r))) := by
 refine as_ mixed Try.func31 lY_ rfl rfl ?_ h
 simp (disch := omega) only [lq_, c31, am_.cells, go_sem, ↓reduceIte]
 refine bb_ (fun m t h => ∃ (k : Nat), t 1 = .ptr 0 1 0 0 ∧ t 3 = .val (.string (txt (bu_ ((r.Cells.take k).drop 1)))) ∧ t 4 = .val (.int .i64 k) ∧ h[0]? = some ⟨.ty 35, 1, [[.list 0 1 (r.Cells.map aA_)]]⟩ ∧ m = r.Cells.length - k ∧ 1 ≤ k ∧ k ≤ r.Cells.length) (r.Cells.length - 1) ⟨1, rfl, ?_, rfl, rfl, rfl, Nat.le_refl _, h1⟩ ?_
 ·have : (r.Cells.take 1).drop 1 = [] := drop_eq_nil_of_le (by rw [length_take]; omega)
  simp only [this]
  rfl
 rintro J hJ m t h ⟨k, t1, t3, t4, o0, rfl, hk1, hk⟩
 by_cases hlt : k < r.Cells.length
 case neg =>
  have hke : k = r.Cells.length := by omega
  rw [hke, take_length] at t3
  simp (disch := omega) only [t1, t3, t4, o0, hlt, go_sem, reduceEqDiff, ↓reduceIte]
  exact al_ _ _
 obtain ⟨y, hy⟩ : ∃ y, r.Cells[k] = txt y := ⟨_, eg_ _⟩
 have htk : (r.Cells.take (k + 1)).drop 1 = (r.Cells.take k).drop 1 ++ [r.Cells[k]] := by
  rw [take_succ_eq_append_getElem hlt, drop_append_of_le_length (by rw [length_take]; omega)]
 have hL := ge_ ((r.Cells.take k).drop 1) fun s q => hs s (take_subset _ _ (drop_subset _ _ q))
 rw [length_drop, length_take] at hL
 have hy2 : y.length ≤ 11 := by have := hs _ (getElem_mem hlt); rw [hy, c4_] at this; exact this
 by_cases h2 : 1 < k
 ·have h2' : (1 < (k : Int)) = True := eq_true (by omega)
  have hne : (r.Cells.take k).drop 1 ≠ [] := by
   intro q; have := congrArg List.length q; rw [length_drop, length_take, ln_] at this; omega
  have e : bu_ ((r.Cells.take (k + 1)).drop 1) = bu_ ((r.Cells.take k).drop 1) ++ [94] ++ y := by
   rw [htk, h2_ _ hne, hy, c2_]
  have hl3 : (bu_ ((r.Cells.take k).drop 1) ++ [94]).length + y.length ≤ 9223372036854775807 := by
   rw [la_, length_singleton]; omega
  have hl4 : (bu_ ((r.Cells.take k).drop 1)).length + [(94 : UInt8)].length ≤ 9223372036854775807 := by
   rw [length_singleton]; omega
  simp (disch := first | assumption | omega) only [t1, t3, t4, o0, hlt, h2', hy, aX_, go_sem, reduceEqDiff, ↓reduceIte]
  exact ⟨r.Cells.length - (k + 1), by omega, hJ _ _ _ ⟨k + 1, by simp [upd, t1], by rw [e]; simp [upd], by simp [upd], by first | exact o0 | exact dx_ o0, rfl, by omega, by omega⟩⟩
 ·have h2' : (1 < (k : Int)) = False := eq_false (by omega)
  have hk' : k = 1 := by omega
  have hn : (r.Cells.take k).drop 1 = [] := drop_eq_nil_of_le (by rw [length_take]; omega)
  have e : bu_ ((r.Cells.take (k + 1)).drop 1) = y := by
   rw [htk, hn, nil_append, jc_, hy, c2_]
  rw [hn] at t3
  have hl5 : ([] : List UInt8).length + y.length ≤ 9223372036854775807 := by rw [ln_]; omega
  have t3' : t 3 = .val (.string (txt [])) := t3
  simp (disch := first | assumption | omega) only [t1, t3', t4, o0, hlt, h2', hy, aX_, nil_append, gN_ _ _ _ hl5, go_sem, reduceEqDiff, ↓reduceIte]
  exact ⟨r.Cells.length - (k + 1), by omega, hJ _ _ _ ⟨k + 1, by simp [upd, t1], by rw [e]; simp [upd], by simp [upd], by first | exact o0 | exact dx_ o0, rfl, by omega, by omega⟩⟩
theorem dO_ {b : af_} {r : am_} (h : ce_ b r = true) : 1 ≤ r.Cells.length ∧ ∀ s ∈ r.Cells, s.size ≤ 11 := by
 simp only [ce_, cb_, Bool.and_eq_true, decide_eq_true_eq] at h
 have hp := eE_ h.1
 have h3 := h.2.2
 rw [all_eq_true] at h3
 refine ⟨by have := h.2.1.1; omega, fun s hs => ?_⟩
 have := h3 s hs
 simp only [bl_, Bool.and_eq_true, decide_eq_true_eq] at this
 omega
theorem dW_ (b : af_) (r : am_) (hb : af_.sz b ≤ 1048576) (hr : am_.sz r ≤ 1048576) (h : List Row) : aa_ Try.prog 17 [.agg (af_.cells b), .agg (am_.cells r)] h (.tup [.val (.string (dt_ b r).1), .val (.int .i64 (dt_ b r).2)]) := by
 refine as_ mixed Try.func17 mt_ rfl rfl ?_ h
 have hc := bB_ (am_.sz_Cells hr)
 simp (disch := omega) only [lo_, c17, af_.cells, am_.cells, go_sem, reduceEqDiff, Nat.reduceAdd, ↓reduceIte]
 refine aa_.call (gs_ b r hb hr _) ?_
 cases q : ce_ b r
 ·simp (disch := omega) only [go_sem, reduceEqDiff, ↓reduceIte]
  exact ci_ _ _ (by simp [dt_, q])
 simp (disch := omega) only [go_sem, reduceEqDiff, ↓reduceIte]
 refine aa_.call (f3_ r (dO_ q).1 hc (dO_ q).2 _) ?_
 simp (disch := omega) only [go_sem, reduceEqDiff, ↓reduceIte]
 exact ci_ _ _ (by simp [dt_, q])
theorem d1_ (b : af_) (r : am_) (hb : af_.sz b ≤ 1048576) (hr : am_.sz r ≤ 1048576) (h : List Row) : aa_ Try.prog 16 [.agg (af_.cells b), .agg (am_.cells r)] h (.tup [.val (.string (dt_ b r).1), .val (.int .i64 (dt_ b r).2)]) := by
 refine as_ mixed Try.func16 mm_ rfl rfl ?_ h
 have hc := bB_ (am_.sz_Cells hr)
 simp (disch := omega) only [lG_, c16, af_.cells, am_.cells, go_sem, reduceEqDiff, Nat.reduceAdd, ↓reduceIte]
 refine aa_.call (gt_ b hb _) ?_
 cases q : aM_ b
 ·simp (disch := omega) only [go_sem, reduceEqDiff, ↓reduceIte]
  exact ci_ _ _ (by simp [dt_, ce_, q])
 simp (disch := omega) only [go_sem, reduceEqDiff, Nat.reduceAdd, ↓reduceIte]
 refine aa_.call (fT_ b r hb hr (eE_ q) _) ?_
 cases q2 : cb_ b r
 ·simp (disch := omega) only [go_sem, reduceEqDiff, ↓reduceIte]
  exact ci_ _ _ (by simp [dt_, ce_, q, q2])
 have q3 : ce_ b r = true := by simp [ce_, q, q2]
 simp (disch := omega) only [go_sem, reduceEqDiff, ↓reduceIte]
 refine aa_.call (fC_ r (dO_ q3).1 hc (dO_ q3).2 _) ?_
 simp (disch := omega) only [go_sem, reduceEqDiff, ↓reduceIte]
 exact ci_ _ _ (by simp [dt_, q3])
end Go.Proofs.Ytkddmakjmjmokaa
