/-
  Contracts of functions of this program, over abstract values. Conditions: as each theorem says.
-/
import Derived.Test.YtodgohgdnmifaaaGreatDoorFnT
import Derived.Test.YtodgohgdnmifaaaGreatDoorPlOrd2
import Derived.Laws.Bits64
namespace Go.Proofs.YtodgohgdnmifaaaGreatDoor
open Go.AW
set_option linter.unusedVariables false
set_option linter.unusedSimpArgs false
set_option maxRecDepth 4000

theorem lockLt_iff (p a : GLock) : lockLt p a = true ↔ p.Job < a.Job ∨ (p.Job = a.Job ∧ lessP p.Name.data.toList (bss p.Subs) a.Name.data.toList (bss a.Subs) = true) := by
  have h := lockLt_spec p a
  cases hl : lockLt p a
  · rw [hl] at h
    simp only [Bool.not_false, Bool.true_eq, Bool.or_eq_true, Bool.and_eq_true, decide_eq_true_eq, Bool.not_eq_true'] at h
    constructor
    · intro q; cases q
    · intro q
      exfalso
      rcases h with h | ⟨h, k⟩
      · rcases q with q | ⟨q, _⟩ <;> omega
      · rcases q with q | ⟨_, q⟩
        · omega
        · rw [k] at q; cases q
  · rw [hl] at h
    simp only [Bool.not_true, Bool.false_eq, Bool.or_eq_false_iff, Bool.and_eq_false_iff, decide_eq_false_iff_not, Bool.not_eq_false'] at h
    refine ⟨fun _ => ?_, fun _ => rfl⟩
    rcases h with ⟨h1, h2 | h2⟩
    · left; omega
    · by_cases e : p.Job = a.Job
      · exact .inr ⟨e, h2⟩
      · left; omega
theorem lockLt_trans {a b c : GLock} (h1 : lockLt a b = true) (h2 : lockLt b c = true) : lockLt a c = true := by
  rw [lockLt_iff] at h1 h2 ⊢
  rcases h1 with h1 | ⟨h1, k1⟩ <;> rcases h2 with h2 | ⟨h2, k2⟩
  · left; omega
  · left; omega
  · left; omega
  · exact .inr ⟨h1.trans h2, lessP_trans k1 k2⟩
def sameKey (x y : GLock) : Prop := x.Job = y.Job ∧ x.Name = y.Name ∧ x.Subs = y.Subs
theorem cmpLock_zero (x y : GLock) : cmpLock x y = 0 ↔ sameKey x y := by
  unfold cmpLock sameKey
  by_cases h : x.Job = y.Job
  · rw [if_pos ((cmpI_zero _ _).2 h), cmpP_zero, bs_inj, bss_inj]
    simp [h]
  · have h0 : ¬ cmpI x.Job y.Job = 0 := fun q => h ((cmpI_zero _ _).1 q)
    rw [if_neg h0]
    simp [h, h0]
theorem lockLt_irrefl (x y : GLock) (h : sameKey x y) : lockLt x y = false := by
  have : cmpLock x y = 0 := (cmpLock_zero x y).2 h
  unfold lockLt
  simp [this]
theorem lockLt_total (x y : GLock) (h : ¬ sameKey x y) : lockLt x y = true ∨ lockLt y x = true := by
  rw [lockLt_iff, lockLt_iff]
  rcases Int.lt_trichotomy x.Job y.Job with q | q | q
  · exact .inl (.inl q)
  · have : ¬ (x.Name.data.toList = y.Name.data.toList ∧ bss x.Subs = bss y.Subs) := by
      intro e
      rw [bs_inj, bss_inj] at e
      exact h ⟨q, e.1, e.2⟩
    rcases lessP_total this with k | k
    · exact .inl (.inr ⟨q, k⟩)
    · exact .inr (.inr ⟨q.symm, k⟩)
  · exact .inr (.inl q)
theorem pairwise_last {α : Type} {R : α → α → Prop} : ∀ (l : List α) (p : α), l.Pairwise R → l.getLast? = some p → ∀ x ∈ l, x = p ∨ R x p
  | [], p, _, h, x, hx => by simp at hx
  | [y], p, _, h, x, hx => by simp at h hx; subst h hx; exact .inl rfl
  | y :: z :: l, p, hp, h, x, hx => by
    rw [List.getLast?_cons_cons] at h
    have hp2 := List.pairwise_cons.1 hp
    rcases List.mem_cons.1 hx with q | q
    · subst q
      exact .inr (hp2.1 p (List.mem_of_getLast? h))
    · exact pairwise_last (z :: l) p hp2.2 h x q
theorem heldGo_sorted : ∀ (r pre : List GLock), heldGo pre r = true → pre.Pairwise (fun a b => lockLt a b = true) → (pre ++ r).Pairwise (fun a b => lockLt a b = true)
  | [], pre, _, h => by simpa using h
  | a :: r, pre, h, hp => by
    simp only [heldGo, Bool.and_eq_true] at h
    obtain ⟨⟨⟨_, h1⟩, _⟩, h2⟩ := h
    have := heldGo_sorted r (pre ++ [a]) h2 (by
      rw [List.pairwise_append]
      refine ⟨hp, by simp, fun x hx y hy => ?_⟩
      simp at hy; subst hy
      cases hl : pre.getLast? with
      | none => rw [List.getLast?_eq_none_iff] at hl; subst hl; simp at hx
      | some p =>
        rw [hl] at h1
        rcases pairwise_last pre p hp hl x hx with q | q
        · subst q; exact h1
        · exact lockLt_trans q h1)
    simpa using this
theorem locks_sorted {x : GLocks} (h : locksOkB x = true) : x.Held.Pairwise (fun a b => lockLt a b = true) := by
  simp only [locksOkB, heldOkB, Bool.and_eq_true] at h
  simpa using heldGo_sorted x.Held [] h.2.2 (by simp)
/-- Where the target stands among sorted locks. -/
theorem part_exists (tg : GLock) : ∀ hs : List GLock, hs.Pairwise (fun a b => lockLt a b = true) → ∃ m, m ≤ hs.length ∧ ∀ (i : Nat) (h : i < hs.length), (lockLt hs[i] tg = true ↔ i < m)
  | [], _ => ⟨0, Nat.le_refl _, fun i h => by simp at h⟩
  | x :: hs, hp => by
    have hp2 := List.pairwise_cons.1 hp
    obtain ⟨m, hm, hi⟩ := part_exists tg hs hp2.2
    by_cases q : lockLt x tg = true
    · refine ⟨m + 1, by simp; omega, fun i h => ?_⟩
      cases i with
      | zero => simp [q]
      | succ i => simp only [List.getElem_cons_succ]; rw [hi i (by simpa using h)]; omega
    · refine ⟨0, by simp, fun i h => ?_⟩
      cases i with
      | zero => simpa using q
      | succ i =>
        simp only [List.getElem_cons_succ]
        constructor
        · intro k; exact absurd (lockLt_trans (hp2.1 _ (List.getElem_mem _)) k) q
        · intro k; omega
theorem bin_shr1 (q : Bool) (n : Nat) : binEval .shr q (.val (.int .u64 (n : Int))) (.val (.int .u64 1)) = some (.val (.int .u64 ((n / 2 : Nat) : Int))) := by
  have e : binEval .shr q (.val (.int .u64 (n : Int))) (.val (.int .u64 1)) = some (.val (.int .u64 ((n : Int).fdiv (2 ^ 1)))) := rfl
  rw [e]
  congr 3
  rw [Int.fdiv_eq_ediv_of_nonneg _ (by decide)]
  omega
theorem wrap_u64_in {n : Int} (h1 : 0 ≤ n) (h2 : n ≤ 18446744073709551615) : IntKind.u64.wrap n = n := by
  rw [IntKind.wrap_u64]; omega
def c_slices_BinarySearchFunc_impl_Lock : LC :=
 .seq (.ops [⟨some 4, none, .box 74 (.tmp 1)⟩, ⟨some 6, none, .mov (.const (.int .i64 0))⟩, ⟨some 7, none, .mov (.const (.bool false))⟩]) (.seq (.ops [⟨some 12, none, .mov (.tmp 0)⟩, ⟨some 13, none, .lenSl (.tmp 12)⟩,
 ⟨some 8, none, .mov (.tmp 13)⟩]) (.seq (.ops [⟨some 14, none, .mov (.tmp 8)⟩, ⟨some 9, none, .mov (.const (.int .i64 0))⟩, ⟨some 10, none, .mov (.tmp 14)⟩]) (.seq (.block 0 (.loop (.seq (.seq (.ops [⟨some 15, none, .mov
 (.tmp 9)⟩, ⟨some 16, none, .mov (.tmp 10)⟩, ⟨some 17, none, .bin .lss false (.tmp 15) (.tmp 16)⟩]) (.cond (.tmp 17) (.skip) (.exit 0))) (.block 1 (.seq (.ops [⟨some 18, none, .mov (.tmp 9)⟩, ⟨some 19, none, .mov (.tmp
 10)⟩, ⟨some 20, none, .bin .add false (.tmp 18) (.tmp 19)⟩, ⟨some 21, none, .convInt .u64 (.tmp 20)⟩, ⟨some 22, none, .bin .shr false (.tmp 21) (.const (.int .u64 1))⟩, ⟨some 23, none, .convInt .i64 (.tmp 22)⟩, ⟨some 11,
 none, .mov (.tmp 23)⟩]) (.seq (.dops [⟨some 24, none, .mov (.tmp 2)⟩, ⟨some 25, none, .mov (.tmp 0)⟩, ⟨some 26, none, .mov (.tmp 11)⟩, ⟨some 27, none, .indexAddr 4 (.tmp 25) (.tmp 26)⟩, ⟨some 28, none, .load (some 4)
 (.tmp 27)⟩, ⟨some 29, none, .load (some 4) (.tmp 4)⟩, ⟨some 30, none, .callv (.tmp 24) [.tmp 28, .tmp 29]⟩, ⟨some 31, none, .bin .lss false (.tmp 30) (.const (.int .i64 0))⟩]) (.cond (.tmp 31) (.ops [⟨some 32, none, .mov
 (.tmp 11)⟩, ⟨some 33, none, .bin .add false (.tmp 32) (.const (.int .i64 1))⟩, ⟨some 9, none, .mov (.tmp 33)⟩]) (.ops [⟨some 34, none, .mov (.tmp 11)⟩, ⟨some 10, none, .mov (.tmp 34)⟩])))))))) (.seq (.dops [⟨some 35,
 none, .mov (.tmp 9)⟩, ⟨some 36, none, .mov (.tmp 9)⟩, ⟨some 37, none, .mov (.tmp 8)⟩, ⟨some 38, none, .bin .lss false (.tmp 36) (.tmp 37)⟩, ⟨some 39, none, .mov (.tmp 38)⟩, ⟨some 40, (some (39, true)), .mov (.tmp 2)⟩,
 ⟨some 41, (some (39, true)), .mov (.tmp 0)⟩, ⟨some 42, (some (39, true)), .mov (.tmp 9)⟩, ⟨some 43, (some (39, true)), .indexAddr 4 (.tmp 41) (.tmp 42)⟩, ⟨some 44, (some (39, true)), .load (some 4) (.tmp 43)⟩, ⟨some 45,
 (some (39, true)), .load (some 4) (.tmp 4)⟩, ⟨some 46, (some (39, true)), .callv (.tmp 40) [.tmp 44, .tmp 45]⟩, ⟨some 47, (some (39, true)), .bin .eql false (.tmp 46) (.const (.int .i64 0))⟩, ⟨some 48, none, .pick (.tmp
 39) (.tmp 47) (.const (.bool false))⟩, ⟨some 6, none, .mov (.tmp 35)⟩, ⟨some 7, none, .mov (.tmp 48)⟩]) (.ret)))))
def lf_slices_BinarySearchFunc_impl_Lock : LF := { np := 3, N := 49, body := c_slices_BinarySearchFunc_impl_Lock, res := [.tmp 6, .tmp 7] }
theorem low_slices_BinarySearchFunc_impl_Lock : LowF Tryz.prog Tryz.f135 lf_slices_BinarySearchFunc_impl_Lock := LowF.mk' (by kernel_rfl) (by kernel_rfl) (by kernel_rfl) (by decide)

theorem slices_BinarySearchFunc_impl_Lock_ok (hs : List GLock) (tg : GLock) (c : GLock → GLock → Int) (g m : Nat) (hx : hs.length ≤ 1048576) (hm : m ≤ hs.length) (hpart : ∀ (i : Nat) (h : i < hs.length), (c hs[i] tg < 0 ↔ i < m)) (hc : callable Tryz.prog g = true)
    (hp : ∀ x ∈ hs, ∀ h, PureCall Tryz.prog g [.agg (GLock.cells x), .agg (GLock.cells tg)] h (.val (.int .i64 (c x tg)))) (fd : Bool) (hfd : fd = if h : m < hs.length then decide (c hs[m] tg = 0) else false) (h : List Row) :
    PureCall Tryz.prog 135 [.list 0 4 (hs.map GLock.cells), .agg (GLock.cells tg), .fn g [] []] h (.tup [.val (.int .i64 m), .val (.bool fd)]) := by
  refine pure_fn mixed Tryz.func135 low_slices_BinarySearchFunc_impl_Lock rfl rfl ?_ h
  simp only [cellsL] at hp
  simp (disch := omega) only [lf_slices_BinarySearchFunc_impl_Lock, c_slices_BinarySearchFunc_impl_Lock, cellsL, go_sem, Nat.reduceEqDiff, Nat.reduceAdd, Nat.reduceLeDiff, reduceCtorEq, Int.reduceLT, Int.reduceLE, Int.reduceNeg, Int.reduceSub, Int.reduceAdd, Int.reduceToNat, ↓reduceIte]
  refine Ex_loop (fun n t h => ∃ (i j : Nat), t 0 = .list 0 4 (hs.map GLock.cells) ∧ t 2 = .fn g [] [] ∧ t 4 = .ptr 0 1 0 0 ∧ t 8 = .val (.int .i64 hs.length) ∧ t 9 = .val (.int .i64 i) ∧ t 10 = .val (.int .i64 j) ∧
    h[0]? = some ⟨74, 4, [[.val (.int .i64 tg.Job), .val (.int .i64 tg.Count), .val (.string tg.Name), .list 0 1 (tg.Subs.map cStr)]]⟩ ∧ n = j - i ∧ i ≤ m ∧ m ≤ j ∧ j ≤ hs.length) hs.length ⟨0, hs.length, rfl, rfl, rfl, rfl, rfl, rfl, rfl, rfl, Nat.zero_le _, hm, Nat.le_refl _⟩ ?_
  rintro J hJ n t h ⟨i, j, t0, t2, t4, t8, t9, t10, o0, rfl, him, hmj, hj⟩
  by_cases hij : i < j
  · have e1 : ((i : Int) + (j : Int)) = ((i + j : Nat) : Int) := by omega
    have hmid : (i + j) / 2 < hs.length := by omega
    have hq := hpart ((i + j) / 2) hmid
    simp (disch := omega) only [t0, t2, t4, t8, t9, t10, hij, o0, e1, wrap_u64_in, bin_shr1, hmid, hc, cellsL, go_sem, Nat.reduceEqDiff, Nat.reduceAdd, Nat.reduceLeDiff, reduceCtorEq, Int.reduceLT, Int.reduceLE, Int.reduceNeg, Int.reduceSub, Int.reduceAdd, Int.reduceToNat, ↓reduceIte]
    refine PureCall.q (hp hs[(i + j) / 2] (List.getElem_mem hmid) _) ?_
    by_cases hl : c hs[(i + j) / 2] tg < 0
    · simp (disch := omega) only [t0, t2, t4, t8, t9, t10, hl, go_sem, Nat.reduceEqDiff, Nat.reduceAdd, Nat.reduceLeDiff, reduceCtorEq, Int.reduceLT, Int.reduceLE, Int.reduceNeg, Int.reduceSub, Int.reduceAdd, Int.reduceToNat, ↓reduceIte]
      exact ⟨j - ((i + j) / 2 + 1), by omega, hJ _ _ _ ⟨(i + j) / 2 + 1, j, by simp [upd, t0], by simp [upd, t2], by simp [upd, t4], by simp [upd, t8], by simp [upd], by simp [upd, t10], o0, rfl, by have := hq.1 hl; omega, hmj, hj⟩⟩
    · have hnm : ¬ ((i + j) / 2 < m) := fun q => hl (hq.2 q)
      simp (disch := omega) only [t0, t2, t4, t8, t9, t10, hl, go_sem, Nat.reduceEqDiff, Nat.reduceAdd, Nat.reduceLeDiff, reduceCtorEq, Int.reduceLT, Int.reduceLE, Int.reduceNeg, Int.reduceSub, Int.reduceAdd, Int.reduceToNat, ↓reduceIte]
      exact ⟨(i + j) / 2 - i, by omega, hJ _ _ _ ⟨i, (i + j) / 2, by simp [upd, t0], by simp [upd, t2], by simp [upd, t4], by simp [upd, t8], by simp [upd, t9], by simp [upd], o0, rfl, him, by omega, by omega⟩⟩
  · have him' : i = m := by omega
    by_cases hml : m < hs.length
    · have hil : i < hs.length := by omega
      subst him'
      rw [dif_pos hml] at hfd
      simp (disch := omega) only [t0, t2, t4, t8, t9, t10, hij, o0, hil, hc, cellsL, go_sem, Nat.reduceEqDiff, Nat.reduceAdd, Nat.reduceLeDiff, reduceCtorEq, Int.reduceLT, Int.reduceLE, Int.reduceNeg, Int.reduceSub, Int.reduceAdd, Int.reduceToNat, ↓reduceIte]
      refine PureCall.q (hp hs[i] (List.getElem_mem hil) _) ?_
      simp (disch := omega) only [t0, t2, t4, t8, t9, t10, go_sem, Nat.reduceEqDiff, Nat.reduceAdd, Nat.reduceLeDiff, reduceCtorEq, Int.reduceLT, Int.reduceLE, Int.reduceNeg, Int.reduceSub, Int.reduceAdd, Int.reduceToNat, ↓reduceIte]
      rw [hfd]
      exact resolve_tup _ _ rfl
    · have hil : ¬ i < hs.length := by omega
      subst him'
      rw [dif_neg hml] at hfd
      simp (disch := omega) only [t0, t2, t4, t8, t9, t10, hij, o0, hil, go_sem, Nat.reduceEqDiff, Nat.reduceAdd, Nat.reduceLeDiff, reduceCtorEq, Int.reduceLT, Int.reduceLE, Int.reduceNeg, Int.reduceSub, Int.reduceAdd, Int.reduceToNat, ↓reduceIte]
      rw [hfd]
      exact resolve_tup _ _ rfl
end Go.Proofs.YtodgohgdnmifaaaGreatDoor
