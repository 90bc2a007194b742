/-
 Contracts of functions. Conditions: as each theorem says.
-/
import Derived.Test.YtodgohgdnmifaaaGreatDoorFnT
import Derived.Test.YtodgohgdnmifaaaGreatDoorPlOrd2
import Derived.Laws.Bits64
namespace Go.Proofs.YtodgohgdnmifaaaGreatDoor
open List
open Go.AW
set_option linter.unusedVariables false
set_option linter.unusedSimpArgs false
set_option maxRecDepth 4000
theorem gD_ (p a : ac_) : aR_ p a = true ↔ p.Job < a.Job ∨ (p.Job = a.Job ∧ c0_ p.Name.data.toList (bss p.Subs) a.Name.data.toList (bss a.Subs) = true) := by
 have h := km_ p a
 cases hl : aR_ p a
 ·rw [hl] at h
  simp only [Bool.not_false, Bool.true_eq, Bool.or_eq_true, Bool.and_eq_true, decide_eq_true_eq, Bool.not_eq_true'] at h
  constructor
  ·intro q; cases q
  ·intro q
   exfalso
   rcases h with h | ⟨h, k⟩
   ·rcases q with q | ⟨q, _⟩ <;> omega
   ·rcases q with q | ⟨_, q⟩
    ·omega
    ·rw [k] at q; cases q
 ·rw [hl] at h
  simp only [Bool.not_true, Bool.false_eq, Bool.or_eq_false_iff, Bool.and_eq_false_iff, decide_eq_false_iff_not, Bool.not_eq_false'] at h
  refine ⟨fun _ => ?_, fun _ => rfl⟩
  rcases h with ⟨h1, h2 | h2⟩
  ·left; omega
  ·by_cases e : p.Job = a.Job
   ·exact .inr ⟨e, h2⟩
   ·left; omega
theorem ha_ {a b c : ac_} (h1 : aR_ a b = true) (h2 : aR_ b c = true) : aR_ a c = true := by
 rw [gD_] at h1 h2 ⊢
 rcases h1 with h1 | ⟨h1, k1⟩ <;> rcases h2 with h2 | ⟨h2, k2⟩
 ·left; omega
 ·left; omega
 ·left; omega
 ·exact .inr ⟨h1.trans h2, oN_ k1 k2⟩
def sameKey (x y : ac_) : Prop := x.Job = y.Job ∧ x.Name = y.Name ∧ x.Subs = y.Subs
theorem fr_ (x y : ac_) : cR_ x y = 0 ↔ sameKey x y := by
 unfold cR_ sameKey
 by_cases h : x.Job = y.Job
 ·rw [if_pos ((gg_ _ _).2 h), qG_, lR_, pg_]
  simp [h]
 ·have h0 : ¬ e3_ x.Job y.Job = 0 := fun q => h ((gg_ _ _).1 q)
  rw [if_neg h0]
  simp [h, h0]
theorem i6_ (x y : ac_) (h : sameKey x y) : aR_ x y = false := by
 have : cR_ x y = 0 := (fr_ x y).2 h
 unfold aR_
 simp [this]
theorem jh_ (x y : ac_) (h : ¬ sameKey x y) : aR_ x y = true ∨ aR_ y x = true := by
 rw [gD_, gD_]
 rcases Int.lt_trichotomy x.Job y.Job with q | q | q
 ·exact .inl (.inl q)
 ·have : ¬ (x.Name.data.toList = y.Name.data.toList ∧ bss x.Subs = bss y.Subs) := by
   intro e
   rw [lR_, pg_] at e
   exact h ⟨q, e.1, e.2⟩
  rcases oY_ this with k | k
  ·exact .inl (.inr ⟨q, k⟩)
  ·exact .inr (.inr ⟨q.symm, k⟩)
 ·exact .inr (.inl q)
theorem i0_ {α : Type} {R : α → α → Prop} : ∀ (l : List α) (p : α), l.Pairwise R → l.getLast? = some p → ∀ x ∈ l, x = p ∨ R x p
 | [], p, _, h, x, hx => by simp at hx
 | [y], p, _, h, x, hx => by simp at h hx; subst h hx; exact .inl rfl
 | y :: z :: l, p, hp, h, x, hx => by
  rw [getLast?_cons_cons] at h
  have hp2 := pairwise_cons.1 hp
  rcases mem_cons.1 hx with q | q
  ·subst q
   exact .inr (hp2.1 p (mem_of_getLast? h))
  ·exact i0_ (z :: l) p hp2.2 h x q
theorem iZ_ : ∀ (r pre : List ac_), cc_ pre r = true → pre.Pairwise (fun a b => aR_ a b = true) → (pre ++ r).Pairwise (fun a b => aR_ a b = true)
 | [], pre, _, h => by simpa using h
 | a :: r, pre, h, hp => by
  simp only [cc_, Bool.and_eq_true] at h
  obtain ⟨⟨⟨_, h1⟩, _⟩, h2⟩ := h
  have := iZ_ r (pre ++ [a]) h2 (by
   rw [pairwise_append]
   refine ⟨hp, by simp, fun x hx y hy => ?_⟩
   simp at hy; subst hy
   cases hl : pre.getLast? with
   | none => rw [getLast?_eq_none_iff] at hl; subst hl; simp at hx
   | some p =>
    rw [hl] at h1
    rcases i0_ pre p hp hl x hx with q | q
    ·subst q; exact h1
    ·exact ha_ q h1)
  simpa using this
theorem nS_ {x : ab_} (h : cl_ x = true) : x.Held.Pairwise (fun a b => aR_ a b = true) := by
 simp only [cl_, eu_, Bool.and_eq_true] at h
 simpa using iZ_ x.Held [] h.2.2 (by simp)
theorem si_ (q : Bool) (n : Nat) : bB_ .shr q (.val (.int .u64 (n : Int))) (.val (.int .u64 1)) = some (.val (.int .u64 ((n / 2 : Nat) : Int))) := by
 have e : bB_ .shr q (.val (.int .u64 (n : Int))) (.val (.int .u64 1)) = some (.val (.int .u64 ((n : Int).fdiv (2 ^ 1)))) := rfl
 rw [e]
 congr 3
 rw [Int.fdiv_eq_ediv_of_nonneg _ (by decide)]
 omega
theorem oT_ {n : Int} (h1 : 0 ≤ n) (h2 : n ≤ 18446744073709551615) : IntKind.u64.wrap n = n := by
 rw [IntKind.wrap_u64]; omega
def wk_ : LC :=
 .q [.o [.bx 4 74 1, .ki 6 0, .f 7], .o [.m 12 0, .ll 13 12, .m 8 13], .o [.m 14 8, .ki 9 0, .m 10 14], .block 0 (.loop (.q [.q [.o [.m 15 9, .m 16 10, .bb 17 .lss false 15 16], .k 17 .skip (.exit 0)], .block 1 (.q [.o
 [.m 18 9, .m 19 10, .bb 20 .add false 18 19, .s 21 (.convInt .u64 (.tmp 20)), .s 22 (.bin .shr false (.tmp 21) (.const (.int .u64 1))), .s 23 (.convInt .i64 (.tmp 22)), .m 11 23], .dops [.m 24 2, .m 25 0, .m 26 11, .ia
 27 4 25 26, .ld 28 4 27, .ld 29 4 4, .s 30 (.callv (.tmp 24) [.tmp 28, .tmp 29]), .bk 31 .lss false 30 0], .k 31 (.o [.m 32 11, .bk 33 .add false 32 1, .m 9 33]) (.o [.m 34 11, .m 10 34])])])), .dops [.m 35 9, .m 36 9,
 .m 37 8, .bb 38 .lss false 36 37, .m 39 38, .gm 40 39 true 2, .gm 41 39 true 0, .gm 42 39 true 9, .g 43 39 true (.indexAddr 4 (.tmp 41) (.tmp 42)), .gl 44 39 true 4 43, .gl 45 39 true 4 4, .g 46 39 true (.callv (.tmp 40)
 [.tmp 44, .tmp 45]), .g 47 39 true (.bin .eql false (.tmp 46) (.const (.int .i64 0))), .pf 48 39 47, .m 6 35, .m 7 48], .ret]
def tk_ : LF := ⟨3, 49, wk_, [.tmp 6, .tmp 7]⟩
theorem u6_ : aA_ Tryz.prog Tryz.f135 tk_ := ak_
theorem em_ (hs : List ac_) (tg : ac_) (c : ac_ → ac_ → Int) (g m : Nat) (hx : hs.length ≤ 1048576) (hm : m ≤ hs.length) (hpart : ∀ (i : Nat) (h : i < hs.length), (c hs[i] tg < 0 ↔ i < m)) (hc : b3_ Tryz.prog g = true)
 (hp : ∀ x ∈ hs, ∀ h, aa_ Tryz.prog g [.agg (ac_.cells x), .agg (ac_.cells tg)] h (.val (.int .i64 (c x tg)))) (fd : Bool) (hfd : fd = if h : m < hs.length then decide (c hs[m] tg = 0) else false) (h : List Row) :
 aa_ Tryz.prog 135 [.list 0 4 (hs.map ac_.cells), .agg (ac_.cells tg), .fn g [] []] h (.tup [.val (.int .i64 m), .val (.bool fd)]) := by
 refine ap_ mixed Tryz.func135 u6_ rfl rfl ?_ h
 simp only [bY_] at hp
 simp (disch := omega) only [tk_, wk_, bY_, go_sem, Nat.reduceEqDiff, Nat.reduceAdd, reduceCtorEq, ↓reduceIte]
 refine aE_ (fun n t h => ∃ (i j : Nat), t 0 = .list 0 4 (hs.map ac_.cells) ∧ t 2 = .fn g [] [] ∧ t 4 = .ptr 0 1 0 0 ∧ t 8 = .val (.int .i64 hs.length) ∧ t 9 = .val (.int .i64 i) ∧ t 10 = .val (.int .i64 j) ∧
  h[0]? = some ⟨74, 4, [[.val (.int .i64 tg.Job), .val (.int .i64 tg.Count), .val (.string tg.Name), .list 0 1 (tg.Subs.map ax_)]]⟩ ∧ n = j - i ∧ i ≤ m ∧ m ≤ j ∧ j ≤ hs.length) hs.length ⟨0, hs.length, rfl, rfl, rfl, rfl, rfl, rfl, rfl, rfl, Nat.zero_le _, hm, Nat.le_refl _⟩ ?_
 rintro J hJ n t h ⟨i, j, t0, t2, t4, t8, t9, t10, o0, rfl, him, hmj, hj⟩
 by_cases hij : i < j
 ·have e1 : ((i : Int) + (j : Int)) = ((i + j : Nat) : Int) := by omega
  have hmid : (i + j) / 2 < hs.length := by omega
  have hq := hpart ((i + j) / 2) hmid
  simp (disch := omega) only [t0, t2, t4, t9, t10, hij, o0, e1, oT_, si_, hc, bY_, go_sem, Nat.reduceEqDiff, Nat.reduceAdd, reduceCtorEq, ↓reduceIte]
  refine aa_.q (hp hs[(i + j) / 2] (getElem_mem hmid) _) ?_
  by_cases hl : c hs[(i + j) / 2] tg < 0
  ·simp (disch := omega) only [hl, go_sem, Nat.reduceEqDiff, ↓reduceIte]
   exact ⟨j - ((i + j) / 2 + 1), by omega, hJ _ _ _ ⟨(i + j) / 2 + 1, j, by simp [upd, t0], by simp [upd, t2], by simp [upd, t4], by simp [upd, t8], by simp [upd], by simp [upd, t10], o0, rfl, by have := hq.1 hl; omega, hmj, hj⟩⟩
  ·have hnm : ¬ ((i + j) / 2 < m) := fun q => hl (hq.2 q)
   simp (disch := omega) only [hl, go_sem, Nat.reduceEqDiff, ↓reduceIte]
   exact ⟨(i + j) / 2 - i, by omega, hJ _ _ _ ⟨i, (i + j) / 2, by simp [upd, t0], by simp [upd, t2], by simp [upd, t4], by simp [upd, t8], by simp [upd, t9], by simp [upd], o0, rfl, him, by omega, by omega⟩⟩
 ·have him' : i = m := by omega
  by_cases hml : m < hs.length
  ·have hil : i < hs.length := by omega
   subst him'
   rw [dif_pos hml] at hfd
   simp (disch := omega) only [t0, t2, t4, t8, t9, t10, hij, o0, hil, hc, bY_, go_sem, Nat.reduceEqDiff, Nat.reduceAdd, reduceCtorEq, ↓reduceIte]
   refine aa_.q (hp hs[i] (getElem_mem hil) _) ?_
   simp (disch := omega) only [go_sem]
   rw [hfd]
   exact hH_ _ _ rfl
  ·have hil : ¬ i < hs.length := by omega
   subst him'
   rw [dif_neg hml] at hfd
   simp (disch := omega) only [t8, t9, t10, hij, hil, go_sem, Nat.reduceEqDiff, ↓reduceIte]
   rw [hfd]
   exact hH_ _ _ rfl
theorem ns_ : ∀ xs ys : List ByteArray, cx_ xs ys = true ↔ xs = ys
 | [], [] => by simp [cx_, ep_]
 | [], _ :: _ => by simp [cx_, ep_]
 | _ :: _, [] => by simp [cx_, ep_]
 | x :: xs, y :: ys => by
  have ih := ns_ xs ys
  simp only [cx_, ep_, Bool.and_eq_true, eqS, decide_eq_true_eq, List.cons.injEq] at ih ⊢
  rw [ih]
def cw_ (j : Int) (n : ByteArray) (s : List ByteArray) (a : ac_) : Bool := decide (a.Job = j) && decide (a.Name = n) && cx_ a.Subs s
def iJ_ (x : ab_) (j : Int) (n : ByteArray) (s : List ByteArray) : Int := aN_ (cw_ j n s) x.Held 0
theorem fe_ (j : Int) (n : ByteArray) (s : List ByteArray) (a : ac_) (c : Int) : cw_ j n s a = true ↔ sameKey a ⟨j, c, n, s⟩ := by
 simp only [cw_, Bool.and_eq_true, decide_eq_true_eq, ns_, sameKey]
 exact and_assoc
theorem hf_ {α : Type} (p : α → Bool) : ∀ (xs : List α) (k : Nat), (aN_ p xs k = -1 ∧ xs.find? p = none) ∨ (∃ i, ∃ h : i < xs.length, aN_ p xs k = ((k + i : Nat) : Int) ∧ xs.find? p = some xs[i])
 | [], k => .inl ⟨rfl, rfl⟩
 | x :: xs, k => by
  by_cases h : p x = true
  ·right
   exact ⟨0, by simp, by simp [aN_, h], by simp [h]⟩
  ·rcases hf_ p xs (k + 1) with ⟨h1, h2⟩ | ⟨i, hi, h1, h2⟩
   ·left; simp [aN_, h, h1, h2]
   ·right
    refine ⟨i + 1, by simpa using hi, ?_, ?_⟩
    ·simp only [aN_, h, Bool.false_eq_true, if_false]; rw [h1]; congr 1; omega
    ·simp [h, h2]
def c54 : LC :=
 .q [.o [.bx 4 32 0, .ki 8 0], .q [.o [.ki 9 0], .block 0 (.loop (.q [.q [.o [.m 11 9, .fa 12 0 4, .ln 13 12, .ll 14 13, .bb 15 .lss false 11 14], .k 15 .skip (.exit 0)], .block 1 (.q [.o [.fa 18 0 4, .ln 19 18, .m 20 9,
 .ia 21 4 19 20, .ld 22 4 21, .s 10 (.alloc 74 (.agg #[.int .i64 0, .int .i64 0, .string ⟨#[]⟩, .slice none 0 0])), .st 4 10 22], .o [.fa 23 0 10, .ln 24 23, .m 25 1, .bb 26 .eql false 24 25, .m 27 26, .gf 28 27 true 2
 10, .gn 29 27 true 28, .gm 30 27 true 2, .g 31 27 true (.bin .eql false (.tmp 29) (.tmp 30)), .pf 32 27 31, .m 33 32, .gf 34 33 true 3 10, .gn 35 33 true 34, .gm 36 33 true 3, .g 37 33 true (.call 89 [.tmp 35, .tmp 36]),
 .pf 38 33 37], .k 38 (.q [.o [.m 39 9, .m 8 39], .ret]) .skip]), .o [.m 16 9, .bk 17 .add false 16 1, .m 9 17]]))], .o [.s 8 (.mov (.const (.int .i64 (-1))))], .ret]
def xl_ : LF := ⟨4, 40, c54, [.tmp 8]⟩
theorem yu_ : aA_ Tryz.prog Tryz.f54 xl_ := ak_
theorem i3_ (x : ab_) (j : Int) (nm : ByteArray) (s : List ByteArray) (hx : ab_.sz x ≤ 1048576) (h : List Row) : aa_ Tryz.prog 54 [.agg (ab_.cells x), .val (.int .i64 j), .val (.string nm), .list 0 1 (s.map ax_)] h (.val (.int .i64 (iJ_ x j nm s))) := by
 refine ap_ mixed Tryz.func54 yu_ rfl rfl ?_ h
 have hlen := as_ (ab_.sz_Held hx)
 have hmH : ∀ a ∈ x.Held, ac_.sz a ≤ 1048576 := fun a ha => bV_ (ab_.sz_Held hx) ha
 simp (disch := omega) only [xl_, c54, ab_.cells, go_sem, Nat.reduceAdd, Int.reduceNeg, ↓reduceIte]
 refine aE_ (fun n t h => ∃ k : Nat, t 4 = .ptr 0 1 0 0 ∧ t 1 = .val (.int .i64 j) ∧ t 2 = .val (.string nm) ∧ t 3 = .list 0 1 (s.map ax_) ∧ t 9 = .val (.int .i64 k) ∧ h[0]? = some ⟨32, 2, [[.list 0 4 (x.Held.map ac_.cells), .list 0 4 (x.Asks.map ae_.cells)]]⟩ ∧ n = x.Held.length - k ∧ k ≤ x.Held.length ∧ (iJ_ x j nm s = aN_ (cw_ j nm s) (x.Held.drop k) k)) (x.Held.length) ?_ ?_
 ·exact ⟨0, rfl, rfl, rfl, rfl, rfl, rfl, rfl, Nat.zero_le _, rfl⟩
 ·rintro J hJ n t h ⟨k, t4, t1, t2, t3, k9, o0, rfl, hk, hS⟩
  have p0 : ∀ l, (h ++ l)[0]? = some ⟨32, 2, [[.list 0 4 (x.Held.map ac_.cells), .list 0 4 (x.Asks.map ae_.cells)]]⟩ := fun l => aQ_ o0
  by_cases hlt : k < x.Held.length
  ·skip
   rw [db_ _ x.Held k hlt] at hS
   simp only [cw_] at hS
   simp (disch := omega) only [t4, t1, k9, o0, hlt, bY_, go_sem, Nat.reduceEqDiff, Nat.reduceAdd, Int.reduceNeg, ↓reduceIte]
   repeat' (first
    | exact af_ _ _
    | exact ⟨x.Held.length - (k + 1), by omega, hJ _ _ _ ⟨k + 1, by simp [upd, t4], by simp [upd, t1], by simp [upd, t2], by simp [upd, t3], by simp [upd], by first | exact o0 | exact p0 _, rfl, by omega, by rw [hS]; simp only [*, Bool.and_false, Bool.false_and, Bool.and_self, Bool.false_eq_true, if_false]⟩⟩
    | (refine an_ ?_; rw [hS]; simp only [*, Bool.and_self, if_true]; done)
    | (refine an_ ?_; rw [hS, b6_ _ _ _ (by omega)])
    | simp (disch := omega) only [t2, t3, k9, go_sem, Nat.reduceEqDiff, Int.reduceNeg, ↓reduceIte]
    | (refine aa_.call (dX_ _ _ (as_ (ac_.sz_Subs (hmH _ (getElem_mem hlt)))) _) ?_)
    | (refine aa_.q (dX_ _ _ (as_ (ac_.sz_Subs (hmH _ (getElem_mem hlt)))) _) ?_)
    | ((first | (apply bt_; assumption) | (apply bu_; assumption) | (apply bK_; assumption) | (apply bJ_; assumption)); intro hb; try simp only [hb])
    | ((first | (apply aX_; assumption) | (apply aY_; assumption) | (apply a6_; assumption) | (apply a5_; assumption)); intro hb; try simp only [hb])
    | ((first | apply aW_ | apply a3_ | apply aw_ | apply ay_) <;> intro hb <;> (try simp only [hb]) <;> (first | have hp := bl_ hb | have hp := bk_ hb | have hp := bj_ hb | have hp := bm_ hb | skip)))
  ·skip
   simp (disch := omega) only [t4, k9, o0, hlt, go_sem, Nat.reduceEqDiff, Int.reduceNeg, ↓reduceIte]
   repeat' (first
    | exact af_ _ _
    | (refine an_ ?_; rw [hS]; simp only [*, Bool.and_true, Bool.true_and, Bool.and_false, Bool.false_and, Bool.or_true, Bool.true_or, Bool.or_false, Bool.false_or, Bool.not_true, Bool.not_false, decide_true, decide_false, Bool.and_self, Bool.or_self, if_true]; done)
    | (refine an_ ?_; rw [hS, b6_ _ _ _ (by omega)])
    | simp (disch := omega) only [t4, t1, t2, t3, k9, o0, p0, go_sem, Nat.reduceEqDiff, Nat.reduceAdd, Nat.reduceLeDiff, reduceCtorEq, Int.reduceLT, Int.reduceLE, Int.reduceNeg, Int.reduceSub, Int.reduceAdd, Int.reduceToNat, ↓reduceIte]
    | (refine aa_.call (dX_ _ _ (as_ (ac_.sz_Subs (hmH _ (getElem_mem hlt)))) _) ?_)
    | (refine aa_.q (dX_ _ _ (as_ (ac_.sz_Subs (hmH _ (getElem_mem hlt)))) _) ?_)
    | ((first | (apply bt_; assumption) | (apply bu_; assumption) | (apply bK_; assumption) | (apply bJ_; assumption)); intro hb; try simp only [hb])
    | ((first | (apply aX_; assumption) | (apply aY_; assumption) | (apply a6_; assumption) | (apply a5_; assumption)); intro hb; try simp only [hb])
    | ((first | apply aW_ | apply a3_ | apply aw_ | apply ay_) <;> intro hb <;> (try simp only [hb]) <;> (first | have hp := bl_ hb | have hp := bk_ hb | have hp := bj_ hb | have hp := bm_ hb | skip)))
def c96 : LC :=
 .q [.o [.ki 8 0, .f 9], .o [.m 10 0, .nc 11 10, .fa 12 0 11, .ln 13 12, .m 14 1, .m 15 2, .m 16 3, .s 17 (.build (.agg #[.int .i64 0, .int .i64 0, .string ⟨#[]⟩, .slice none 0 0]) [(0, 1), (1, 1), (2, 1), (3, 1)] [(0,
 .tmp 14), (2, .tmp 15), (3, .tmp 16)]), .s 18 (.call 135 [.tmp 13, .tmp 17, .func 115]), .ex 19 18 0, .ex 20 18 1, .m 8 19, .m 9 20], .ret]
def wn_ : LF := ⟨4, 21, c96, [.tmp 8, .tmp 9]⟩
theorem yB_ : aA_ Tryz.prog Tryz.f96 wn_ := ak_
theorem gm_ (x : ab_) (j : Int) (n : ByteArray) (s : List ByteArray) (hx : ab_.sz x ≤ 1048576) (hn : n.size ≤ 1048576) (hs : ar_ ByteArray.size s ≤ 1048576) (m : Nat) (hm : m ≤ x.Held.length) (hpart : ∀ (i : Nat) (h : i < x.Held.length), (aR_ x.Held[i] ⟨j, 0, n, s⟩ = true ↔ i < m)) (fd : Bool) (hfd : fd = if h : m < x.Held.length then decide (cR_ x.Held[m] ⟨j, 0, n, s⟩ = 0) else false) (h : List Row) :
 aa_ Tryz.prog 96 [.iptr (ab_.cells x), .val (.int .i64 j), .val (.string n), .list 0 1 (s.map ax_)] h (.tup [.val (.int .i64 m), .val (.bool fd)]) := by
 refine ap_ mixed Tryz.func96 yB_ rfl rfl ?_ h
 have hlen := as_ (ab_.sz_Held hx)
 have hcall : ∀ H, aa_ Tryz.prog 135 [.list 0 4 (x.Held.map ac_.cells), .agg [.val (.int .i64 j), .val (.int .i64 0), .val (.string n), .list 0 1 (s.map ax_)], .fn 115 [] []] H (.tup [.val (.int .i64 m), .val (.bool fd)]) := by
  intro H
  refine em_ x.Held ⟨j, 0, n, s⟩ cR_ 115 m hlen hm (fun i h => ?_) (by kernel_rfl) (fun y hy h => h4_ y ⟨j, 0, n, s⟩ (ac_.sz_Subs (bV_ (ab_.sz_Held hx) hy)) hs h) fd hfd H
  rw [← hpart i h]; simp [aR_]
 simp (disch := omega) only [wn_, c96, ab_.cells, go_sem, Nat.reduceEqDiff, Nat.reduceAdd, reduceCtorEq, ↓reduceIte]
 simp (disch := omega) only [dh_, go_sem, Nat.reduceAdd, Nat.reduceLeDiff, ↓reduceIte]
 refine aa_.call (hcall _) ?_
 simp (disch := omega) only [go_sem, Nat.reduceEqDiff, ↓reduceIte]
 exact hH_ _ _ rfl
theorem lB_ : ∀ (r pre : List ac_), cc_ pre r = true → ∀ a ∈ r, dn_ a = true
 | [], pre, _, a, ha => by simp at ha
 | b :: r, pre, h, a, ha => by
  simp only [cc_, Bool.and_eq_true] at h
  rcases List.mem_cons.1 ha with q | q
  ·subst q; exact h.1.1.1
  ·exact lB_ r _ h.2 a q
theorem rd_ {x : ab_} (h : cl_ x = true) : ∀ a ∈ x.Held, dn_ a = true := by
 simp only [cl_, eu_, Bool.and_eq_true] at h
 exact lB_ x.Held [] h.2.2
theorem g7_ {a b x : ac_} (h : sameKey a b) : aR_ x a = aR_ x b := by
 obtain ⟨h1, h2, h3⟩ := h
 unfold aR_ cR_; rw [h1, h2, h3]
theorem sameKey.symm {a b : ac_} (h : sameKey a b) : sameKey b a := ⟨h.1.symm, h.2.1.symm, h.2.2.symm⟩
theorem sameKey.trans {a b c : ac_} (h : sameKey a b) (k : sameKey b c) : sameKey a c := ⟨h.1.trans k.1, h.2.1.trans k.2.1, h.2.2.trans k.2.2⟩
end Go.Proofs.YtodgohgdnmifaaaGreatDoor
