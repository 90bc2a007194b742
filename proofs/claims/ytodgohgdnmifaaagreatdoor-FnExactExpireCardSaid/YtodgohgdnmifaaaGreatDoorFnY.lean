/-
 Contracts of functions. Conditions: as each theorem says.
-/
import Derived.Test.YtodgohgdnmifaaaGreatDoorFnW
import Derived.Test.YtodgohgdnmifaaaGreatDoorPlJobs
import Derived.Test.YtodgohgdnmifaaaGreatDoorAwC
namespace Go.Proofs.YtodgohgdnmifaaaGreatDoor
open Nat (reduceEqDiff reduceLeDiff)
open List
open Go.AW
set_option linter.unusedVariables false
set_option linter.unusedSimpArgs false
set_option maxRecDepth 4000
theorem kN_ : ∀ (zs : List Int) (n : Int), (cU_ zs n).length ≤ zs.length + 1
 | [], n => by simp [cU_]
 | z :: r, n => by
  have := kN_ r n
  simp only [cU_]
  split
  ·split <;> simp
  ·simp; omega
theorem pe_ : ∀ (zs : List Int) (n : Int), cU_ zs n ≠ []
 | [], n => by simp [cU_]
 | z :: r, n => by
  simp only [cU_]
  split
  ·split <;> simp
  ·simp
theorem uU_ (zs : List Int) (k : Nat) (h : k < zs.length) (n : Int) : cU_ (zs.drop k) n = if n ≤ zs[k] then (if n < zs[k] then n :: zs.drop k else zs.drop k) else zs[k] :: cU_ (zs.drop (k + 1)) n := by
 conv => lhs; rw [drop_eq_getElem_cons h]
 rw [cU_, ← drop_eq_getElem_cons h]
def c43 : LC :=
 .q [.o [.nl 4], .o [.s 8 (.buildSlice 2 1 (.int .i64 0) 0 []), .m 5 8], .o [.f 6], .q [.o [.ki 7 0], .block 0 (.loop (.q [.q [.o [.m 9 7, .m 10 0, .ll 11 10, .bb 12 .lss false 9 11], .k 12 .skip (.exit 0)], .block 1 (.q
 [.q [.o [.m 15 6, .nt 16 15, .m 17 16, .gm 18 17 true 0, .gm 19 17 true 7, .g 20 17 true (.indexAddr 1 (.tmp 18) (.tmp 19)), .gn 21 17 true 20, .gm 22 17 true 1, .g 23 17 true (.bin .geq false (.tmp 21) (.tmp 22)), .pf
 24 17 23], .k 24 (.q [.o [.t 6], .o [.m 25 0, .m 26 7, .ia 27 1 25 26, .ln 28 27, .m 29 1, .bb 30 .gtr false 28 29], .k 30 (.o [.m 31 5, .m 32 1, .s 33 (.buildSlice 2 1 (.int .i64 0) 1 [(0, .tmp 32)]), .ap 34 2 1 8 31
 33, .m 5 34]) .skip]) .skip], .o [.m 35 5, .m 36 0, .m 37 7, .ia 38 1 36 37, .ln 39 38, .s 40 (.buildSlice 2 1 (.int .i64 0) 1 [(0, .tmp 39)]), .ap 41 2 1 8 35 40, .m 5 41]]), .o [.m 13 7, .bk 14 .add false 13 1, .m 7
 14]]))], .q [.o [.m 42 6, .nt 43 42], .k 43 (.o [.m 44 5, .m 45 1, .s 46 (.buildSlice 2 1 (.int .i64 0) 1 [(0, .tmp 45)]), .ap 47 2 1 8 44 46, .m 5 47]) .skip], .o [.m 48 5, .m 4 48], .ret]
def xh_ : LF := ⟨2, 49, c43, [.tmp 4]⟩
theorem yn_ : aA_ Tryz.prog Tryz.f43 xh_ := ak_
theorem j7_ (zs : List Int) (n : Int) (hz : zs.length ≤ 4000000) : br_ Tryz.prog 43 [.list 0 1 (av_ zs), .val (.int .i64 n)] (.list 0 1 (av_ (cU_ zs n))) (fun a => ∃ l k, a = .own l k) := by
 refine e6_ mixed Tryz.func43 yn_ rfl (fun h => ?_)
 simp (disch := omega) only [xh_, c43, go_sem, ↓reduceIte]
 refine aE_ (fun m t h' => ∃ (k : Nat) (out : List Int) (d : Bool) (rest : List Row), t 0 = .list 0 1 (av_ zs) ∧ t 1 = .val (.int .i64 n) ∧ t 5 = .own h.length out.length ∧ t 6 = .val (.bool d) ∧ t 7 = .val (.int .i64 k) ∧ h' = h ++ (⟨2, 1, av_ out⟩ :: rest) ∧ m = zs.length - k ∧ k ≤ zs.length ∧ out.length ≤ k + d.toNat ∧ cU_ zs n = (if d then out ++ zs.drop k else out ++ cU_ (zs.drop k) n)) zs.length ⟨0, [], false, [], rfl, rfl, rfl, rfl, rfl, rfl, rfl, Nat.zero_le _, by simp, by simp⟩ ?_
 rintro J hJ m t h' ⟨k, out, d, rest, t0, t1, t5, t6, t7, rfl, rfl, hk, ho, hS⟩
 have hnx : ∀ (t' : Nat → AV) (out' : List Int) (d' : Bool) (rest' : List Row), t' 0 = .list 0 1 (av_ zs) → t' 1 = .val (.int .i64 n) → t' 5 = .own h.length out'.length → t' 6 = .val (.bool d') → t' 7 = .val (.int .i64 (k + 1 : Nat)) → k < zs.length → out'.length ≤ k + 1 + d'.toNat → cU_ zs n = (if d' then out' ++ zs.drop (k + 1) else out' ++ cU_ (zs.drop (k + 1)) n) → ∃ m, m < zs.length - k ∧ J m t' (h ++ (⟨2, 1, av_ out'⟩ :: rest')) :=
  fun t' out' d' rest' e0 e1 e5 e6 e7 hlt e8 e9 => ⟨zs.length - (k + 1), by omega, hJ _ _ _ ⟨k + 1, out', d', rest', e0, e1, e5, e6, e7, rfl, rfl, by omega, by omega, e9⟩⟩
 by_cases hlt : k < zs.length
 ·have hg := eI_ zs k hlt
  cases d
  ·simp only [Bool.false_eq_true, if_false] at hS
   simp only [Bool.toNat_false, Nat.add_zero] at ho
   rw [uU_ zs k hlt] at hS
   by_cases h1 : n ≤ zs[k]
   ·rw [if_pos h1] at hS
    by_cases h2 : n < zs[k]
    ·rw [if_pos h2] at hS
     simp (disch := omega) only [t0, t1, t5, t6, t7, hlt, hg, h1, h2, go_sem, reduceEqDiff, reduceLeDiff, reduceCtorEq, ↓reduceIte]
     refine ⟨by omega, by omega, ?_⟩
     try simp (disch := omega) only [t0, t1, t5, t6, t7, hlt, hg, go_sem, reduceEqDiff, Nat.reduceAdd, reduceLeDiff, reduceCtorEq, Int.reduceLT, Int.reduceLE, Int.reduceNeg, Int.reduceSub, Int.reduceAdd, Int.reduceToNat, ↓reduceIte]
     refine ⟨by first | omega | (simp; omega), by first | omega | (simp; omega), ?_⟩
     refine hnx _ (out ++ [n, zs[k]]) true _ (by simp [upd, t0]) (by simp [upd, t1]) (by simp [upd]) (by simp [upd]) (by simp [upd]) hlt (by simp; omega) ?_
     rw [hS, drop_eq_getElem_cons hlt]; simp
    ·rw [if_neg h2] at hS
     simp (disch := omega) only [t0, t1, t5, t6, t7, hlt, hg, h1, h2, go_sem, reduceEqDiff, reduceLeDiff, reduceCtorEq, ↓reduceIte]
     refine ⟨by omega, by omega, ?_⟩
     refine hnx _ (out ++ [zs[k]]) true _ (by simp [upd, t0]) (by simp [upd, t1]) (by simp [upd]) (by simp [upd]) (by simp [upd]) hlt (by simp; omega) ?_
     rw [hS, drop_eq_getElem_cons hlt]; simp
   ·rw [if_neg h1] at hS
    simp (disch := omega) only [t0, t1, t5, t6, t7, hlt, hg, h1, go_sem, reduceEqDiff, reduceLeDiff, reduceCtorEq, ↓reduceIte]
    refine ⟨by omega, by omega, ?_⟩
    refine hnx _ (out ++ [zs[k]]) false _ (by simp [upd, t0]) (by simp [upd, t1]) (by simp [upd]) (by simp [upd, t6]) (by simp [upd]) hlt (by simp; omega) ?_
    rw [hS]; simp
  ·simp only [if_true] at hS
   simp only [Bool.toNat_true] at ho
   simp (disch := omega) only [t0, t5, t6, t7, hlt, hg, go_sem, reduceEqDiff, reduceLeDiff, reduceCtorEq, ↓reduceIte]
   refine ⟨by omega, by omega, ?_⟩
   refine hnx _ (out ++ [zs[k]]) true _ (by simp [upd, t0]) (by simp [upd, t1]) (by simp [upd]) (by simp [upd, t6]) (by simp [upd]) hlt (by simp; omega) ?_
   rw [hS, drop_eq_getElem_cons hlt]; simp
 ·have hd : zs.drop k = [] := drop_eq_nil_of_le (by omega)
  rw [hd] at hS
  cases d
  ·simp only [Bool.false_eq_true, if_false, cU_] at hS
   simp only [Bool.toNat_false, Nat.add_zero] at ho
   simp (disch := omega) only [t0, t1, t5, t6, t7, hlt, go_sem, reduceEqDiff, reduceLeDiff, reduceCtorEq, ↓reduceIte]
   refine ⟨by omega, by omega, ?_⟩
   rw [hS]
   refine ⟨_, rfl, ?_, _, _, rfl⟩
   have := cM_.ofInts (base := h.length) (l := h.length) (H := h ++ (⟨2, 1, av_ (out ++ [n])⟩ :: (rest ++ [⟨2, 1, [[.val (.int .i64 n)]]⟩]))) (E := 2) (zs := out ++ [n]) (by rw [di_]; rfl) (Nat.le_refl _)
   simpa using this
  ·simp only [if_true, append_nil] at hS
   simp (disch := omega) only [t0, t5, t6, t7, hlt, go_sem, reduceEqDiff, reduceCtorEq, ↓reduceIte]
   rw [hS]
   exact ⟨_, rfl, cM_.ofInts (E := 2) (by rw [di_]; rfl) (Nat.le_refl _), _, _, rfl⟩
def kG_ (j : Int) (nm : ByteArray) (s : List ByteArray) (a : ac_) : Bool := decide (a.Job = j) && way a.Name a.Subs nm s
def ed_ (x : ab_) (j : Int) (nm : ByteArray) (s : List ByteArray) : Bool := x.Held.any (kG_ j nm s)
theorem vZ_ {α : Type} (p : α → Bool) (xs : List α) (k : Nat) (h : k < xs.length) : (xs.drop k).any p = (p xs[k] || (xs.drop (k + 1)).any p) := by
 rw [drop_eq_getElem_cons h]; rfl
theorem pa_ {α : Type} (p : α → Bool) (xs : List α) (k : Nat) (h : xs.length ≤ k) : (xs.drop k).any p = false := by
 rw [drop_eq_nil_of_le h]; rfl
def v2_ : LC :=
 .q [.o [.bx 4 32 0, .f 8], .q [.o [.ki 9 0], .block 0 (.loop (.q [.q [.o [.m 11 9, .fa 12 0 4, .ln 13 12, .ll 14 13, .bb 15 .lss false 11 14], .k 15 .skip (.exit 0)], .block 1 (.q [.o [.fa 18 0 4, .ln 19 18, .m 20 9, .ia
 21 4 19 20, .ld 22 4 21, .s 10 (.alloc 74 (.agg #[.int .i64 0, .int .i64 0, .string ⟨#[]⟩, .slice none 0 0])), .st 4 10 22], .o [.fa 23 0 10, .ln 24 23, .m 25 1, .bb 26 .eql false 24 25, .m 27 26, .gf 28 27 true 2 10,
 .gn 29 27 true 28, .gf 30 27 true 3 10, .gn 31 27 true 30, .gm 32 27 true 2, .gm 33 27 true 3, .g 34 27 true (.call 72 [.tmp 29, .tmp 31, .tmp 32, .tmp 33]), .pf 35 27 34], .k 35 (.q [.o [.t 8], .ret]) .skip]), .o [.m 16
 9, .bk 17 .add false 16 1, .m 9 17]]))], .o [.f 8], .ret]
def tl_ : LF := ⟨4, 36, v2_, [.tmp 8]⟩
theorem wE_ : aA_ Tryz.prog Tryz.f112 tl_ := ak_
theorem j6_ (x : ab_) (j : Int) (nm : ByteArray) (s : List ByteArray) (hx : ab_.sz x ≤ 1048576) (hs : s.length ≤ 1048576) (h : List Row) : aa_ Tryz.prog 112 [.agg (ab_.cells x), .val (.int .i64 j), .val (.string nm), .list 0 1 (s.map ax_)] h (.val (.bool (ed_ x j nm s))) := by
 refine ap_ mixed Tryz.func112 wE_ rfl rfl ?_ h
 have hlen := as_ (ab_.sz_Held hx)
 have hmH : ∀ a ∈ x.Held, ac_.sz a ≤ 1048576 := fun a ha => bV_ (ab_.sz_Held hx) ha
 simp (disch := omega) only [tl_, v2_, ab_.cells, go_sem, Nat.reduceAdd, ↓reduceIte]
 refine aE_ (fun n t h => ∃ k : Nat, t 4 = .ptr 0 1 0 0 ∧ t 1 = .val (.int .i64 j) ∧ t 2 = .val (.string nm) ∧ t 3 = .list 0 1 (s.map ax_) ∧ t 9 = .val (.int .i64 k) ∧ h[0]? = some ⟨32, 2, [[.list 0 4 (x.Held.map ac_.cells), .list 0 4 (x.Asks.map ae_.cells)]]⟩ ∧ n = x.Held.length - k ∧ k ≤ x.Held.length ∧ (ed_ x j nm s = (x.Held.drop k).any (kG_ j nm s))) (x.Held.length) ?_ ?_
 ·exact ⟨0, rfl, rfl, rfl, rfl, rfl, rfl, rfl, Nat.zero_le _, rfl⟩
 ·rintro J hJ n t h ⟨k, t4, t1, t2, t3, k9, o0, rfl, hk, hS⟩
  have p0 : ∀ l, (h ++ l)[0]? = some ⟨32, 2, [[.list 0 4 (x.Held.map ac_.cells), .list 0 4 (x.Asks.map ae_.cells)]]⟩ := fun l => aQ_ o0
  by_cases hlt : k < x.Held.length
  ·skip
   rw [vZ_ _ x.Held k hlt] at hS
   simp only [kG_] at hS
   simp (disch := omega) only [t4, t1, k9, o0, hlt, bY_, go_sem, reduceEqDiff, Nat.reduceAdd, ↓reduceIte]
   repeat' (first
    | exact af_ _ _
    | exact ⟨x.Held.length - (k + 1), by omega, hJ _ _ _ ⟨k + 1, by simp [upd, t4], by simp [upd, t1], by simp [upd, t2], by simp [upd, t3], by simp [upd], by first | exact o0 | exact p0 _, rfl, by omega, by rw [hS]; simp only [*, Bool.and_false, Bool.false_and, Bool.false_or]; done⟩⟩
    | (refine ah_ ?_; rw [hS]; simp only [*, Bool.true_or, Bool.and_self]; done)
    | (refine ah_ ?_; rw [hS, pa_ _ _ _ (by omega)])
    | simp (disch := omega) only [t2, t3, k9, go_sem, reduceEqDiff, ↓reduceIte]
    | (refine aa_.call (co_ _ _ _ _ (as_ (ac_.sz_Subs (hmH _ (getElem_mem hlt)))) hs _) ?_)
    | (refine aa_.q (co_ _ _ _ _ (as_ (ac_.sz_Subs (hmH _ (getElem_mem hlt)))) hs _) ?_)
    | ((first | (apply bt_; assumption) | (apply bu_; assumption) | (apply bK_; assumption) | (apply bJ_; assumption)); intro hb; try simp only [hb])
    | ((first | (apply aX_; assumption) | (apply aY_; assumption) | (apply a6_; assumption) | (apply a5_; assumption)); intro hb; try simp only [hb])
    | ((first | apply aW_ | apply a3_ | apply aw_ | apply ay_) <;> intro hb <;> (try simp only [hb]) <;> (first | have hp := bl_ hb | have hp := bk_ hb | have hp := bj_ hb | have hp := bm_ hb | skip)))
  ·skip
   simp (disch := omega) only [t4, k9, o0, hlt, go_sem, reduceEqDiff, ↓reduceIte]
   repeat' (first
    | exact af_ _ _
    | (refine ah_ ?_; rw [hS]; simp only [*, Bool.and_true, Bool.true_and, Bool.and_false, Bool.false_and, Bool.or_true, Bool.true_or, Bool.or_false, Bool.false_or, Bool.not_true, Bool.not_false, decide_true, decide_false, Bool.and_self, Bool.or_self]; done)
    | (refine ah_ ?_; rw [hS, pa_ _ _ _ (by omega)])
    | simp (disch := omega) only [t4, t1, t2, t3, k9, o0, p0, go_sem, reduceEqDiff, Nat.reduceAdd, reduceLeDiff, reduceCtorEq, Int.reduceLT, Int.reduceLE, Int.reduceNeg, Int.reduceSub, Int.reduceAdd, Int.reduceToNat, ↓reduceIte]
    | (refine aa_.call (co_ _ _ _ _ (as_ (ac_.sz_Subs (hmH _ (getElem_mem hlt)))) hs _) ?_)
    | (refine aa_.q (co_ _ _ _ _ (as_ (ac_.sz_Subs (hmH _ (getElem_mem hlt)))) hs _) ?_)
    | ((first | (apply bt_; assumption) | (apply bu_; assumption) | (apply bK_; assumption) | (apply bJ_; assumption)); intro hb; try simp only [hb])
    | ((first | (apply aX_; assumption) | (apply aY_; assumption) | (apply a6_; assumption) | (apply a5_; assumption)); intro hb; try simp only [hb])
    | ((first | apply aW_ | apply a3_ | apply aw_ | apply ay_) <;> intro hb <;> (try simp only [hb]) <;> (first | have hp := bl_ hb | have hp := bk_ hb | have hp := bj_ hb | have hp := bm_ hb | skip)))
def eA_ (j : Int) (nm : ByteArray) (s : List ByteArray) (a : ac_) : Bool := !decide (a.Job = j) && way a.Name a.Subs nm s
def cW_ (j : Int) (nm : ByteArray) (s : List ByteArray) (hs : List ac_) : List Int := (hs.filter (eA_ j nm s)).map ac_.Job
def b0_ (x : ab_) (j : Int) (nm : ByteArray) (s : List ByteArray) (a : ae_) : Bool := !decide (a.Job = j) && way a.Name a.Subs nm s && !ed_ x j a.Name a.Subs
def hQ_ (x : ab_) (j : Int) (k : Nat) : Bool := decide (0 ≤ a2_ x j) && decide (a2_ x j < (k : Int))
def cp_ (x : ab_) (j : Int) (nm : ByteArray) (s : List ByteArray) : List ae_ → Nat → List Int
 | [], _ => []
 | a :: r, k => if b0_ x j nm s a && !hQ_ x j k then a.Job :: cp_ x j nm s r (k + 1) else cp_ x j nm s r (k + 1)
def f4_ (x : ab_) (j : Int) (nm : ByteArray) (s : List ByteArray) : List Int := cW_ j nm s x.Held ++ cp_ x j nm s x.Asks 0
def de_ (x : ab_) (j : Int) (nm : ByteArray) (s : List ByteArray) : List Int := (f4_ x j nm s).foldl cU_ []
theorem kl_ (j : Int) (nm : ByteArray) (s : List ByteArray) (hs : List ac_) (k : Nat) (h : k < hs.length) : cW_ j nm s (hs.drop k) = if eA_ j nm s hs[k] then hs[k].Job :: cW_ j nm s (hs.drop (k + 1)) else cW_ j nm s (hs.drop (k + 1)) := by
 rw [drop_eq_getElem_cons h]
 simp only [cW_, filter_cons]
 split <;> simp
theorem js_ (j : Int) (nm : ByteArray) (s : List ByteArray) (hs : List ac_) (k : Nat) (h : hs.length ≤ k) : cW_ j nm s (hs.drop k) = [] := by
 rw [drop_eq_nil_of_le h]; rfl
theorem p8_ (x : ab_) (j : Int) (nm : ByteArray) (s : List ByteArray) (ks : List ae_) (k : Nat) (h : k < ks.length) : cp_ x j nm s (ks.drop k) k = if b0_ x j nm s ks[k] && !hQ_ x j k then ks[k].Job :: cp_ x j nm s (ks.drop (k + 1)) (k + 1) else cp_ x j nm s (ks.drop (k + 1)) (k + 1) := by
 rw [drop_eq_getElem_cons h]; rfl
theorem oL_ (x : ab_) (j : Int) (nm : ByteArray) (s : List ByteArray) (ks : List ae_) (k : Nat) (h : ks.length ≤ k) : cp_ x j nm s (ks.drop k) k = [] := by
 rw [drop_eq_nil_of_le h]; rfl
abbrev boxL (x : ab_) : Row := ⟨32, 2, [[.list 0 4 (x.Held.map ac_.cells), .list 0 4 (x.Asks.map ae_.cells)]]⟩
def c74 : LC :=
 .q [.o [.bx 4 32 0, .nl 8], .o [.s 15 (.buildSlice 2 1 (.int .i64 0) 0 []), .m 9 15], .q [.o [.ki 10 0], .block 0 (.loop (.q [.q [.o [.m 16 10, .fa 17 0 4, .ln 18 17, .ll 19 18, .bb 20 .lss false 16 19], .k 20 .skip
 (.exit 0)], .block 1 (.q [.o [.fa 23 0 4, .ln 24 23, .m 25 10, .ia 26 4 24 25, .ld 27 4 26, .s 11 (.alloc 74 (.agg #[.int .i64 0, .int .i64 0, .string ⟨#[]⟩, .slice none 0 0])), .st 4 11 27], .o [.fa 28 0 11, .ln 29 28,
 .m 30 1, .bb 31 .neq false 29 30, .m 32 31, .gf 33 32 true 2 11, .gn 34 32 true 33, .gf 35 32 true 3 11, .gn 36 32 true 35, .gm 37 32 true 2, .gm 38 32 true 3, .g 39 32 true (.call 72 [.tmp 34, .tmp 36, .tmp 37, .tmp
 38]), .pf 40 32 39], .k 40 (.o [.m 41 9, .fa 42 0 11, .ln 43 42, .c2 44 43 41 43, .m 9 44]) .skip]), .o [.m 21 10, .bk 22 .add false 21 1, .m 10 22]]))], .o [.ld 45 2 4, .m 46 1, .c2 47 73 45 46, .m 12 47], .q [.o [.ki
 13 0], .block 2 (.loop (.q [.q [.o [.m 48 13, .fa 49 1 4, .ln 50 49, .ll 51 50, .bb 52 .lss false 48 51], .k 52 .skip (.exit 2)], .block 3 (.q [.o [.fa 55 1 4, .ln 56 55, .m 57 13, .ia 58 4 56 57, .ld 59 4 58, .s 14
 (.alloc 64 (.agg #[.int .i64 0, .int .i64 0, .string ⟨#[]⟩, .slice none 0 0])), .st 4 14 59], .q [.o [.fa 60 0 14, .ln 61 60, .m 62 1, .bb 63 .eql false 61 62, .m 64 63, .gm 65 64 false 12, .g 66 64 false (.bin .geq
 false (.tmp 65) (.const (.int .i64 0))), .gm 67 64 false 66, .gm 68 67 true 13, .gm 69 67 true 12, .g 70 67 true (.bin .gtr false (.tmp 68) (.tmp 69)), .g 71 64 false (.pick (.tmp 67) (.tmp 70) (.const (.bool false))),
 .pt 72 64 71, .m 73 72, .gf 74 73 false 2 14, .gn 75 73 false 74, .gf 76 73 false 3 14, .gn 77 73 false 76, .gm 78 73 false 2, .gm 79 73 false 3, .g 80 73 false (.call 72 [.tmp 75, .tmp 77, .tmp 78, .tmp 79]), .gu 81 73
 false 80, .pt 82 73 81, .m 83 82, .gl 84 83 false 2 4, .gm 85 83 false 1, .gf 86 83 false 2 14, .gn 87 83 false 86, .gf 88 83 false 3 14, .gn 89 83 false 88, .g 90 83 false (.call 112 [.tmp 84, .tmp 85, .tmp 87, .tmp
 89]), .pt 91 83 90], .k 91 (.exit 3) .skip], .o [.m 92 9, .fa 93 0 14, .ln 94 93, .c2 95 43 92 94, .m 9 95]]), .o [.m 53 13, .bk 54 .add false 53 1, .m 13 54]]))], .o [.m 96 9, .m 8 96], .ret]
def wj_ : LF := ⟨4, 97, c74, [.tmp 8]⟩
theorem x8_ : aA_ Tryz.prog Tryz.f74 wj_ := ak_
theorem iE_ (x : ab_) (j : Int) (nm : ByteArray) (s : List ByteArray) (hx : ab_.sz x ≤ 1048576) (hs : s.length ≤ 1048576) : br_ Tryz.prog 74 [.agg (ab_.cells x), .val (.int .i64 j), .val (.string nm), .list 0 1 (s.map ax_)] (.list 0 1 (av_ (de_ x j nm s))) (fun a => ∃ (k : Nat) (b : AV), (∃ l n, b = .own l n) ∧ a = b.shift k) := by
 refine mA_ mixed Tryz.func74 x8_ rfl rfl ?_
 have hlen := as_ (ab_.sz_Held hx)
 have hlenA := as_ (ab_.sz_Asks hx)
 have hmH : ∀ a ∈ x.Held, ac_.sz a ≤ 1048576 := fun a ha => bV_ (ab_.sz_Held hx) ha
 have hmA : ∀ a ∈ x.Asks, ae_.sz a ≤ 1048576 := fun a ha => bV_ (ab_.sz_Asks hx) ha
 have hput : ∀ (out : List Int) (E : Tag) (L : Nat) (H : List Row) (z : Int) (K : AV → List Row → Prop), H[L]? = some ⟨E, 1, av_ out⟩ → out.length ≤ 4000000 → (∀ hn L' E', (H ++ hn)[L']? = some ⟨E', 1, av_ (cU_ out z)⟩ → K (.own L' (cU_ out z).length) (H ++ hn)) → callSem Tryz.prog 43 [.own L out.length, .val (.int .i64 z)] H K := by
  intro out E L H z K hL ho hk
  refine qD_ (n := 2) (j7_ out z ho) (fd_ (ph_ hL (bz_ _) (hP_ _)) (e4_ rfl)) ?_
  rintro av hn hf ⟨l', k', rfl⟩
  obtain ⟨_, rfl, E', hl'⟩ := hf.ints
  exact hk hn l' E' hl'
 simp (disch := omega) only [wj_, c74, ab_.cells, go_sem, Nat.reduceAdd, ↓reduceIte]
 refine aE_ (fun m t h => ∃ (k : Nat) (out : List Int) (L : Nat) (E : Tag), t 4 = .ptr 0 1 0 0 ∧ t 1 = .val (.int .i64 j) ∧ t 2 = .val (.string nm) ∧ t 3 = .list 0 1 (s.map ax_) ∧ t 9 = .own L out.length ∧ t 10 = .val (.int .i64 k) ∧ h[0]? = some (boxL x) ∧ h[L]? = some ⟨E, 1, av_ out⟩ ∧ m = x.Held.length - k ∧ k ≤ x.Held.length ∧ out.length ≤ k ∧ de_ x j nm s = (cW_ j nm s (x.Held.drop k) ++ cp_ x j nm s x.Asks 0).foldl cU_ out) x.Held.length ⟨0, [], 1, 2, rfl, rfl, rfl, rfl, rfl, rfl, rfl, rfl, rfl, Nat.zero_le _, by simp, rfl⟩ ?_
 rintro J hJ m t h ⟨k, out, L, E, t4, t1, t2, t3, t9, t10, o0, oL, rfl, hk, ho, hS⟩
 have p0 : ∀ l, (h ++ l)[0]? = some (boxL x) := fun l => aQ_ o0
 have pL : ∀ l, (h ++ l)[L]? = some ⟨E, 1, av_ out⟩ := fun l => aQ_ oL
 by_cases hlt : k < x.Held.length
 ·rw [kl_ _ _ _ _ _ hlt] at hS
  have hck := hmH _ (getElem_mem hlt)
  have skip : eA_ j nm s x.Held[k] = false → ∀ t' l, t' 4 = .ptr 0 1 0 0 → t' 1 = .val (.int .i64 j) → t' 2 = .val (.string nm) → t' 3 = .list 0 1 (s.map ax_) → t' 9 = .own L out.length → t' 10 = .val (.int .i64 (k + 1 : Nat)) → ∃ m, m < x.Held.length - k ∧ J m t' (h ++ l) := by
   intro hq t' l e4 e1 e2 e3 e9 e10
   refine ⟨x.Held.length - (k + 1), by omega, hJ _ _ _ ⟨k + 1, out, L, E, e4, e1, e2, e3, e9, e10, p0 l, pL l, rfl, by omega, by omega, ?_⟩⟩
   rw [hS, hq]; rfl
  by_cases hj : x.Held[k].Job = j
  ·have hj' : (x.Held[k].Job = j) = True := eq_true hj
   simp (disch := omega) only [t4, t1, t10, hlt, o0, bY_, hj', go_sem, reduceEqDiff, Nat.reduceAdd, ↓reduceIte]
   exact skip (by simp [eA_, hj]) _ _ (by simp [upd, t4]) (by simp [upd, t1]) (by simp [upd, t2]) (by simp [upd, t3]) (by simp [upd, t9]) (by simp [upd])
  ·have hj' : (x.Held[k].Job = j) = False := eq_false hj
   simp (disch := omega) only [t4, t1, t2, t3, t10, hlt, o0, bY_, hj', go_sem, reduceEqDiff, Nat.reduceAdd, ↓reduceIte]
   refine aa_.call (co_ _ _ _ _ (as_ (ac_.sz_Subs hck)) hs _) ?_
   by_cases hw : way x.Held[k].Name x.Held[k].Subs nm s = true
   ·simp (disch := omega) only [t9, hw, go_sem, reduceEqDiff, ↓reduceIte]
    refine hput out E L _ x.Held[k].Job _ (pL _) (by omega) (fun hn L' E' hL' => ?_)
    simp (disch := omega) only [t10, go_sem, reduceEqDiff, ↓reduceIte]
    have hpl := kN_ out x.Held[k].Job
    refine ⟨x.Held.length - (k + 1), by omega, hJ _ _ _ ⟨k + 1, cU_ out x.Held[k].Job, L', E', by simp [upd, t4], by simp [upd, t1], by simp [upd, t2], by simp [upd, t3], by simp [upd], by simp [upd], p0 _, by simpa using hL', rfl, by omega, by omega, ?_⟩⟩
    rw [hS, show eA_ j nm s x.Held[k] = true by simp [eA_, hj, hw]]; rfl
   ·have hw' : way x.Held[k].Name x.Held[k].Subs nm s = false := by simpa using hw
    simp (disch := omega) only [t10, hw', go_sem, reduceEqDiff, ↓reduceIte]
    exact skip (by simp [eA_, hw']) _ _ (by simp [upd, t4]) (by simp [upd, t1]) (by simp [upd, t2]) (by simp [upd, t3]) (by simp [upd, t9]) (by simp [upd])
 ·rw [js_ _ _ _ _ _ (by omega), nil_append] at hS
  have hcall : ∀ (H : List Row), aa_ Tryz.prog 73 [.agg [.list 0 4 (x.Held.map ac_.cells), .list 0 4 (x.Asks.map ae_.cells)], .val (.int .i64 j)] H (.val (.int .i64 (a2_ x j))) := fun H => ig_ x j hlenA H
  have hup : ∀ (n' : ByteArray) (s' : List ByteArray) (H : List Row), s'.length ≤ 1048576 → aa_ Tryz.prog 112 [.agg [.list 0 4 (x.Held.map ac_.cells), .list 0 4 (x.Asks.map ae_.cells)], .val (.int .i64 j), .val (.string n'), .list 0 1 (s'.map ax_)] H (.val (.bool (ed_ x j n' s'))) := fun n' s' H hs' => j6_ x j n' s' hx hs' H
  simp (disch := omega) only [t4, t1, t10, hlt, o0, go_sem, reduceEqDiff, Nat.reduceAdd, ↓reduceIte]
  refine aa_.call (hcall _) ?_
  simp (disch := omega) only [go_sem, ↓reduceIte]
  refine aE_ (fun m t h => ∃ (k : Nat) (out : List Int) (L : Nat) (E : Tag), t 4 = .ptr 0 1 0 0 ∧ t 1 = .val (.int .i64 j) ∧ t 2 = .val (.string nm) ∧ t 3 = .list 0 1 (s.map ax_) ∧ t 12 = .val (.int .i64 (a2_ x j)) ∧ t 9 = .own L out.length ∧ t 13 = .val (.int .i64 k) ∧ h[0]? = some (boxL x) ∧ h[L]? = some ⟨E, 1, av_ out⟩ ∧ m = x.Asks.length - k ∧ k ≤ x.Asks.length ∧ out.length ≤ 1048576 + k ∧ de_ x j nm s = (cp_ x j nm s (x.Asks.drop k) k).foldl cU_ out) x.Asks.length ⟨0, out, L, E, by simp [upd, t4], by simp [upd, t1], by simp [upd, t2], by simp [upd, t3], by simp [upd], by simp [upd, t9], by simp [upd], o0, oL, rfl, Nat.zero_le _, by omega, hS⟩ ?_
  clear hS ho oL pL p0 o0 t4 t1 t2 t3 t9 t10 hlt
  rintro J2 hJ2 m t h ⟨k, out, L, E, t4, t1, t2, t3, t12, t9, t13, o0, oL, rfl, hk, ho, hS⟩
  have p0 : ∀ l, (h ++ l)[0]? = some (boxL x) := fun l => aQ_ o0
  have pL : ∀ l, (h ++ l)[L]? = some ⟨E, 1, av_ out⟩ := fun l => aQ_ oL
  by_cases hlt : k < x.Asks.length
  ·rw [p8_ _ _ _ _ _ _ hlt] at hS
   have hck := hmA _ (getElem_mem hlt)
   have hlate : hQ_ x j k = (decide (0 ≤ a2_ x j) && decide ((k : Int) > a2_ x j)) := rfl
   have skip : (b0_ x j nm s x.Asks[k] && !hQ_ x j k) = false → ∀ t' l, t' 4 = .ptr 0 1 0 0 → t' 1 = .val (.int .i64 j) → t' 2 = .val (.string nm) → t' 3 = .list 0 1 (s.map ax_) → t' 12 = .val (.int .i64 (a2_ x j)) → t' 9 = .own L out.length → t' 13 = .val (.int .i64 (k + 1 : Nat)) → ∃ m, m < x.Asks.length - k ∧ J2 m t' (h ++ l) := by
    intro hq t' l e4 e1 e2 e3 e12 e9 e13
    refine ⟨x.Asks.length - (k + 1), by omega, hJ2 _ _ _ ⟨k + 1, out, L, E, e4, e1, e2, e3, e12, e9, e13, p0 l, pL l, rfl, by omega, by omega, ?_⟩⟩
    rw [hS, hq]; rfl
   simp only [b0_] at skip hS
   simp (disch := omega) only [t4, t1, t13, hlt, o0, dG_, go_sem, reduceEqDiff, Nat.reduceAdd, ↓reduceIte]
   repeat' (first
    | exact af_ _ _
    | (refine skip ?_ _ _ (by simp [upd, t4]) (by simp [upd, t1]) (by simp [upd, t2]) (by simp [upd, t3]) (by simp [upd, t12]) (by simp [upd, t9]) (by simp [upd]); first | (simp only [*, Bool.and_true, Bool.true_and, Bool.and_false, Bool.false_and, Bool.not_true, Bool.not_false, decide_true, decide_false, Bool.and_self]; done) | (simp_all; done))
    | (
     refine hput out E L _ x.Asks[k].Job _ (pL _) (by omega) (fun hn L' E' hL' => ?_)
     simp (disch := omega) only [t13, go_sem, reduceEqDiff, ↓reduceIte]
     have hpl := kN_ out x.Asks[k].Job
     refine ⟨x.Asks.length - (k + 1), by omega, hJ2 _ _ _ ⟨k + 1, cU_ out x.Asks[k].Job, L', E', by simp [upd, t4], by simp [upd, t1], by simp [upd, t2], by simp [upd, t3], by simp [upd, t12], by simp [upd], by simp [upd], p0 _, by simpa using hL', rfl, by omega, by omega, ?_⟩⟩
     rw [hS]; first | (simp only [*, Bool.and_false, Bool.false_and, Bool.not_false, decide_true, decide_false, Bool.and_self, if_true, foldl_cons]; done) | (simp_all; done))
    | simp (disch := omega) only [t4, t1, t2, t3, t12, t9, t13, p0, go_sem, reduceEqDiff, Nat.reduceAdd, ↓reduceIte]
    | (refine aa_.call (co_ _ _ _ _ (as_ (ae_.sz_Subs hck)) hs _) ?_)
    | (refine aa_.q (co_ _ _ _ _ (as_ (ae_.sz_Subs hck)) hs _) ?_)
    | (refine aa_.call (hup _ _ _ (as_ (ae_.sz_Subs hck))) ?_)
    | (refine aa_.q (hup _ _ _ (as_ (ae_.sz_Subs hck))) ?_)
    | ((first | (apply bt_; assumption) | (apply bu_; assumption) | (apply bK_; assumption) | (apply bJ_; assumption)); intro hb; try simp only [hb])
    | ((first | (apply aX_; assumption) | (apply aY_; assumption) | (apply a6_; assumption) | (apply a5_; assumption)); intro hb; try simp only [hb])
    | ((first | apply aW_ | apply a3_ | apply aw_ | apply ay_) <;> intro hb <;> (try simp only [hb]) <;> (first | have hp := bl_ hb | have hp := bk_ hb | have hp := bj_ hb | have hp := bm_ hb | skip)))
  ·rw [oL_ _ _ _ _ _ _ (by omega)] at hS
   simp (disch := omega) only [t4, t9, t13, hlt, o0, go_sem, reduceEqDiff, ↓reduceIte]
   rw [hS]
   exact ⟨qC_ oL, _, _, rfl⟩
end Go.Proofs.YtodgohgdnmifaaaGreatDoor
