/-
 Contracts of functions. Conditions: as each theorem says.
-/
import Derived.Test.YtodgohgdnmifaaaGreatDoorFnW
import Derived.Test.YtodgohgdnmifaaaGreatDoorPlJobs
import Derived.Test.YtodgohgdnmifaaaGreatDoorAwC
namespace Go.Proofs.YtodgohgdnmifaaaGreatDoor
open Nat (reduceEqDiff reduceLeDiff)
open List
open Go.AW
set_option linter.unusedVariables false
set_option linter.unusedSimpArgs false
set_option maxRecDepth 4000
theorem hf_ : ∀ (zs : List Int) (n : Int), (bI_ zs n).length ≤ zs.length + 1
 | [], n => by simp [bI_]
 | z :: r, n => by
  have := hf_ r n
  simp only [bI_]
  split
  ·split <;> simp
  ·simp; omega
theorem sw_ (zs : List Int) (k : Nat) (h : k < zs.length) (n : Int) : bI_ (zs.drop k) n = if n ≤ zs[k] then (if n < zs[k] then n :: zs.drop k else zs.drop k) else zs[k] :: bI_ (zs.drop (k + 1)) n := by
 conv => lhs; rw [drop_eq_getElem_cons h]
 rw [bI_, ← drop_eq_getElem_cons h]
def c43 : LC :=
 .q [.o [.nl 4], .o [.s 8 (.buildSlice 2 1 (.int .i64 0) 0 []), .m 5 8], .o [.f 6], .q [.o [.ki 7 0], .block 0 (.loop (.q [.q [.o [.m 9 7, .m 10 0, .ll 11 10, .bb 12 .lss false 9 11], .k 12 .skip (.exit 0)], .block 1 (.q
 [.q [.o [.m 15 6, .nt 16 15, .m 17 16, .gm 18 17 true 0, .gm 19 17 true 7, .g 20 17 true (.indexAddr 1 (.tmp 18) (.tmp 19)), .gn 21 17 true 20, .gm 22 17 true 1, .g 23 17 true (.bin .geq false (.tmp 21) (.tmp 22)), .pf
 24 17 23], .k 24 (.q [.o [.t 6], .o [.m 25 0, .m 26 7, .ia 27 1 25 26, .ln 28 27, .m 29 1, .bb 30 .gtr false 28 29], .k 30 (.o [.m 31 5, .m 32 1, .s 33 (.buildSlice 2 1 (.int .i64 0) 1 [(0, .tmp 32)]), .ap 34 2 1 8 31
 33, .m 5 34]) .skip]) .skip], .o [.m 35 5, .m 36 0, .m 37 7, .ia 38 1 36 37, .ln 39 38, .s 40 (.buildSlice 2 1 (.int .i64 0) 1 [(0, .tmp 39)]), .ap 41 2 1 8 35 40, .m 5 41]]), .o [.m 13 7, .bk 14 .add false 13 1, .m 7
 14]]))], .q [.o [.m 42 6, .nt 43 42], .k 43 (.o [.m 44 5, .m 45 1, .s 46 (.buildSlice 2 1 (.int .i64 0) 1 [(0, .tmp 45)]), .ap 47 2 1 8 44 46, .m 5 47]) .skip], .o [.m 48 5, .m 4 48], .ret]
def sZ_ : LF := ⟨2, 49, c43, [.tmp 4]⟩
theorem vz_ : av_ Tryz.prog Tryz.f43 sZ_ := aq_
theorem fA_ (zs : List Int) (n : Int) (hz : zs.length ≤ 4000000) : bb_ Tryz.prog 43 [.list 0 1 (ak_ zs), .val (.int .i64 n)] (.list 0 1 (ak_ (bI_ zs n))) (fun a => ∃ l k, a = .own l k) := by
 refine er_ mixed Tryz.func43 vz_ rfl (fun h => ?_)
 simp (disch := omega) only [sZ_, c43, go_sem, ↓reduceIte]
 refine ay_ (fun m t h' => ∃ (k : Nat) (out : List Int) (d : Bool) (rest : List Row), t 0 = .list 0 1 (ak_ zs) ∧ t 1 = .val (.int .i64 n) ∧ t 5 = .own h.length out.length ∧ t 6 = .val (.bool d) ∧ t 7 = .val (.int .i64 k) ∧ h' = h ++ (⟨2, 1, ak_ out⟩ :: rest) ∧ m = zs.length - k ∧ k ≤ zs.length ∧ out.length ≤ k + d.toNat ∧ bI_ zs n = (if d then out ++ zs.drop k else out ++ bI_ (zs.drop k) n)) zs.length ⟨0, [], false, [], rfl, rfl, rfl, rfl, rfl, rfl, rfl, Nat.zero_le _, by simp, by simp⟩ ?_
 rintro J hJ m t h' ⟨k, out, d, rest, t0, t1, t5, t6, t7, rfl, rfl, hk, ho, hS⟩
 have hnx : ∀ (t' : Nat → AV) (out' : List Int) (d' : Bool) (rest' : List Row), t' 0 = .list 0 1 (ak_ zs) → t' 1 = .val (.int .i64 n) → t' 5 = .own h.length out'.length → t' 6 = .val (.bool d') → t' 7 = .val (.int .i64 (k + 1 : Nat)) → k < zs.length → out'.length ≤ k + 1 + d'.toNat → bI_ zs n = (if d' then out' ++ zs.drop (k + 1) else out' ++ bI_ (zs.drop (k + 1)) n) → ∃ m, m < zs.length - k ∧ J m t' (h ++ (⟨2, 1, ak_ out'⟩ :: rest')) :=
  fun t' out' d' rest' e0 e1 e5 e6 e7 hlt e8 e9 => ⟨zs.length - (k + 1), by omega, hJ _ _ _ ⟨k + 1, out', d', rest', e0, e1, e5, e6, e7, rfl, rfl, by omega, by omega, e9⟩⟩
 by_cases hlt : k < zs.length
 ·have hg := b1_ zs k hlt
  cases d
  ·simp only [Bool.false_eq_true, if_false] at hS
   simp only [Bool.toNat_false, Nat.add_zero] at ho
   rw [sw_ zs k hlt] at hS
   by_cases h1 : n ≤ zs[k]
   ·rw [if_pos h1] at hS
    by_cases h2 : n < zs[k]
    ·rw [if_pos h2] at hS
     simp (disch := omega) only [t0, t1, t5, t6, t7, hlt, hg, h1, h2, go_sem, reduceEqDiff, reduceLeDiff, reduceCtorEq, ↓reduceIte]
     refine ⟨by omega, by omega, ?_⟩
     try simp (disch := omega) only [t0, t1, t5, t6, t7, hlt, hg, go_sem, reduceEqDiff, Nat.reduceAdd, reduceLeDiff, reduceCtorEq, Int.reduceLT, Int.reduceLE, Int.reduceNeg, Int.reduceSub, Int.reduceAdd, Int.reduceToNat, ↓reduceIte]
     refine ⟨by first | omega | (simp; omega), by first | omega | (simp; omega), ?_⟩
     refine hnx _ (out ++ [n, zs[k]]) true _ (by simp [upd, t0]) (by simp [upd, t1]) (by simp [upd]) (by simp [upd]) (by simp [upd]) hlt (by simp; omega) ?_
     rw [hS, drop_eq_getElem_cons hlt]; simp
    ·rw [if_neg h2] at hS
     simp (disch := omega) only [t0, t1, t5, t6, t7, hlt, hg, h1, h2, go_sem, reduceEqDiff, reduceLeDiff, reduceCtorEq, ↓reduceIte]
     refine ⟨by omega, by omega, ?_⟩
     refine hnx _ (out ++ [zs[k]]) true _ (by simp [upd, t0]) (by simp [upd, t1]) (by simp [upd]) (by simp [upd]) (by simp [upd]) hlt (by simp; omega) ?_
     rw [hS, drop_eq_getElem_cons hlt]; simp
   ·rw [if_neg h1] at hS
    simp (disch := omega) only [t0, t1, t5, t6, t7, hlt, hg, h1, go_sem, reduceEqDiff, reduceLeDiff, reduceCtorEq, ↓reduceIte]
    refine ⟨by omega, by omega, ?_⟩
    refine hnx _ (out ++ [zs[k]]) false _ (by simp [upd, t0]) (by simp [upd, t1]) (by simp [upd]) (by simp [upd, t6]) (by simp [upd]) hlt (by simp; omega) ?_
    rw [hS]; simp
  ·simp only [if_true] at hS
   simp only [Bool.toNat_true] at ho
   simp (disch := omega) only [t0, t5, t6, t7, hlt, hg, go_sem, reduceEqDiff, reduceLeDiff, reduceCtorEq, ↓reduceIte]
   refine ⟨by omega, by omega, ?_⟩
   refine hnx _ (out ++ [zs[k]]) true _ (by simp [upd, t0]) (by simp [upd, t1]) (by simp [upd]) (by simp [upd, t6]) (by simp [upd]) hlt (by simp; omega) ?_
   rw [hS, drop_eq_getElem_cons hlt]; simp
 ·have hd : zs.drop k = [] := drop_eq_nil_of_le (by omega)
  rw [hd] at hS
  cases d
  ·simp only [Bool.false_eq_true, if_false, bI_] at hS
   simp only [Bool.toNat_false, Nat.add_zero] at ho
   simp (disch := omega) only [t0, t1, t5, t6, t7, hlt, go_sem, reduceEqDiff, reduceLeDiff, reduceCtorEq, ↓reduceIte]
   refine ⟨by omega, by omega, ?_⟩
   rw [hS]
   refine ⟨_, rfl, ?_, _, _, rfl⟩
   have := bO_.ofInts (base := h.length) (l := h.length) (H := h ++ (⟨2, 1, ak_ (out ++ [n])⟩ :: (rest ++ [⟨2, 1, [[.val (.int .i64 n)]]⟩]))) (E := 2) (zs := out ++ [n]) (by rw [cW_]; rfl) (Nat.le_refl _)
   simpa using this
  ·simp only [if_true, append_nil] at hS
   simp (disch := omega) only [t0, t5, t6, t7, hlt, go_sem, reduceEqDiff, reduceCtorEq, ↓reduceIte]
   rw [hS]
   exact ⟨_, rfl, bO_.ofInts (E := 2) (by rw [cW_]; rfl) (Nat.le_refl _), _, _, rfl⟩
def jd_ (j : Int) (nm : ByteArray) (s : List ByteArray) (a : ab_) : Bool := decide (a.Job = j) && way a.Name a.Subs nm s
def dH_ (x : ac_) (j : Int) (nm : ByteArray) (s : List ByteArray) : Bool := x.Held.any (jd_ j nm s)
theorem uY_ {α : Type} (p : α → Bool) (xs : List α) (k : Nat) (h : k < xs.length) : (xs.drop k).any p = (p xs[k] || (xs.drop (k + 1)).any p) := by
 rw [drop_eq_getElem_cons h]; rfl
theorem nl_ {α : Type} (p : α → Bool) (xs : List α) (k : Nat) (h : xs.length ≤ k) : (xs.drop k).any p = false := by
 rw [drop_eq_nil_of_le h]; rfl
def u1_ : LC :=
 .q [.o [.bx 4 32 0, .f 8], .q [.o [.ki 9 0], .block 0 (.loop (.q [.q [.o [.m 11 9, .fa 12 0 4, .ln 13 12, .ll 14 13, .bb 15 .lss false 11 14], .k 15 .skip (.exit 0)], .block 1 (.q [.o [.fa 18 0 4, .ln 19 18, .m 20 9, .ia
 21 4 19 20, .ld 22 4 21, .s 10 (.alloc 74 (.agg #[.int .i64 0, .int .i64 0, .string ⟨#[]⟩, .slice none 0 0])), .st 4 10 22], .o [.fa 23 0 10, .ln 24 23, .m 25 1, .bb 26 .eql false 24 25, .m 27 26, .gf 28 27 true 2 10,
 .gn 29 27 true 28, .gf 30 27 true 3 10, .gn 31 27 true 30, .gm 32 27 true 2, .gm 33 27 true 3, .g 34 27 true (.call 72 [.tmp 29, .tmp 31, .tmp 32, .tmp 33]), .pf 35 27 34], .k 35 (.q [.o [.t 8], .ret]) .skip]), .o [.m 16
 9, .bk 17 .add false 16 1, .m 9 17]]))], .o [.f 8], .ret]
def q1_ : LF := ⟨4, 36, u1_, [.tmp 8]⟩
theorem ug_ : av_ Tryz.prog Tryz.f112 q1_ := aq_
theorem iL_ (x : ac_) (j : Int) (nm : ByteArray) (s : List ByteArray) (hx : ac_.sz x ≤ 1048576) (hs : s.length ≤ 1048576) (h : List Row) : aa_ Tryz.prog 112 [.agg (ac_.cells x), .val (.int .i64 j), .val (.string nm), .list 0 1 (s.map az_)] h (.val (.bool (dH_ x j nm s))) := by
 refine am_ mixed Tryz.func112 ug_ rfl rfl ?_ h
 have hlen := ar_ (ac_.sz_Held hx)
 have hmH : ∀ a ∈ x.Held, ab_.sz a ≤ 1048576 := fun a ha => b4_ (ac_.sz_Held hx) ha
 simp (disch := omega) only [q1_, u1_, ac_.cells, go_sem, Nat.reduceAdd, ↓reduceIte]
 refine ay_ (fun n t h => ∃ k : Nat, t 4 = .ptr 0 1 0 0 ∧ t 1 = .val (.int .i64 j) ∧ t 2 = .val (.string nm) ∧ t 3 = .list 0 1 (s.map az_) ∧ t 9 = .val (.int .i64 k) ∧ h[0]? = some ⟨32, 2, [[.list 0 4 (x.Held.map ab_.cells), .list 0 4 (x.Asks.map af_.cells)]]⟩ ∧ n = x.Held.length - k ∧ k ≤ x.Held.length ∧ (dH_ x j nm s = (x.Held.drop k).any (jd_ j nm s))) (x.Held.length) ?_ ?_
 ·exact ⟨0, rfl, rfl, rfl, rfl, rfl, rfl, rfl, Nat.zero_le _, rfl⟩
 ·rintro J hJ n t h ⟨k, t4, t1, t2, t3, k9, o0, rfl, hk, hS⟩
  have p0 : ∀ l, (h ++ l)[0]? = some ⟨32, 2, [[.list 0 4 (x.Held.map ab_.cells), .list 0 4 (x.Asks.map af_.cells)]]⟩ := fun l => bt_ o0
  by_cases hlt : k < x.Held.length
  ·skip
   rw [uY_ _ x.Held k hlt] at hS
   simp only [jd_] at hS
   simp (disch := omega) only [t4, t1, k9, o0, hlt, cV_, go_sem, reduceEqDiff, Nat.reduceAdd, ↓reduceIte]
   repeat' (first
    | exact ad_ _ _
    | exact ⟨x.Held.length - (k + 1), by omega, hJ _ _ _ ⟨k + 1, by simp [upd, t4], by simp [upd, t1], by simp [upd, t2], by simp [upd, t3], by simp [upd], by first | exact o0 | exact p0 _, rfl, by omega, by rw [hS]; simp only [*, Bool.and_false, Bool.false_and, Bool.false_or]; done⟩⟩
    | (refine ae_ ?_; rw [hS]; simp only [*, Bool.true_or, Bool.and_self]; done)
    | (refine ae_ ?_; rw [hS, nl_ _ _ _ (by omega)])
    | simp (disch := omega) only [t2, t3, k9, go_sem, reduceEqDiff, ↓reduceIte]
    | (refine aa_.call (bV_ _ _ _ _ (ar_ (ab_.sz_Subs (hmH _ (getElem_mem hlt)))) hs _) ?_)
    | (refine aa_.q (bV_ _ _ _ _ (ar_ (ab_.sz_Subs (hmH _ (getElem_mem hlt)))) hs _) ?_)
    | ((first | (apply bd_; assumption) | (apply be_; assumption) | (apply bo_; assumption) | (apply bp_; assumption)); intro hb; try simp only [hb])
    | ((first | (apply aD_; assumption) | (apply aE_; assumption) | (apply aL_; assumption) | (apply aJ_; assumption)); intro hb; try simp only [hb])
    | ((first | apply aF_ | apply aM_ | apply an_ | apply ao_) <;> intro hb <;> (try simp only [hb]) <;> (first | have hp := a4_ hb | have hp := a3_ hb | have hp := a1_ hb | have hp := aZ_ hb | skip)))
  ·skip
   simp (disch := omega) only [t4, k9, o0, hlt, go_sem, reduceEqDiff, ↓reduceIte]
   repeat' (first
    | exact ad_ _ _
    | (refine ae_ ?_; rw [hS]; simp only [*, Bool.and_true, Bool.true_and, Bool.and_false, Bool.false_and, Bool.or_true, Bool.true_or, Bool.or_false, Bool.false_or, Bool.not_true, Bool.not_false, decide_true, decide_false, Bool.and_self, Bool.or_self]; done)
    | (refine ae_ ?_; rw [hS, nl_ _ _ _ (by omega)])
    | simp (disch := omega) only [t4, t1, t2, t3, k9, o0, p0, go_sem, reduceEqDiff, Nat.reduceAdd, reduceLeDiff, reduceCtorEq, Int.reduceLT, Int.reduceLE, Int.reduceNeg, Int.reduceSub, Int.reduceAdd, Int.reduceToNat, ↓reduceIte]
    | (refine aa_.call (bV_ _ _ _ _ (ar_ (ab_.sz_Subs (hmH _ (getElem_mem hlt)))) hs _) ?_)
    | (refine aa_.q (bV_ _ _ _ _ (ar_ (ab_.sz_Subs (hmH _ (getElem_mem hlt)))) hs _) ?_)
    | ((first | (apply bd_; assumption) | (apply be_; assumption) | (apply bo_; assumption) | (apply bp_; assumption)); intro hb; try simp only [hb])
    | ((first | (apply aD_; assumption) | (apply aE_; assumption) | (apply aL_; assumption) | (apply aJ_; assumption)); intro hb; try simp only [hb])
    | ((first | apply aF_ | apply aM_ | apply an_ | apply ao_) <;> intro hb <;> (try simp only [hb]) <;> (first | have hp := a4_ hb | have hp := a3_ hb | have hp := a1_ hb | have hp := aZ_ hb | skip)))
def d6_ (j : Int) (nm : ByteArray) (s : List ByteArray) (a : ab_) : Bool := !decide (a.Job = j) && way a.Name a.Subs nm s
def b0_ (j : Int) (nm : ByteArray) (s : List ByteArray) (hs : List ab_) : List Int := (hs.filter (d6_ j nm s)).map ab_.Job
def bE_ (x : ac_) (j : Int) (nm : ByteArray) (s : List ByteArray) (a : af_) : Bool := !decide (a.Job = j) && way a.Name a.Subs nm s && !dH_ x j a.Name a.Subs
def gH_ (x : ac_) (j : Int) (k : Nat) : Bool := decide (0 ≤ aC_ x j) && decide (aC_ x j < (k : Int))
def bK_ (x : ac_) (j : Int) (nm : ByteArray) (s : List ByteArray) : List af_ → Nat → List Int
 | [], _ => []
 | a :: r, k => if bE_ x j nm s a && !gH_ x j k then a.Job :: bK_ x j nm s r (k + 1) else bK_ x j nm s r (k + 1)
def fg_ (x : ac_) (j : Int) (nm : ByteArray) (s : List ByteArray) : List Int := b0_ j nm s x.Held ++ bK_ x j nm s x.Asks 0
def hk_ (x : ac_) (j : Int) (nm : ByteArray) (s : List ByteArray) : List Int := (fg_ x j nm s).foldl bI_ []
theorem iS_ (j : Int) (nm : ByteArray) (s : List ByteArray) (hs : List ab_) (k : Nat) (h : k < hs.length) : b0_ j nm s (hs.drop k) = if d6_ j nm s hs[k] then hs[k].Job :: b0_ j nm s (hs.drop (k + 1)) else b0_ j nm s (hs.drop (k + 1)) := by
 rw [drop_eq_getElem_cons h]
 simp only [b0_, filter_cons]
 split <;> simp
theorem ie_ (j : Int) (nm : ByteArray) (s : List ByteArray) (hs : List ab_) (k : Nat) (h : hs.length ≤ k) : b0_ j nm s (hs.drop k) = [] := by
 rw [drop_eq_nil_of_le h]; rfl
theorem nC_ (x : ac_) (j : Int) (nm : ByteArray) (s : List ByteArray) (ks : List af_) (k : Nat) (h : k < ks.length) : bK_ x j nm s (ks.drop k) k = if bE_ x j nm s ks[k] && !gH_ x j k then ks[k].Job :: bK_ x j nm s (ks.drop (k + 1)) (k + 1) else bK_ x j nm s (ks.drop (k + 1)) (k + 1) := by
 rw [drop_eq_getElem_cons h]; rfl
theorem mP_ (x : ac_) (j : Int) (nm : ByteArray) (s : List ByteArray) (ks : List af_) (k : Nat) (h : ks.length ≤ k) : bK_ x j nm s (ks.drop k) k = [] := by
 rw [drop_eq_nil_of_le h]; rfl
abbrev gG_ (x : ac_) : Row := ⟨32, 2, [[.list 0 4 (x.Held.map ab_.cells), .list 0 4 (x.Asks.map af_.cells)]]⟩
def c74 : LC :=
 .q [.o [.bx 4 32 0, .nl 8], .o [.s 15 (.buildSlice 2 1 (.int .i64 0) 0 []), .m 9 15], .q [.o [.ki 10 0], .block 0 (.loop (.q [.q [.o [.m 16 10, .fa 17 0 4, .ln 18 17, .ll 19 18, .bb 20 .lss false 16 19], .k 20 .skip
 (.exit 0)], .block 1 (.q [.o [.fa 23 0 4, .ln 24 23, .m 25 10, .ia 26 4 24 25, .ld 27 4 26, .s 11 (.alloc 74 (.agg #[.int .i64 0, .int .i64 0, .string ⟨#[]⟩, .slice none 0 0])), .st 4 11 27], .o [.fa 28 0 11, .ln 29 28,
 .m 30 1, .bb 31 .neq false 29 30, .m 32 31, .gf 33 32 true 2 11, .gn 34 32 true 33, .gf 35 32 true 3 11, .gn 36 32 true 35, .gm 37 32 true 2, .gm 38 32 true 3, .g 39 32 true (.call 72 [.tmp 34, .tmp 36, .tmp 37, .tmp
 38]), .pf 40 32 39], .k 40 (.o [.m 41 9, .fa 42 0 11, .ln 43 42, .c2 44 43 41 43, .m 9 44]) .skip]), .o [.m 21 10, .bk 22 .add false 21 1, .m 10 22]]))], .o [.ld 45 2 4, .m 46 1, .c2 47 73 45 46, .m 12 47], .q [.o [.ki
 13 0], .block 2 (.loop (.q [.q [.o [.m 48 13, .fa 49 1 4, .ln 50 49, .ll 51 50, .bb 52 .lss false 48 51], .k 52 .skip (.exit 2)], .block 3 (.q [.o [.fa 55 1 4, .ln 56 55, .m 57 13, .ia 58 4 56 57, .ld 59 4 58, .s 14
 (.alloc 64 (.agg #[.int .i64 0, .int .i64 0, .string ⟨#[]⟩, .slice none 0 0])), .st 4 14 59], .q [.o [.fa 60 0 14, .ln 61 60, .m 62 1, .bb 63 .eql false 61 62, .m 64 63, .gm 65 64 false 12, .g 66 64 false (.bin .geq
 false (.tmp 65) (.const (.int .i64 0))), .gm 67 64 false 66, .gm 68 67 true 13, .gm 69 67 true 12, .g 70 67 true (.bin .gtr false (.tmp 68) (.tmp 69)), .g 71 64 false (.pick (.tmp 67) (.tmp 70) (.const (.bool false))),
 .pt 72 64 71, .m 73 72, .gf 74 73 false 2 14, .gn 75 73 false 74, .gf 76 73 false 3 14, .gn 77 73 false 76, .gm 78 73 false 2, .gm 79 73 false 3, .g 80 73 false (.call 72 [.tmp 75, .tmp 77, .tmp 78, .tmp 79]), .gu 81 73
 false 80, .pt 82 73 81, .m 83 82, .gl 84 83 false 2 4, .gm 85 83 false 1, .gf 86 83 false 2 14, .gn 87 83 false 86, .gf 88 83 false 3 14, .gn 89 83 false 88, .g 90 83 false (.call 112 [.tmp 84, .tmp 85, .tmp 87, .tmp
 89]), .pt 91 83 90], .k 91 (.exit 3) .skip], .o [.m 92 9, .fa 93 0 14, .ln 94 93, .c2 95 43 92 94, .m 9 95]]), .o [.m 53 13, .bk 54 .add false 53 1, .m 13 54]]))], .o [.m 96 9, .m 8 96], .ret]
def tA_ : LF := ⟨4, 97, c74, [.tmp 8]⟩
theorem va_ : av_ Tryz.prog Tryz.f74 tA_ := aq_
theorem hP_ (x : ac_) (j : Int) (nm : ByteArray) (s : List ByteArray) (hx : ac_.sz x ≤ 1048576) (hs : s.length ≤ 1048576) : bb_ Tryz.prog 74 [.agg (ac_.cells x), .val (.int .i64 j), .val (.string nm), .list 0 1 (s.map az_)] (.list 0 1 (ak_ (hk_ x j nm s))) (fun a => ∃ (k : Nat) (b : AV), (∃ l n, b = .own l n) ∧ a = b.shift k) := by
 refine kI_ mixed Tryz.func74 va_ rfl rfl ?_
 have hlen := ar_ (ac_.sz_Held hx)
 have hlenA := ar_ (ac_.sz_Asks hx)
 have hmH : ∀ a ∈ x.Held, ab_.sz a ≤ 1048576 := fun a ha => b4_ (ac_.sz_Held hx) ha
 have hmA : ∀ a ∈ x.Asks, af_.sz a ≤ 1048576 := fun a ha => b4_ (ac_.sz_Asks hx) ha
 have hput : ∀ (out : List Int) (E : Tag) (L : Nat) (H : List Row) (z : Int) (K : AV → List Row → Prop), H[L]? = some ⟨E, 1, ak_ out⟩ → out.length ≤ 4000000 → (∀ hn L' E', (H ++ hn)[L']? = some ⟨E', 1, ak_ (bI_ out z)⟩ → K (.own L' (bI_ out z).length) (H ++ hn)) → callSem Tryz.prog 43 [.own L out.length, .val (.int .i64 z)] H K := by
  intro out E L H z K hL ho hk
  refine io_ (n := 2) (fA_ out z ho) (cS_ (g2_ hL (aG_ _) (c0_ _)) (cr_ rfl)) ?_
  rintro av hn hf ⟨l', k', rfl⟩
  obtain ⟨_, rfl, E', hl'⟩ := hf.ints
  exact hk hn l' E' hl'
 simp (disch := omega) only [tA_, c74, ac_.cells, go_sem, Nat.reduceAdd, ↓reduceIte]
 refine ay_ (fun m t h => ∃ (k : Nat) (out : List Int) (L : Nat) (E : Tag), t 4 = .ptr 0 1 0 0 ∧ t 1 = .val (.int .i64 j) ∧ t 2 = .val (.string nm) ∧ t 3 = .list 0 1 (s.map az_) ∧ t 9 = .own L out.length ∧ t 10 = .val (.int .i64 k) ∧ h[0]? = some (gG_ x) ∧ h[L]? = some ⟨E, 1, ak_ out⟩ ∧ m = x.Held.length - k ∧ k ≤ x.Held.length ∧ out.length ≤ k ∧ hk_ x j nm s = (b0_ j nm s (x.Held.drop k) ++ bK_ x j nm s x.Asks 0).foldl bI_ out) x.Held.length ⟨0, [], 1, 2, rfl, rfl, rfl, rfl, rfl, rfl, rfl, rfl, rfl, Nat.zero_le _, by simp, rfl⟩ ?_
 rintro J hJ m t h ⟨k, out, L, E, t4, t1, t2, t3, t9, t10, o0, oL, rfl, hk, ho, hS⟩
 have p0 : ∀ l, (h ++ l)[0]? = some (gG_ x) := fun l => bt_ o0
 have pL : ∀ l, (h ++ l)[L]? = some ⟨E, 1, ak_ out⟩ := fun l => bt_ oL
 by_cases hlt : k < x.Held.length
 ·rw [iS_ _ _ _ _ _ hlt] at hS
  have hck := hmH _ (getElem_mem hlt)
  have skip : d6_ j nm s x.Held[k] = false → ∀ t' l, t' 4 = .ptr 0 1 0 0 → t' 1 = .val (.int .i64 j) → t' 2 = .val (.string nm) → t' 3 = .list 0 1 (s.map az_) → t' 9 = .own L out.length → t' 10 = .val (.int .i64 (k + 1 : Nat)) → ∃ m, m < x.Held.length - k ∧ J m t' (h ++ l) := by
   intro hq t' l e4 e1 e2 e3 e9 e10
   refine ⟨x.Held.length - (k + 1), by omega, hJ _ _ _ ⟨k + 1, out, L, E, e4, e1, e2, e3, e9, e10, p0 l, pL l, rfl, by omega, by omega, ?_⟩⟩
   rw [hS, hq]; rfl
  by_cases hj : x.Held[k].Job = j
  ·have hj' : (x.Held[k].Job = j) = True := eq_true hj
   simp (disch := omega) only [t4, t1, t10, hlt, o0, cV_, hj', go_sem, reduceEqDiff, Nat.reduceAdd, ↓reduceIte]
   exact skip (by simp [d6_, hj]) _ _ (by simp [upd, t4]) (by simp [upd, t1]) (by simp [upd, t2]) (by simp [upd, t3]) (by simp [upd, t9]) (by simp [upd])
  ·have hj' : (x.Held[k].Job = j) = False := eq_false hj
   simp (disch := omega) only [t4, t1, t2, t3, t10, hlt, o0, cV_, hj', go_sem, reduceEqDiff, Nat.reduceAdd, ↓reduceIte]
   refine aa_.call (bV_ _ _ _ _ (ar_ (ab_.sz_Subs hck)) hs _) ?_
   by_cases hw : way x.Held[k].Name x.Held[k].Subs nm s = true
   ·simp (disch := omega) only [t9, hw, go_sem, reduceEqDiff, ↓reduceIte]
    refine hput out E L _ x.Held[k].Job _ (pL _) (by omega) (fun hn L' E' hL' => ?_)
    simp (disch := omega) only [t10, go_sem, reduceEqDiff, ↓reduceIte]
    have hpl := hf_ out x.Held[k].Job
    refine ⟨x.Held.length - (k + 1), by omega, hJ _ _ _ ⟨k + 1, bI_ out x.Held[k].Job, L', E', by simp [upd, t4], by simp [upd, t1], by simp [upd, t2], by simp [upd, t3], by simp [upd], by simp [upd], p0 _, by simpa using hL', rfl, by omega, by omega, ?_⟩⟩
    rw [hS, show d6_ j nm s x.Held[k] = true by simp [d6_, hj, hw]]; rfl
   ·have hw' : way x.Held[k].Name x.Held[k].Subs nm s = false := by simpa using hw
    simp (disch := omega) only [t10, hw', go_sem, reduceEqDiff, ↓reduceIte]
    exact skip (by simp [d6_, hw']) _ _ (by simp [upd, t4]) (by simp [upd, t1]) (by simp [upd, t2]) (by simp [upd, t3]) (by simp [upd, t9]) (by simp [upd])
 ·rw [ie_ _ _ _ _ _ (by omega), nil_append] at hS
  have hcall : ∀ (H : List Row), aa_ Tryz.prog 73 [.agg [.list 0 4 (x.Held.map ab_.cells), .list 0 4 (x.Asks.map af_.cells)], .val (.int .i64 j)] H (.val (.int .i64 (aC_ x j))) := fun H => e2_ x j hlenA H
  have hup : ∀ (n' : ByteArray) (s' : List ByteArray) (H : List Row), s'.length ≤ 1048576 → aa_ Tryz.prog 112 [.agg [.list 0 4 (x.Held.map ab_.cells), .list 0 4 (x.Asks.map af_.cells)], .val (.int .i64 j), .val (.string n'), .list 0 1 (s'.map az_)] H (.val (.bool (dH_ x j n' s'))) := fun n' s' H hs' => iL_ x j n' s' hx hs' H
  simp (disch := omega) only [t4, t1, t10, hlt, o0, go_sem, reduceEqDiff, Nat.reduceAdd, ↓reduceIte]
  refine aa_.call (hcall _) ?_
  simp (disch := omega) only [go_sem, ↓reduceIte]
  refine ay_ (fun m t h => ∃ (k : Nat) (out : List Int) (L : Nat) (E : Tag), t 4 = .ptr 0 1 0 0 ∧ t 1 = .val (.int .i64 j) ∧ t 2 = .val (.string nm) ∧ t 3 = .list 0 1 (s.map az_) ∧ t 12 = .val (.int .i64 (aC_ x j)) ∧ t 9 = .own L out.length ∧ t 13 = .val (.int .i64 k) ∧ h[0]? = some (gG_ x) ∧ h[L]? = some ⟨E, 1, ak_ out⟩ ∧ m = x.Asks.length - k ∧ k ≤ x.Asks.length ∧ out.length ≤ 1048576 + k ∧ hk_ x j nm s = (bK_ x j nm s (x.Asks.drop k) k).foldl bI_ out) x.Asks.length ⟨0, out, L, E, by simp [upd, t4], by simp [upd, t1], by simp [upd, t2], by simp [upd, t3], by simp [upd], by simp [upd, t9], by simp [upd], o0, oL, rfl, Nat.zero_le _, by omega, hS⟩ ?_
  clear hS ho oL pL p0 o0 t4 t1 t2 t3 t9 t10 hlt
  rintro J2 hJ2 m t h ⟨k, out, L, E, t4, t1, t2, t3, t12, t9, t13, o0, oL, rfl, hk, ho, hS⟩
  have p0 : ∀ l, (h ++ l)[0]? = some (gG_ x) := fun l => bt_ o0
  have pL : ∀ l, (h ++ l)[L]? = some ⟨E, 1, ak_ out⟩ := fun l => bt_ oL
  by_cases hlt : k < x.Asks.length
  ·rw [nC_ _ _ _ _ _ _ hlt] at hS
   have hck := hmA _ (getElem_mem hlt)
   have hlate : gH_ x j k = (decide (0 ≤ aC_ x j) && decide ((k : Int) > aC_ x j)) := rfl
   have skip : (bE_ x j nm s x.Asks[k] && !gH_ x j k) = false → ∀ t' l, t' 4 = .ptr 0 1 0 0 → t' 1 = .val (.int .i64 j) → t' 2 = .val (.string nm) → t' 3 = .list 0 1 (s.map az_) → t' 12 = .val (.int .i64 (aC_ x j)) → t' 9 = .own L out.length → t' 13 = .val (.int .i64 (k + 1 : Nat)) → ∃ m, m < x.Asks.length - k ∧ J2 m t' (h ++ l) := by
    intro hq t' l e4 e1 e2 e3 e12 e9 e13
    refine ⟨x.Asks.length - (k + 1), by omega, hJ2 _ _ _ ⟨k + 1, out, L, E, e4, e1, e2, e3, e12, e9, e13, p0 l, pL l, rfl, by omega, by omega, ?_⟩⟩
    rw [hS, hq]; rfl
   simp only [bE_] at skip hS
   simp (disch := omega) only [t4, t1, t13, hlt, o0, dr_, go_sem, reduceEqDiff, Nat.reduceAdd, ↓reduceIte]
   repeat' (first
    | exact ad_ _ _
    | (refine skip ?_ _ _ (by simp [upd, t4]) (by simp [upd, t1]) (by simp [upd, t2]) (by simp [upd, t3]) (by simp [upd, t12]) (by simp [upd, t9]) (by simp [upd]); first | (simp only [*, Bool.and_true, Bool.true_and, Bool.and_false, Bool.false_and, Bool.not_true, Bool.not_false, decide_true, decide_false, Bool.and_self]; done) | (simp_all; done))
    | (
     refine hput out E L _ x.Asks[k].Job _ (pL _) (by omega) (fun hn L' E' hL' => ?_)
     simp (disch := omega) only [t13, go_sem, reduceEqDiff, ↓reduceIte]
     have hpl := hf_ out x.Asks[k].Job
     refine ⟨x.Asks.length - (k + 1), by omega, hJ2 _ _ _ ⟨k + 1, bI_ out x.Asks[k].Job, L', E', by simp [upd, t4], by simp [upd, t1], by simp [upd, t2], by simp [upd, t3], by simp [upd, t12], by simp [upd], by simp [upd], p0 _, by simpa using hL', rfl, by omega, by omega, ?_⟩⟩
     rw [hS]; first | (simp only [*, Bool.and_false, Bool.false_and, Bool.not_false, decide_true, decide_false, Bool.and_self, if_true, foldl_cons]; done) | (simp_all; done))
    | simp (disch := omega) only [t4, t1, t2, t3, t12, t9, t13, p0, go_sem, reduceEqDiff, Nat.reduceAdd, ↓reduceIte]
    | (refine aa_.call (bV_ _ _ _ _ (ar_ (af_.sz_Subs hck)) hs _) ?_)
    | (refine aa_.q (bV_ _ _ _ _ (ar_ (af_.sz_Subs hck)) hs _) ?_)
    | (refine aa_.call (hup _ _ _ (ar_ (af_.sz_Subs hck))) ?_)
    | (refine aa_.q (hup _ _ _ (ar_ (af_.sz_Subs hck))) ?_)
    | ((first | (apply bd_; assumption) | (apply be_; assumption) | (apply bo_; assumption) | (apply bp_; assumption)); intro hb; try simp only [hb])
    | ((first | (apply aD_; assumption) | (apply aE_; assumption) | (apply aL_; assumption) | (apply aJ_; assumption)); intro hb; try simp only [hb])
    | ((first | apply aF_ | apply aM_ | apply an_ | apply ao_) <;> intro hb <;> (try simp only [hb]) <;> (first | have hp := a4_ hb | have hp := a3_ hb | have hp := a1_ hb | have hp := aZ_ hb | skip)))
  ·rw [mP_ _ _ _ _ _ _ (by omega)] at hS
   simp (disch := omega) only [t4, t9, t13, hlt, o0, go_sem, reduceEqDiff, ↓reduceIte]
   rw [hS]
   exact ⟨o5_ oL, _, _, rfl⟩
end Go.Proofs.YtodgohgdnmifaaaGreatDoor
