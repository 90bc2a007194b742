/-
 Contracts of functions. Conditions: as each theorem says.
-/
import Derived.Test.YtddmifalinefnaaGreatDoorBase
import Derived.Test.YtddmifalinefnaaGreatDoorPlJobs
import Derived.Test.YtddmifalinefnaaGreatDoorAwC
import Derived.Test.YtddmifalinefnaaGreatDoorShelfB
namespace Go.Proofs.YtddmifalinefnaaGreatDoor
open Tryz (prog)
open Nat (reduceEqDiff reduceLeDiff)
open List
open Go.AW
set_option linter.unusedVariables false
set_option linter.unusedSimpArgs false
set_option maxRecDepth 4000
theorem oJ_ {α : Type} {h : List α} {l : Nat} {r r' : α} (hl : h[l]? = some r) : (h.set l r')[l]? = some r' := by
 rw [getElem?_set_self (List.getElem?_eq_some_iff.1 hl).1]
theorem dg_ (zs : List Int) : ∀ e ∈ ao_ zs, e.all AV.cell = true := by
 intro e he
 obtain ⟨x, _, q⟩ := mem_map.1 he; subst q; rfl
def hY_ (xs : List Int) (v : Int) : Bool := xs.any fun x => decide (v = x)
def c55 : LC :=
 .q [.o [.f 4], .q [.o [.ki 5 0], .block 0 (.loop (.q [.q [.o [.m 6 5, .m 7 0, .ll 8 7, .bb 9 .lss false 6 8], .k 9 .skip (.exit 0)], .block 1 (.q [.o [.m 12 0, .m 13 5, .ia 14 1 12 13, .ln 15 14, .m 16 1, .bb 17 .eql
 false 15 16], .k 17 (.q [.o [.t 4], .ret]) .skip]), .o [.m 10 5, .bk 11 .add false 10 1, .m 5 11]]))], .o [.f 4], .ret]
def vU_ : LF := ⟨2, 18, c55, [.tmp 4]⟩
theorem xP_ : av_ prog Tryz.f55 vU_ := am_
theorem fu_ (xs : List Int) (v : Int) (hx : xs.length ≤ 1048576) (h : List Row) : aa_ prog 55 [.list 0 1 (xs.map bS_), .val (.int .i64 v)] h (.val (.bool (hY_ xs v))) := by
 refine ap_ mixed Tryz.func55 xP_ rfl rfl ?_ h
 simp (disch := omega) only [vU_, c55, go_sem]
 refine aB_ (fun n t h => ∃ k : Nat, t 0 = .list 0 1 (xs.map bS_) ∧ t 1 = .val (.int .i64 v) ∧ t 5 = .val (.int .i64 k) ∧ n = xs.length - k ∧ k ≤ xs.length ∧ (hY_ xs v = hY_ (xs.drop k) v)) (xs.length) ?_ ?_
 ·exact ⟨0, rfl, rfl, rfl, rfl, Nat.zero_le _, rfl⟩
 ·rintro J hJ n t h ⟨k, t0, t1, k5, rfl, hk, hS⟩
  by_cases hlt : k < xs.length
  ·skip
   rw [show hY_ (xs.drop k) v = (decide (v = xs[k]) || hY_ (xs.drop (k + 1)) v) from by rw [drop_eq_getElem_cons hlt]; rfl] at hS
   have hsym : (xs[k] = v) = (v = xs[k]) := propext ⟨Eq.symm, Eq.symm⟩
   simp (disch := omega) only [t0, t1, k5, hlt, bS_, go_sem, reduceEqDiff, reduceCtorEq, ↓reduceIte]
   repeat' (first
    | exact ae_ _ _
    | exact ⟨xs.length - (k + 1), by omega, hJ _ _ _ ⟨k + 1, by simp [upd, t0], by simp [upd, t1], by simp [upd], rfl, by omega, by rw [hS]; first | (simp [*]; done) | (simp_all; done)⟩⟩
    | (refine ac_ ?_; rw [hS]; simp [*]; done)
    | (refine ac_ ?_; rw [hS]; simp_all; done)
    | (refine ac_ ?_; rw [hS, drop_eq_nil_of_le (by omega)]; rfl)
    | simp (disch := omega) only [k5, go_sem, reduceEqDiff, ↓reduceIte]
    | ((first | (apply ay_; assumption) | (apply ax_; assumption) | (apply aG_; assumption) | (apply aH_; assumption)); intro hb; try simp only [hb])
    | ((first | apply ai_ | apply ak_) <;> intro hb <;> (try simp only [hb]) <;> (first | have hp := aO_ hb | have hp := aQ_ hb | have hp := aR_ hb | have hp := aP_ hb | skip)))
  ·skip
   simp (disch := omega) only [t0, k5, hlt, go_sem, reduceEqDiff, reduceCtorEq, ↓reduceIte]
   repeat' (first
    | exact ae_ _ _
    | (refine ac_ ?_; rw [hS]; simp [*]; done)
    | (refine ac_ ?_; rw [hS]; simp_all; done)
    | (refine ac_ ?_; rw [hS, drop_eq_nil_of_le (by omega)]; rfl)
    | simp (disch := omega) only [t0, t1, k5, go_sem, reduceEqDiff, Nat.reduceAdd, reduceLeDiff, reduceCtorEq, Int.reduceLT, Int.reduceLE, Int.reduceNeg, Int.reduceSub, Int.reduceAdd, Int.reduceToNat, ↓reduceIte]
    | ((first | (apply ay_; assumption) | (apply ax_; assumption) | (apply aG_; assumption) | (apply aH_; assumption)); intro hb; try simp only [hb])
    | ((first | apply ai_ | apply ak_) <;> intro hb <;> (try simp only [hb]) <;> (first | have hp := aO_ hb | have hp := aQ_ hb | have hp := aR_ hb | have hp := aP_ hb | skip)))
theorem m2_ : ∀ (zs : List Int) (n : Int), (cx_ zs n).length ≤ zs.length + 1
 | [], n => by simp [cx_]
 | z :: r, n => by
  have := m2_ r n
  simp only [cx_]
  split
  ·split <;> simp
  ·simp; omega
theorem to_ (zs : List Int) (k : Nat) (h : k < zs.length) (n : Int) : cx_ (zs.drop k) n = if n ≤ zs[k] then (if n < zs[k] then n :: zs.drop k else zs.drop k) else zs[k] :: cx_ (zs.drop (k + 1)) n := by
 conv => lhs; rw [drop_eq_getElem_cons h]
 rw [cx_, ← drop_eq_getElem_cons h]
def c54 : LC :=
 .q [.o [.nl 4], .o [.s 8 (.buildSlice 2 1 (.int .i64 0) 0 []), .m 5 8], .o [.f 6], .q [.o [.ki 7 0], .block 0 (.loop (.q [.q [.o [.m 9 7, .m 10 0, .ll 11 10, .bb 12 .lss false 9 11], .k 12 .skip (.exit 0)], .block 1 (.q
 [.q [.o [.m 15 6, .nt 16 15, .m 17 16, .gm 18 17 true 0, .gm 19 17 true 7, .g 20 17 true (.indexAddr 1 (.tmp 18) (.tmp 19)), .gn 21 17 true 20, .gm 22 17 true 1, .g 23 17 true (.bin .geq false (.tmp 21) (.tmp 22)), .pf
 24 17 23], .k 24 (.q [.o [.t 6], .o [.m 25 0, .m 26 7, .ia 27 1 25 26, .ln 28 27, .m 29 1, .bb 30 .gtr false 28 29], .k 30 (.o [.m 31 5, .m 32 1, .s 33 (.buildSlice 2 1 (.int .i64 0) 1 [(0, .tmp 32)]), .ap 34 2 1 8 31
 33, .m 5 34]) .skip]) .skip], .o [.m 35 5, .m 36 0, .m 37 7, .ia 38 1 36 37, .ln 39 38, .s 40 (.buildSlice 2 1 (.int .i64 0) 1 [(0, .tmp 39)]), .ap 41 2 1 8 35 40, .m 5 41]]), .o [.m 13 7, .bk 14 .add false 13 1, .m 7
 14]]))], .q [.o [.m 42 6, .nt 43 42], .k 43 (.o [.m 44 5, .m 45 1, .s 46 (.buildSlice 2 1 (.int .i64 0) 1 [(0, .tmp 45)]), .ap 47 2 1 8 44 46, .m 5 47]) .skip], .o [.m 48 5, .m 4 48], .ret]
def vc_ : LF := ⟨2, 49, c54, [.tmp 4]⟩
theorem w6_ : av_ prog Tryz.f54 vc_ := am_
theorem ji_ (zs : List Int) (n : Int) (hz : zs.length ≤ 4000000) : bh_ prog 54 [.list 0 1 (ao_ zs), .val (.int .i64 n)] (.list 0 1 (ao_ (cx_ zs n))) (fun a => ∃ l k, a = .own l k) := by
 refine dP_ mixed Tryz.func54 w6_ rfl (fun h => ?_)
 simp (disch := omega) only [vc_, c54, go_sem, ↓reduceIte]
 refine aB_ (fun m t h' => ∃ (k : Nat) (out : List Int) (d : Bool) (rest : List Row), t 0 = .list 0 1 (ao_ zs) ∧ t 1 = .val (.int .i64 n) ∧ t 5 = .own h.length out.length ∧ t 6 = .val (.bool d) ∧ t 7 = .val (.int .i64 k) ∧ h' = h ++ (⟨2, 1, ao_ out⟩ :: rest) ∧ m = zs.length - k ∧ k ≤ zs.length ∧ out.length ≤ k + d.toNat ∧ cx_ zs n = (if d then out ++ zs.drop k else out ++ cx_ (zs.drop k) n)) zs.length ⟨0, [], false, [], rfl, rfl, rfl, rfl, rfl, rfl, rfl, Nat.zero_le _, by simp, by simp⟩ ?_
 rintro J hJ m t h' ⟨k, out, d, rest, t0, t1, t5, t6, t7, rfl, rfl, hk, ho, hS⟩
 have hnx : ∀ (t' : Nat → AV) (out' : List Int) (d' : Bool) (rest' : List Row), t' 0 = .list 0 1 (ao_ zs) → t' 1 = .val (.int .i64 n) → t' 5 = .own h.length out'.length → t' 6 = .val (.bool d') → t' 7 = .val (.int .i64 (k + 1 : Nat)) → k < zs.length → out'.length ≤ k + 1 + d'.toNat → cx_ zs n = (if d' then out' ++ zs.drop (k + 1) else out' ++ cx_ (zs.drop (k + 1)) n) → ∃ m, m < zs.length - k ∧ J m t' (h ++ (⟨2, 1, ao_ out'⟩ :: rest')) :=
  fun t' out' d' rest' e0 e1 e5 e6 e7 hlt e8 e9 => ⟨zs.length - (k + 1), by omega, hJ _ _ _ ⟨k + 1, out', d', rest', e0, e1, e5, e6, e7, rfl, rfl, by omega, by omega, e9⟩⟩
 by_cases hlt : k < zs.length
 ·have hg := cc_ zs k hlt
  cases d
  ·simp only [Bool.false_eq_true, if_false] at hS
   simp only [Bool.toNat_false, Nat.add_zero] at ho
   rw [to_ zs k hlt] at hS
   by_cases h1 : n ≤ zs[k]
   ·rw [if_pos h1] at hS
    by_cases h2 : n < zs[k]
    ·rw [if_pos h2] at hS
     simp (disch := omega) only [t0, t1, t5, t6, t7, hlt, hg, h1, h2, go_sem, reduceEqDiff, reduceLeDiff, reduceCtorEq, ↓reduceIte]
     refine ⟨by omega, by omega, ?_⟩
     try simp (disch := omega) only [t0, t1, t5, t6, t7, hlt, hg, go_sem, reduceEqDiff, Nat.reduceAdd, reduceLeDiff, reduceCtorEq, Int.reduceLT, Int.reduceLE, Int.reduceNeg, Int.reduceSub, Int.reduceAdd, Int.reduceToNat, ↓reduceIte]
     refine ⟨by first | omega | (simp; omega), by first | omega | (simp; omega), ?_⟩
     refine hnx _ (out ++ [n, zs[k]]) true _ (by simp [upd, t0]) (by simp [upd, t1]) (by simp [upd]) (by simp [upd]) (by simp [upd]) hlt (by simp; omega) ?_
     rw [hS, drop_eq_getElem_cons hlt]; simp
    ·rw [if_neg h2] at hS
     simp (disch := omega) only [t0, t1, t5, t6, t7, hlt, hg, h1, h2, go_sem, reduceEqDiff, reduceLeDiff, reduceCtorEq, ↓reduceIte]
     refine ⟨by omega, by omega, ?_⟩
     refine hnx _ (out ++ [zs[k]]) true _ (by simp [upd, t0]) (by simp [upd, t1]) (by simp [upd]) (by simp [upd]) (by simp [upd]) hlt (by simp; omega) ?_
     rw [hS, drop_eq_getElem_cons hlt]; simp
   ·rw [if_neg h1] at hS
    simp (disch := omega) only [t0, t1, t5, t6, t7, hlt, hg, h1, go_sem, reduceEqDiff, reduceLeDiff, reduceCtorEq, ↓reduceIte]
    refine ⟨by omega, by omega, ?_⟩
    refine hnx _ (out ++ [zs[k]]) false _ (by simp [upd, t0]) (by simp [upd, t1]) (by simp [upd]) (by simp [upd, t6]) (by simp [upd]) hlt (by simp; omega) ?_
    rw [hS]; simp
  ·simp only [if_true] at hS
   simp only [Bool.toNat_true] at ho
   simp (disch := omega) only [t0, t5, t6, t7, hlt, hg, go_sem, reduceEqDiff, reduceLeDiff, reduceCtorEq, ↓reduceIte]
   refine ⟨by omega, by omega, ?_⟩
   refine hnx _ (out ++ [zs[k]]) true _ (by simp [upd, t0]) (by simp [upd, t1]) (by simp [upd]) (by simp [upd, t6]) (by simp [upd]) hlt (by simp; omega) ?_
   rw [hS, drop_eq_getElem_cons hlt]; simp
 ·have hd : zs.drop k = [] := drop_eq_nil_of_le (by omega)
  rw [hd] at hS
  cases d
  ·simp only [Bool.false_eq_true, if_false, cx_] at hS
   simp only [Bool.toNat_false, Nat.add_zero] at ho
   simp (disch := omega) only [t0, t1, t5, t6, t7, hlt, go_sem, reduceEqDiff, reduceLeDiff, reduceCtorEq, ↓reduceIte]
   refine ⟨by omega, by omega, ?_⟩
   rw [hS]
   refine ⟨_, rfl, ?_, _, _, rfl⟩
   have := bP_.ofInts (base := h.length) (l := h.length) (H := h ++ (⟨2, 1, ao_ (out ++ [n])⟩ :: (rest ++ [⟨2, 1, [[.val (.int .i64 n)]]⟩]))) (E := 2) (zs := out ++ [n]) (by rw [gb_]; rfl) (Nat.le_refl _)
   simpa using this
  ·simp only [if_true, append_nil] at hS
   simp (disch := omega) only [t0, t5, t6, t7, hlt, go_sem, reduceEqDiff, reduceCtorEq, ↓reduceIte]
   rw [hS]
   exact ⟨_, rfl, bP_.ofInts (E := 2) (by rw [gb_]; rfl) (Nat.le_refl _), _, _, rfl⟩
theorem sE_ {H : List Row} {l : Nat} {E : Tag} {sz n : Nat} {c r : AV} (hl : H[l]? = some ⟨E, sz, [[c]]⟩) (hc: AW.resolve H (n + 1) c = some r): AW.resolve H (n + 2) (.ptr l 1 0 0) = some (.iptr [r]) := by
 have e: AW.resolve H (n + 2) (.ptr l 1 0 0) = match H[l]? with
  | some r => if r.es.length = 1 then (match r.es[0]? with | some e => if 0 < e.length then ((e.drop 0).mapM (AW.resolve H (n + 1))).map .iptr else none | none => none) else none
  | none => none := rfl
 rw [e, hl]
 simp [hc]
def hk_ (h : List Row) (a : AV) (S : List Int) (l : Nat) (zs : List Int) : Prop := h[l]? = some ⟨.ty 2, 1, ao_ zs⟩ ∧ zs.take S.length = S ∧ (a = .sub l zs.length 0 S.length ∨ (a = .own l S.length ∧ zs = S))
theorem hk_.res {h : List Row} {a : AV} {S : List Int} {l : Nat} {zs : List Int} (s : hk_ h a S l zs) (n : Nat) : AW.resolve h (n + 2) a = some (.list 0 1 (ao_ S)) := by
 obtain ⟨h1, h2, rfl | ⟨rfl, rfl⟩⟩ := s
 ·rw [oR_ h1 (aS_ _) (fL_ _), drop_zero, fI_, h2]
 ·exact gr_ h1 (aS_ _) (fL_ _)
theorem hk_.fresh {h : List Row} {a : AV} {S : List Int} {l : Nat} {zs : List Int} (s : hk_ h a S l zs) {lo : Nat} (hl : lo ≤ l) : az_ lo h.length h a (.list 0 1 (ao_ S)) := by
 have hll := (List.getElem?_eq_some_iff.1 s.1).1
 obtain ⟨h1, h2, rfl | ⟨rfl, rfl⟩⟩ := s
 ·have hcut : ((ao_ zs).take S.length).drop 0 = ao_ S := by rw [drop_zero, fI_, h2]
  exact ⟨2, [l], ⟨_, _, [], h1, aS_ _, gI_ _, congrArg (AV.list 0 1) hcut.symm, rfl⟩, by simp, by simp; omega⟩
 ·exact (bP_.ofInts h1 hl).b
theorem hk_.keep {h h' : List Row} {a : AV} {S : List Int} {l : Nat} {zs : List Int} (s : hk_ h a S l zs) (hk : h'[l]? = h[l]?) : hk_ h' a S l zs := ⟨hk.trans s.1, s.2⟩
def QI (f : FuncId) (args : List AV) (h : List Row) (r : AV) : Prop := ∀ K : AV → List Row → Prop, (∀ H', bd_ h H' → K r H') → callSem prog f args h K
def c59 : LC :=
 .q [.o [.ki 4 0], .q [.o [.m 6 0, .ll 7 6, .ki 8 0], .block 0 (.loop (.q [.o [.bb 9 .lss false 8 7], .k 9 .skip (.exit 0), .block 1 (.q [.o [.m 10 8, .m 5 10], .o [.m 11 1, .m 12 0, .m 13 5, .ia 14 1 12 13, .ln 15 14,
 .bb 16 .eql false 11 15], .k 16 (.q [.o [.m 17 5, .m 4 17], .ret]) .skip]), .o [.bk 18 .add false 8 1, .m 8 18]]))], .o [.s 4 (.mov (.const (.int .i64 (-1))))], .ret]
def vh_ : LF := ⟨2, 19, c59, [.tmp 4]⟩
theorem xB_ : av_ prog Tryz.f59 vh_ := am_
theorem e3_ (xs : List Int) (v : Int) (hx : xs.length ≤ 1048576) (h : List Row) : aa_ prog 59 [.list 0 1 (xs.map bS_), .val (.int .i64 v)] h (.val (.int .i64 (bg_ (fun x => decide (v = x)) xs 0))) := by
 refine ap_ mixed Tryz.func59 xB_ rfl rfl ?_ h
 simp (disch := omega) only [vh_, c59, go_sem, reduceCtorEq, Int.reduceNeg, ↓reduceIte]
 refine aB_ (fun n t h => ∃ k : Nat, t 0 = .list 0 1 (xs.map bS_) ∧ t 1 = .val (.int .i64 v) ∧ t 7 = .val (.int .i64 xs.length) ∧ t 8 = .val (.int .i64 k) ∧ n = xs.length - k ∧ k ≤ xs.length ∧ (bg_ (fun x => decide (v = x)) xs 0 = bg_ (fun x => decide (v = x)) (xs.drop k) k)) (xs.length) ?_ ?_
 ·exact ⟨0, rfl, rfl, rfl, rfl, rfl, Nat.zero_le _, rfl⟩
 ·rintro J hJ n t h ⟨k, t0, t1, t7, k8, rfl, hk, hS⟩
  by_cases hlt : k < xs.length
  ·skip
   rw [dw_ _ xs k hlt] at hS
   simp (disch := omega) only [t0, t1, t7, k8, hlt, bS_, go_sem, reduceEqDiff, reduceCtorEq, Int.reduceNeg, ↓reduceIte]
   repeat' (first
    | exact ae_ _ _
    | exact ⟨xs.length - (k + 1), by omega, hJ _ _ _ ⟨k + 1, by simp [upd, t0], by simp [upd, t1], by simp [upd, t7], by simp [upd], rfl, by omega, by rw [hS]; simp [*]⟩⟩
    | (refine aC_ ?_; rw [hS]; simp [*]; done)
    | (refine aC_ ?_; rw [hS, b8_ _ _ _ (by omega)])
    | simp (disch := omega) only [k8, go_sem, reduceEqDiff, Int.reduceNeg, ↓reduceIte]
    | ((first | (apply ay_; assumption) | (apply ax_; assumption) | (apply aG_; assumption) | (apply aH_; assumption)); intro hb; try simp only [hb])
    | ((first | apply ai_ | apply ak_) <;> intro hb <;> (try simp only [hb]) <;> (first | have hp := aO_ hb | have hp := aQ_ hb | have hp := aR_ hb | have hp := aP_ hb | skip)))
  ·skip
   simp (disch := omega) only [t7, k8, hlt, go_sem, Int.reduceNeg, ↓reduceIte]
   repeat' (first
    | exact ae_ _ _
    | (refine aC_ ?_; rw [hS]; simp [*]; done)
    | (refine aC_ ?_; rw [hS, b8_ _ _ _ (by omega)])
    | simp (disch := omega) only [t0, t1, t7, k8, go_sem, reduceEqDiff, Nat.reduceAdd, reduceLeDiff, reduceCtorEq, Int.reduceLT, Int.reduceLE, Int.reduceNeg, Int.reduceSub, Int.reduceAdd, Int.reduceToNat, ↓reduceIte]
    | ((first | (apply ay_; assumption) | (apply ax_; assumption) | (apply aG_; assumption) | (apply aH_; assumption)); intro hb; try simp only [hb])
    | ((first | apply ai_ | apply ak_) <;> intro hb <;> (try simp only [hb]) <;> (first | have hp := aO_ hb | have hp := aQ_ hb | have hp := aR_ hb | have hp := aP_ hb | skip)))
def c36 : LC :=
 .q [.o [.f 4], .o [.m 5 0, .m 6 1, .c2 7 59 5 6, .bk 8 .geq false 7 0, .m 4 8], .ret]
def vW_ : LF := ⟨2, 9, c36, [.tmp 4]⟩
theorem wM_ : av_ prog Tryz.f36 vW_ := am_
theorem gx_ (xs : List Int) (v : Int) (hx : xs.length ≤ 1048576) (h : List Row) : aa_ prog 36 [.list 0 1 (xs.map bS_), .val (.int .i64 v)] h (.val (.bool (hY_ xs v))) := by
 refine ap_ mixed Tryz.func36 wM_ rfl rfl ?_ h
 simp (disch := omega) only [vW_, c36, go_sem, reduceEqDiff, reduceCtorEq, ↓reduceIte]
 repeat' (first
  | exact ae_ _ _
  | exact ac_ (fG_ _ xs)
  | simp (disch := omega) only [go_sem, ↓reduceIte]
  | (refine aa_.call (e3_ xs v hx _) ?_)
  | (refine aa_.q (e3_ xs v hx _) ?_)
  | ((first | (apply ay_; assumption) | (apply ax_; assumption) | (apply aG_; assumption) | (apply aH_; assumption)); intro hb; try simp only [hb])
  | ((first | apply ai_ | apply ak_) <;> intro hb <;> (try simp only [hb]) <;> (first | have hp := aO_ hb | have hp := aQ_ hb | have hp := aR_ hb | have hp := aP_ hb | skip)))
def c32 : LC :=
 .q [.o [.ki 4 0], .q [.o [.m 6 0, .ll 7 6, .ki 8 0], .block 0 (.loop (.q [.o [.bb 9 .lss false 8 7], .k 9 .skip (.exit 0), .block 1 (.q [.o [.m 10 8, .m 5 10], .o [.m 11 1, .m 12 0, .m 13 5, .ia 14 1 12 13, .ln 15 14, .s
 16 (.callv (.tmp 11) [.tmp 15])], .k 16 (.q [.o [.m 17 5, .m 4 17], .ret]) .skip]), .o [.bk 18 .add false 8 1, .m 8 18]]))], .o [.s 4 (.mov (.const (.int .i64 (-1))))], .ret]
def uD_ : LF := ⟨2, 19, c32, [.tmp 4]⟩
theorem wU_ : av_ prog Tryz.f32 uD_ := am_
theorem np_ {α : Type} {xs : List α} {k m : Nat} (h1 : k < m) (h2 : k < xs.length) : xs[k] ∈ xs.take m := by
 rw [mem_take_iff_getElem]; exact ⟨k, by omega, rfl⟩
theorem gs_ {E : Tag} {l : Nat} {H : List Row} {zs : List Int} (hr : H[l]? = some ⟨E, 1, ao_ zs⟩) (p : Int → Bool) (G : Nat) (caps : List AV) {m : Nat} (hmz : m ≤ zs.length) (hm : m ≤ 1048576) (hc : b0_ prog G = true)
 (hp : ∀ H' : List Row, bd_ H H' → ∀ z ∈ zs.take m, QI G (.val (.int .i64 z) :: caps) H' (.val (.bool (p z)))) : QI 32 [.sub l zs.length 0 m, .fn G [] caps] H (.val (.int .i64 (bg_ p (zs.take m) 0))) := by
 intro K hk
 refine bp_ mixed Tryz.func32 wU_ (co_ rfl ?_)
 simp (disch := omega) only [uD_, c32, hr, Nat.sub_zero, go_sem, reduceCtorEq, Int.reduceNeg, ↓reduceIte]
 refine aB_ (fun n t h => ∃ k : Nat, t 0 = .sub l zs.length 0 m ∧ t 1 = .fn G [] caps ∧ t 7 = .val (.int .i64 m) ∧ t 8 = .val (.int .i64 k) ∧ bd_ H h ∧ n = m - k ∧ k ≤ m ∧ bg_ p (zs.take m) 0 = bg_ p ((zs.take m).drop k) k) m ⟨0, rfl, rfl, rfl, rfl, bd_.refl _, rfl, Nat.zero_le _, rfl⟩ ?_
 rintro J hJ n t h ⟨k, t0, t1, t7, t8, hM, rfl, hk', hS⟩
 have hr := hM.at hr
 by_cases hlt : k < m
 ·have hlz : k < zs.length := by omega
  have hlt3 : k < (zs.take m).length := by rw [length_take]; omega
  rw [dw_ p _ k hlt3, getElem_take] at hS
  have hg := cc_ zs k hlz
  simp (disch := omega) only [t0, t1, t7, t8, hr, hlt, hg, hc, aS_, Nat.zero_add, Int.zero_add, go_sem, reduceEqDiff, reduceCtorEq, Int.reduceNeg, ↓reduceIte]
  refine hp _ hM _ (np_ hlt hlz) _ (fun H2 m2 => ?_)
  cases q : p zs[k]
  ·simp (disch := omega) only [t8, aq_, go_sem, reduceEqDiff, Int.reduceNeg, ↓reduceIte]
   exact ⟨m - (k + 1), by omega, hJ _ _ _ ⟨k + 1, by simp [upd, t0], by simp [upd, t1], by simp [upd, t7], by simp [upd], hM.trans m2, rfl, by omega, by rw [hS, q]; rfl⟩⟩
  ·simp (disch := omega) only [go_sem, reduceEqDiff, Int.reduceNeg, ↓reduceIte]
   rw [hS, q] at hk
   exact hk _ (hM.trans m2)
 ·simp (disch := omega) only [t7, t8, hlt, go_sem, Int.reduceNeg, ↓reduceIte]
  rw [hS, b8_ _ _ _ (by rw [length_take]; omega)] at hk
  exact hk _ hM
theorem hV_ {zs : List Int} {l : Nat} {H : List Row} (hl : H[l]? = some ⟨.ty 2, 1, ao_ zs⟩) (hlen : zs.length ≤ 4000000) {K : AV → List Row → Prop} (hk : K (.tup []) (H.set l ⟨.ty 2, 1, ao_ (cW_ zs)⟩)) :
 callSem prog 56 [.own l zs.length] H K :=
 sd_ (fun blk off cap zs w h1 h2 h3 => Tryz.slices_Sort_int blk off cap zs w h1 h2 h3) (fun p cap w => Tryz.slices_Sort_int_none p cap w) hl (by omega) hk
theorem ho_ : ∀ (x : Int) (r : List Int), ∃ r', aT_ (x :: r) = x :: r'
 | x, [] => ⟨[], rfl⟩
 | x, y :: r => by
  simp only [aT_]
  by_cases h : x = y
  ·subst h; rw [if_pos rfl]; exact ho_ x r
  ·rw [if_neg h]; exact ⟨_, rfl⟩
theorem jz_ (zs : List Int) (a : Nat) (h0 : 0 < a) (h : a < zs.length) : aT_ (zs.drop (a - 1)) = if zs[a - 1] = zs[a] then aT_ (zs.drop a) else zs[a - 1] :: aT_ (zs.drop a) := by
 rw [drop_eq_getElem_cons (show a - 1 < zs.length by omega)]
 rw [show a - 1 + 1 = a by omega, drop_eq_getElem_cons h]
 rfl
theorem im_ (zs : List Int) (h : 0 < zs.length) : aT_ (zs.drop (zs.length - 1)) = [zs[zs.length - 1]] := by
 rw [drop_eq_getElem_cons (by omega), drop_eq_nil_of_le (by omega)]; rfl
def c57 : LC :=
 .q [.o [.nl 2], .q [.o [.m 6 0, .ll 7 6, .bk 8 .lss false 7 2], .k 8 (.q [.o [.m 9 0, .m 2 9], .ret]) .skip], .q [.o [.ki 3 1], .block 0 (.loop (.q [.q [.o [.m 10 3, .m 11 0, .ll 12 11, .bb 13 .lss false 10 12], .k 13
 .skip (.exit 0)], .block 1 (.q [.dops [.m 16 0, .m 17 3, .ia 18 1 16 17, .ln 19 18, .m 20 0, .m 21 3, .bk 22 .sub false 21 1, .ia 23 1 20 22, .ln 24 23, .bb 25 .eql false 19 24], .k 25 (.q [.o [.m 26 0, .m 27 3, .s 28
 (.sliceSl 1 (.tmp 26) (some (.tmp 27)) none), .m 4 28], .q [.o [.ki 5 1], .block 2 (.loop (.q [.q [.o [.m 29 5, .m 30 4, .ll 31 30, .bb 32 .lss false 29 31], .k 32 .skip (.exit 2)], .block 3 (.q [.dops [.m 35 4, .m 36 5,
 .ia 37 1 35 36, .ln 38 37, .m 39 4, .m 40 5, .bk 41 .sub false 40 1, .ia 42 1 39 41, .ln 43 42, .bb 44 .neq false 38 43], .k 44 (.q [.o [.m 45 0, .m 46 3, .m 47 4, .m 48 5, .ia 49 1 47 48, .ln 50 49, .ia 51 1 45 46, .st
 1 51 50], .o [.m 52 3, .bk 53 .add false 52 1, .m 3 53]]) .skip]), .o [.m 33 5, .bk 34 .add false 33 1, .m 5 34]]))], .o [.m 54 0, .m 55 3, .s 56 (.sliceSl 1 (.tmp 54) (some (.tmp 55)) none), .z (.clear 2 1 (.int .i64 0)
 (.tmp 56))], .o [.m 57 0, .m 58 3, .s 59 (.sliceSl 1 (.tmp 57) none (some (.tmp 58))), .m 2 59], .ret]) .skip]), .o [.m 14 3, .bk 15 .add false 14 1, .m 3 15]]))], .o [.m 60 0, .m 2 60], .ret]
def sS_ : LF := ⟨1, 61, c57, [.tmp 2]⟩
theorem xn_ : av_ prog Tryz.f57 sS_ := am_
theorem gL_ {zs : List Int} (hz : zs.length ≤ 4000000) {l : Nat} {H : List Row} (hl : H[l]? = some ⟨.ty 2, 1, ao_ zs⟩) {K : AV → List Row → Prop}
 (hK : ∀ a ws, hk_ (H.set l ⟨.ty 2, 1, ao_ ws⟩) a (aT_ zs) l ws → K a (H.set l ⟨.ty 2, 1, ao_ ws⟩)) : callSem prog 57 [.own l zs.length] H K := by
 refine bp_ mixed Tryz.func57 xn_ (co_ rfl ?_)
 have hself : H.set l ⟨.ty 2, 1, ao_ zs⟩ = H := by have := ea_ hl; simpa using this
 have hget : ∀ r : Row, (H.set l r)[l]? = some r := fun r => oJ_ hl
 have hown : ∀ zs', zs' = aT_ zs → zs' = zs → K (.own l zs.length) H := by
  intro zs' e1 e2
  have := hK (.own l zs.length) zs ⟨hself.symm ▸ hl, by rw [← e1, e2, take_length], .inr ⟨by rw [← e1, e2], by rw [← e1, e2]⟩⟩
  rwa [hself] at this
 by_cases h2 : (zs.length : Int) < 2
 ·simp (disch := omega) only [sS_, c57, hl, h2, go_sem, reduceCtorEq, ↓reduceIte]
  refine hown (aT_ zs) rfl ?_
  match zs, h2 with
  | [], _ => rfl
  | [x], _ => rfl
  | x :: y :: r, h2 => simp at h2; omega
 simp (disch := omega) only [sS_, c57, hl, h2, go_sem, reduceCtorEq, ↓reduceIte]
 refine aB_ (fun m t h => ∃ k : Nat, t 0 = .own l zs.length ∧ t 3 = .val (.int .i64 k) ∧ h = H ∧ m = zs.length - k ∧ 1 ≤ k ∧ k ≤ zs.length ∧ aT_ zs = zs.take (k - 1) ++ aT_ (zs.drop (k - 1))) (zs.length - 1) ⟨1, rfl, rfl, rfl, rfl, Nat.le_refl _, by omega, by simp⟩ ?_
 rintro J hJ m t h ⟨k, t0, t3, rfl, rfl, hk1, hk, hS⟩
 by_cases hlt : k < zs.length
 ·have hg := cc_ zs k hlt
  have hg1 := cc_ zs (k - 1) (by omega)
  have hkp : ((k : Int) - 1) = ((k - 1 : Nat) : Int) := by omega
  have hlt1 : k - 1 < zs.length := by omega
  rw [jz_ zs k hk1 hlt] at hS
  by_cases he : zs[k] = zs[k - 1]
  ·rw [if_pos he.symm] at hS
   have he' : (zs[k] = zs[k - 1]) = True := eq_true he
   simp (disch := omega) only [t0, t3, hl, hlt, hlt1, hg, hg1, hkp, he', go_sem, reduceEqDiff, reduceCtorEq, ↓reduceIte]
   have hes : zs.take k = zs.take (k - 1) ++ [zs[k - 1]] := by rw [take_append_getElem hlt1]; congr 1; omega
   have hS2 : aT_ zs = zs.take k ++ (aT_ (zs.drop k)).drop 1 := by
    rw [hS, hes]
    obtain ⟨r', e⟩ := ho_ zs[k] (zs.drop (k + 1))
    rw [← drop_eq_getElem_cons hlt] at e
    rw [e, he, append_assoc]; rfl
   refine aB_ (fun m t h' => ∃ (c k2 : Nat) (ws : List Int), t 0 = .own l zs.length ∧ t 3 = .val (.int .i64 c) ∧ t 4 = .sub l zs.length k zs.length ∧ t 5 = .val (.int .i64 k2) ∧ h' = h.set l ⟨.ty 2, 1, ao_ ws⟩ ∧ m = zs.length - (k + k2) ∧ 1 ≤ k2 ∧ k + k2 ≤ zs.length ∧ c < k + k2 ∧ ws.length = zs.length ∧ (∀ i, k + k2 - 1 ≤ i → ws[i]? = zs[i]?) ∧ aT_ zs = ws.take c ++ (aT_ (zs.drop (k + k2 - 1))).drop 1) (zs.length - (k + 1))
    ⟨k, 1, zs, by simp [upd, t0], by simp [upd, t3], by simp [upd], by simp [upd], hself.symm, rfl, Nat.le_refl _, by omega, by omega, rfl, fun _ _ => rfl, by rw [show k + 1 - 1 = k by omega]; exact hS2⟩ ?_
   clear hS hS2 hg hg1 t0 t3
   rintro J2 hJ2 m t h' ⟨c, k2, ws, t0, t3, t4, t5, rfl, rfl, hk2, hkk, hc, hwl, hws, hS⟩
   by_cases hlt2 : k + k2 < zs.length
   ·have hcond : ((k : Int) + (k2 : Int) < (zs.length : Int)) = True := eq_true (by omega)
    have hcond1 : ((k : Int) + ((k2 - 1 : Nat) : Int) < (zs.length : Int)) = True := eq_true (by omega)
    have hl2 : ((k2 : Int) < ((zs.length - k : Nat) : Int)) = True := eq_true (by omega)
    have hp2 : ((k2 : Int) - 1) = ((k2 - 1 : Nat) : Int) := by omega
    have g1 : (ao_ ws)[k + k2]? = some [.val (.int .i64 zs[k + k2])] := by
     have : ws[k + k2]? = some zs[k + k2] := by rw [hws _ (by omega)]; exact getElem?_eq_getElem hlt2
     simp [ao_, this]
    have hlt3 : k + (k2 - 1) < zs.length := by omega
    have g2 : (ao_ ws)[k + (k2 - 1)]? = some [.val (.int .i64 zs[k + (k2 - 1)])] := by
     have : ws[k + (k2 - 1)]? = some zs[k + (k2 - 1)] := by rw [hws _ (by omega)]; exact getElem?_eq_getElem hlt3
     simp [ao_, this]
    have hcw : c < ws.length := by omega
    have g3 := cc_ ws c hcw
    have hcz : ((c : Int) < (zs.length : Int)) = True := eq_true (by omega)
    have hidx : k + k2 - 1 = k + (k2 - 1) := by omega
    rw [hidx] at hS
    have hat := jz_ zs (k + k2) (by omega) hlt2
    simp only [hidx] at hat
    rw [hat] at hS
    by_cases hne : zs[k + k2] = zs[k + (k2 - 1)]
    ·have hne' : (zs[k + k2] = zs[k + (k2 - 1)]) = True := eq_true hne
     rw [if_pos hne.symm] at hS
     simp (disch := omega) only [t4, t5, hget, hwl, hcond, hcond1, hl2, hp2, g1, g2, hne', hk, go_sem, reduceEqDiff, ↓reduceIte]
     exact ⟨zs.length - (k + (k2 + 1)), by omega, hJ2 _ _ _ ⟨c, k2 + 1, ws, by simp [upd, t0], by simp [upd, t3], by simp [upd, t4], by simp [upd], rfl, rfl, by omega, by omega, by omega, hwl, fun i hi => hws i (by omega), by rw [show k + (k2 + 1) - 1 = k + k2 by omega]; exact hS⟩⟩
    ·have hne' : (zs[k + k2] = zs[k + (k2 - 1)]) = False := eq_false hne
     rw [if_neg (fun q => hne q.symm)] at hS
     simp (disch := omega) only [t0, t3, t4, t5, hget, hwl, hcond, hcond1, hl2, hp2, g1, g2, g3, hne', hcz, hk, set_set, pZ_, go_sem, reduceEqDiff, reduceCtorEq, ↓reduceIte]
     refine ⟨zs.length - (k + (k2 + 1)), by omega, hJ2 _ _ _ ⟨c + 1, k2 + 1, ws.set c zs[k + k2], by simp [upd, t0], by simp [upd], by simp [upd, t4], by simp [upd], rfl, rfl, by omega, by omega, by omega, by simp [hwl], fun i hi => ?_, ?_⟩⟩
     ·rw [getElem?_set_ne (by omega)]; exact hws i (by omega)
     ·rw [show k + (k2 + 1) - 1 = k + k2 by omega, hS]
      obtain ⟨r', e⟩ := ho_ zs[k + k2] (zs.drop (k + k2 + 1))
      rw [← drop_eq_getElem_cons hlt2] at e
      rw [e]
      have : (ws.set c zs[k + k2]).take (c + 1) = ws.take c ++ [zs[k + k2]] := by
       rw [← take_append_getElem (by simpa using hcw)]
       simp [take_set_of_le]
      rw [this]; simp
   ·have hend : k + k2 - 1 = zs.length - 1 := by omega
    have hl2 : ((k2 : Int) < ((zs.length - k : Nat) : Int)) = False := eq_false (by omega)
    have hfin : aT_ zs = ws.take c := by rw [hS, hend, im_ zs (by omega)]; simp
    simp (disch := omega) only [t0, t3, t4, t5, hget, hwl, hl2, hk, set_set, go_sem, reduceEqDiff, reduceCtorEq, ↓reduceIte]
    refine ⟨by omega, ?_⟩
    have hrow : ∀ A : List (List AV), A = (ao_ ws).take c ++ (List.replicate (zs.length - c) [AV.val (Value.int .i64 0)] ++ (ao_ ws).drop zs.length) → A = ao_ (ws.take c ++ List.replicate (zs.length - c) 0) := by
     intro A e
     rw [e, drop_eq_nil_of_le (by rw [aS_]; omega), append_nil, fI_, ← dJ_]
     congr 1
     simp [ao_]
    rw [if_pos ⟨by simp [aS_, hwl]; omega, by omega⟩]
    have hr := hrow _ rfl
    have hlen2 : (ws.take c ++ List.replicate (zs.length - c) (0 : Int)).length = zs.length := by simp; omega
    have hcut : (ws.take c ++ List.replicate (zs.length - c) (0 : Int)).take (aT_ zs).length = aT_ zs := by
     rw [hfin, length_take, Nat.min_eq_left (by omega), take_append_of_le_length (by simp; omega), take_take]; simp
    have hcl : (aT_ zs).length = c := by rw [hfin, length_take]; omega
    have := hK (.sub l zs.length 0 c) (ws.take c ++ List.replicate (zs.length - c) (0 : Int)) ⟨hget _, hcut, .inl (by rw [hcl, hlen2])⟩
    rw [hr]
    exact this
  ·rw [if_neg (fun q => he q.symm)] at hS
   have he' : (zs[k] = zs[k - 1]) = False := eq_false he
   simp (disch := omega) only [t0, t3, hl, hlt, hlt1, hg, hg1, hkp, he', go_sem, reduceEqDiff, reduceCtorEq, ↓reduceIte]
   refine ⟨zs.length - (k + 1), by omega, hJ _ _ _ ⟨k + 1, by simp [upd, t0], by simp [upd], rfl, rfl, by omega, by omega, ?_⟩⟩
   rw [hS, show k + 1 - 1 = k by omega]
   have e : zs.take k = zs.take (k - 1) ++ [zs[k - 1]] := by rw [take_append_getElem hlt1]; congr 1; omega
   rw [e, append_assoc]; rfl
 ·simp (disch := omega) only [t0, t3, hl, hlt, go_sem, reduceEqDiff, reduceCtorEq, ↓reduceIte]
  refine hown (aT_ zs) rfl ?_
  have : k - 1 = zs.length - 1 := by omega
  rw [hS, this, im_ zs (by omega)]
  rw [take_append_getElem, show zs.length - 1 + 1 = zs.length by omega, take_length]
theorem tx_ {α : Type} {es : List α} {z : α} {k m : Nat} (hk : k < m) (hm : m ≤ es.length) :
 List.take (m - 1) (List.take k es ++ (List.drop (k + 1) (List.take m es) ++ List.drop (m - 1) es)) ++ (List.replicate 1 z ++ List.drop m (List.take k es ++ (List.drop (k + 1) (List.take m es) ++ List.drop (m - 1) es))) =
 List.take k es ++ List.drop (k + 1) (List.take m es) ++ z :: List.drop m es := by
 have hlen : (List.take k es ++ List.drop (k + 1) (List.take m es)).length = m - 1 := by
  simp only [la_, length_take, length_drop]; omega
 rw [← append_assoc (List.take k es) (List.drop (k + 1) (List.take m es)) (List.drop (m - 1) es), take_left' hlen, drop_append, hlen]
 have e1 : List.drop m (List.take k es ++ List.drop (k + 1) (List.take m es)) = [] := drop_eq_nil_of_le (by omega)
 rw [e1, nil_append, drop_drop]
 have e2 : m - 1 + (m - (m - 1)) = m := by omega
 rw [e2]; rfl
def c37 : LC :=
 .q [.o [.nl 6], .o [.m 8 0, .m 9 1, .m 10 2, .m 11 0, .ll 12 11, .s 13 (.slice3 (.tmp 8) (.tmp 9) (.tmp 10) (.tmp 12))], .q [.o [.m 14 1, .m 15 2, .bb 16 .eql false 14 15], .k 16 (.q [.o [.m 17 0, .m 6 17], .ret])
 .skip], .o [.m 18 0, .ll 19 18, .m 7 19], .gops [.m 20 0, .m 21 1, .s 22 (.sliceSl 1 (.tmp 20) none (some (.tmp 21))), .m 23 0, .m 24 2, .s 25 (.sliceSl 1 (.tmp 23) (some (.tmp 24)) none)] [(.ap 26 2 1 8 22 25, []), (.m
 0 26, [])], .o [.m 27 0, .m 28 0, .ll 29 28, .m 30 7, .s 31 (.sliceSl 1 (.tmp 27) (some (.tmp 29)) (some (.tmp 30))), .z (.clear 2 1 (.int .i64 0) (.tmp 31))], .o [.m 32 0, .m 6 32], .ret]
def vJ_ : LF := ⟨3, 33, c37, [.tmp 6]⟩
theorem xd_ : av_ prog Tryz.f37 vJ_ := am_
theorem hC_ {l m k : Nat} {H : List Row} {zs : List Int} (hr : H[l]? = some ⟨.ty 2, 1, ao_ zs⟩) (hle : m ≤ zs.length) (hkm : k < m) (hm : m ≤ 1048576) {K : AV → List Row → Prop}
 (hk : ∀ (H' : List Row) (ws : List Int), H'.length = H.length → (∀ x, x ≠ l → H'[x]? = H[x]?) → H'[l]? = some ⟨.ty 2, 1, ao_ ws⟩ → ws.length = zs.length → ws.take (m - 1) = (zs.take m).eraseIdx k → K (.sub l zs.length 0 (m - 1)) H') :
 callSem prog 37 [.sub l zs.length 0 m, .val (.int .i64 k), .val (.int .i64 ((k : Int) + 1))] H K := by
 refine bp_ mixed Tryz.func37 xd_ (co_ rfl ?_)
 have hll := (List.getElem?_eq_some_iff.1 hr).1
 have hti : ((k : Int) + 1).toNat = k + 1 := by omega
 have hne : ((k : Int) = (k : Int) + 1) = False := eq_false (by omega)
 have hw : ∀ e ∈ ao_ zs, e.all AV.cell = true := dg_ zs
 have hmk : k + (m - (k + 1)) = m - 1 := by omega
 have hm1 : m - 1 ≤ zs.length := by omega
 have hm2 : k + 1 ≤ m := hkm
 have hm3 : k ≤ m := by omega
 have hm4 : m - (m - 1) = 1 := by omega
 simp (disch := (first | omega | (simp only [ls_, la_, lc_, ln_]; first | done | omega))) only [cd_, go_sem, reduceEqDiff, reduceCtorEq, ↓reduceIte, vJ_, c37, hr, hti, hne, hle, hmk, hm1, hm2, hm4, Nat.sub_zero, Nat.zero_add, aS_, la_, length_take, length_drop, if_pos, Nat.min_eq_left]
 refine ⟨by omega, by omega, by omega, by omega, fun e he => hw e (mem_of_mem_take (mem_of_mem_drop he)), by omega, by omega, ?_⟩
 rw [set_set, tx_ hkm (by rw [aS_]; exact hle)]
 have hrow : (ao_ zs).take k ++ (((ao_ zs).take m).drop (k + 1)) ++ [AV.val (Value.int .i64 0)] :: (ao_ zs).drop m = ao_ ((zs.take k ++ (zs.take m).drop (k + 1)) ++ (0 : Int) :: zs.drop m) := by
  simp only [ao_, map_append, map_cons, map_take, map_drop]
 rw [hrow]
 have hol : (zs.take k ++ (zs.take m).drop (k + 1)) = (zs.take m).eraseIdx k := by
  rw [eraseIdx_eq_take_drop_succ, take_take, Nat.min_eq_left (by omega)]
 have hlen : (zs.take k ++ (zs.take m).drop (k + 1)).length = m - 1 := by
  simp only [la_, length_take, length_drop]; omega
 have hz2 : ((zs.take k ++ (zs.take m).drop (k + 1)) ++ (0 : Int) :: zs.drop m).length = zs.length := by
  rw [la_, hlen, lc_, length_drop]; omega
 exact hk _ _ (by simp) (fun x q2 => bn_ (Ne.symm q2)) (cd_ hll) hz2 (by rw [take_left' hlen, hol])
end Go.Proofs.YtddmifalinefnaaGreatDoor
