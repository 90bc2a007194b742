/-
 Contracts of functions. Conditions: as each theorem says.
-/
import Derived.Test.YtodgohgdnmifaaaGreatDoorFnY
import Derived.Test.YtodgohgdnmifaaaGreatDoorShelfB
import Derived.Test.YtodgohgdnmifaaaGreatDoorAwC
namespace Go.Proofs.YtodgohgdnmifaaaGreatDoor
open List
open Go.AW
set_option linter.unusedVariables false
set_option linter.unusedSimpArgs false
set_option maxRecDepth 4000
open Tryz (prog)
open Nat (reduceEqDiff reduceLeDiff)
theorem fx_ {zs : List Int} {l : Nat} {H : List Row} (hl : H[l]? = some ⟨.ty 2, 1, av_ zs⟩) (hlen : zs.length ≤ 4000000) {K : AV → List Row → Prop} (hk : K (.tup []) (H.set l ⟨.ty 2, 1, av_ (dE_ zs)⟩)) :
 callSem Tryz.prog 45 [.own l zs.length] H K :=
 sY_ (fun blk off cap zs w h1 h2 h3 => Tryz.slices_Sort_int blk off cap zs w h1 h2 h3) (fun p cap w => Tryz.slices_Sort_int_none p cap w) hl (by omega) hk
theorem f8_ : ∀ (x : Int) (r : List Int), ∃ r', bC_ (x :: r) = x :: r'
 | x, [] => ⟨[], rfl⟩
 | x, y :: r => by
  simp only [bC_]
  by_cases h : x = y
  ·subst h; rw [if_pos rfl]; exact f8_ x r
  ·rw [if_neg h]; exact ⟨_, rfl⟩
theorem nH_ (zs : List Int) : bC_ zs = [] ↔ zs = [] := by
 cases zs with
 | nil => simp [bC_]
 | cons x r => obtain ⟨r', e⟩ := f8_ x r; simp [e]
theorem ku_ (zs : List Int) (a : Nat) (h0 : 0 < a) (h : a < zs.length) : bC_ (zs.drop (a - 1)) = if zs[a - 1] = zs[a] then bC_ (zs.drop a) else zs[a - 1] :: bC_ (zs.drop a) := by
 rw [drop_eq_getElem_cons (show a - 1 < zs.length by omega)]
 rw [show a - 1 + 1 = a by omega, drop_eq_getElem_cons h]
 rfl
theorem jc_ (zs : List Int) (h : 0 < zs.length) : bC_ (zs.drop (zs.length - 1)) = [zs[zs.length - 1]] := by
 rw [drop_eq_getElem_cons (by omega), drop_eq_nil_of_le (by omega)]; rfl
def rU_ : LC :=
 .q [.o [.nl 2], .q [.o [.m 6 0, .ll 7 6, .bk 8 .lss false 7 2], .k 8 (.q [.o [.m 9 0, .m 2 9], .ret]) .skip], .q [.o [.ki 3 1], .block 0 (.loop (.q [.q [.o [.m 10 3, .m 11 0, .ll 12 11, .bb 13 .lss false 10 12], .k 13
 .skip (.exit 0)], .block 1 (.q [.dops [.m 16 0, .m 17 3, .ia 18 1 16 17, .ln 19 18, .m 20 0, .m 21 3, .bk 22 .sub false 21 1, .ia 23 1 20 22, .ln 24 23, .bb 25 .eql false 19 24], .k 25 (.q [.o [.m 26 0, .m 27 3, .s 28
 (.sliceSl 1 (.tmp 26) (some (.tmp 27)) none), .m 4 28], .q [.o [.ki 5 1], .block 2 (.loop (.q [.q [.o [.m 29 5, .m 30 4, .ll 31 30, .bb 32 .lss false 29 31], .k 32 .skip (.exit 2)], .block 3 (.q [.dops [.m 35 4, .m 36 5,
 .ia 37 1 35 36, .ln 38 37, .m 39 4, .m 40 5, .bk 41 .sub false 40 1, .ia 42 1 39 41, .ln 43 42, .bb 44 .neq false 38 43], .k 44 (.q [.o [.m 45 0, .m 46 3, .m 47 4, .m 48 5, .ia 49 1 47 48, .ln 50 49, .ia 51 1 45 46, .st
 1 51 50], .o [.m 52 3, .bk 53 .add false 52 1, .m 3 53]]) .skip]), .o [.m 33 5, .bk 34 .add false 33 1, .m 5 34]]))], .o [.m 54 0, .m 55 3, .s 56 (.sliceSl 1 (.tmp 54) (some (.tmp 55)) none), .z (.clear 2 1 (.int .i64 0)
 (.tmp 56))], .o [.m 57 0, .m 58 3, .s 59 (.sliceSl 1 (.tmp 57) none (some (.tmp 58))), .m 2 59], .ret]) .skip]), .o [.m 14 3, .bk 15 .add false 14 1, .m 3 15]]))], .o [.m 60 0, .m 2 60], .ret]
def qn_ : LF := ⟨1, 61, rU_, [.tmp 2]⟩
theorem wa_ : aA_ Tryz.prog Tryz.f121 qn_ := ak_
theorem eK_ {zs : List Int} (hz : zs.length ≤ 4000000) {l : Nat} {H : List Row} (hl : H[l]? = some ⟨.ty 2, 1, av_ zs⟩) {K : AV → List Row → Prop}
 (hK : ∀ a r', AW.resolve (H.set l r') 2 a = some (.list 0 1 (av_ (bC_ zs))) → aP_ l (l + 1) (H.set l r') a (.list 0 1 (av_ (bC_ zs))) → K a (H.set l r')) : callSem Tryz.prog 121 [.own l zs.length] H K := by
 refine aS_ mixed Tryz.func121 wa_ (bs_ rfl ?_)
 have hself : H.set l ⟨.ty 2, 1, av_ zs⟩ = H := by have := fQ_ hl; simpa using this
 have hget : ∀ r : Row, (H.set l r)[l]? = some r := fun r => k9_ hl
 have hown : ∀ zs', zs' = bC_ zs → zs' = zs → K (.own l zs.length) H := by
  intro zs' e1 e2
  have := hK (.own l zs.length) ⟨.ty 2, 1, av_ zs⟩ (by
   rw [hself, ← e1, e2]
   exact ph_ hl (bz_ _) (hP_ _)) (by
   rw [hself, ← e1, e2]
   exact ⟨2, [l], ⟨_, av_ zs, [], hl, bz_ zs, fq_ zs, rfl, rfl⟩, by simp, by simp⟩)
  rwa [hself] at this
 by_cases h2 : (zs.length : Int) < 2
 ·simp (disch := omega) only [qn_, rU_, hl, h2, go_sem, reduceCtorEq, ↓reduceIte]
  refine hown (bC_ zs) rfl ?_
  match zs, h2 with
  | [], _ => rfl
  | [x], _ => rfl
  | x :: y :: r, h2 => simp at h2; omega
 simp (disch := omega) only [qn_, rU_, hl, h2, go_sem, reduceCtorEq, ↓reduceIte]
 refine aE_ (fun m t h => ∃ k : Nat, t 0 = .own l zs.length ∧ t 3 = .val (.int .i64 k) ∧ h = H ∧ m = zs.length - k ∧ 1 ≤ k ∧ k ≤ zs.length ∧ bC_ zs = zs.take (k - 1) ++ bC_ (zs.drop (k - 1))) (zs.length - 1) ⟨1, rfl, rfl, rfl, rfl, Nat.le_refl _, by omega, by simp⟩ ?_
 rintro J hJ m t h ⟨k, t0, t3, rfl, rfl, hk1, hk, hS⟩
 by_cases hlt : k < zs.length
 ·have hg := eI_ zs k hlt
  have hg1 := eI_ zs (k - 1) (by omega)
  have hkp : ((k : Int) - 1) = ((k - 1 : Nat) : Int) := by omega
  have hlt1 : k - 1 < zs.length := by omega
  rw [ku_ zs k hk1 hlt] at hS
  by_cases he : zs[k] = zs[k - 1]
  ·rw [if_pos he.symm] at hS
   have he' : (zs[k] = zs[k - 1]) = True := eq_true he
   simp (disch := omega) only [t0, t3, hl, hlt, hlt1, hg, hg1, hkp, he', go_sem, Nat.reduceEqDiff, reduceCtorEq, ↓reduceIte]
   have hes : zs.take k = zs.take (k - 1) ++ [zs[k - 1]] := by rw [take_append_getElem hlt1]; congr 1; omega
   have hS2 : bC_ zs = zs.take k ++ (bC_ (zs.drop k)).drop 1 := by
    rw [hS, hes]
    obtain ⟨r', e⟩ := f8_ zs[k] (zs.drop (k + 1))
    rw [← drop_eq_getElem_cons hlt] at e
    rw [e, he, append_assoc]; rfl
   refine aE_ (fun m t h' => ∃ (c k2 : Nat) (ws : List Int), t 0 = .own l zs.length ∧ t 3 = .val (.int .i64 c) ∧ t 4 = .sub l zs.length k zs.length ∧ t 5 = .val (.int .i64 k2) ∧ h' = h.set l ⟨.ty 2, 1, av_ ws⟩ ∧ m = zs.length - (k + k2) ∧ 1 ≤ k2 ∧ k + k2 ≤ zs.length ∧ c < k + k2 ∧ ws.length = zs.length ∧ (∀ i, k + k2 - 1 ≤ i → ws[i]? = zs[i]?) ∧ bC_ zs = ws.take c ++ (bC_ (zs.drop (k + k2 - 1))).drop 1) (zs.length - (k + 1))
    ⟨k, 1, zs, by simp [upd, t0], by simp [upd, t3], by simp [upd], by simp [upd], hself.symm, rfl, Nat.le_refl _, by omega, by omega, rfl, fun _ _ => rfl, by rw [show k + 1 - 1 = k by omega]; exact hS2⟩ ?_
   clear hS hS2 hg hg1 t0 t3
   rintro J2 hJ2 m t h' ⟨c, k2, ws, t0, t3, t4, t5, rfl, rfl, hk2, hkk, hc, hwl, hws, hS⟩
   by_cases hlt2 : k + k2 < zs.length
   ·have hcond : ((k : Int) + (k2 : Int) < (zs.length : Int)) = True := eq_true (by omega)
    have hcond1 : ((k : Int) + ((k2 - 1 : Nat) : Int) < (zs.length : Int)) = True := eq_true (by omega)
    have hl2 : ((k2 : Int) < ((zs.length - k : Nat) : Int)) = True := eq_true (by omega)
    have hp2 : ((k2 : Int) - 1) = ((k2 - 1 : Nat) : Int) := by omega
    have g1 : (av_ ws)[k + k2]? = some [.val (.int .i64 zs[k + k2])] := by
     have : ws[k + k2]? = some zs[k + k2] := by rw [hws _ (by omega)]; exact getElem?_eq_getElem hlt2
     simp [av_, this]
    have hlt3 : k + (k2 - 1) < zs.length := by omega
    have g2 : (av_ ws)[k + (k2 - 1)]? = some [.val (.int .i64 zs[k + (k2 - 1)])] := by
     have : ws[k + (k2 - 1)]? = some zs[k + (k2 - 1)] := by rw [hws _ (by omega)]; exact getElem?_eq_getElem hlt3
     simp [av_, this]
    have hcw : c < ws.length := by omega
    have g3 := eI_ ws c hcw
    have hcz : ((c : Int) < (zs.length : Int)) = True := eq_true (by omega)
    have hidx : k + k2 - 1 = k + (k2 - 1) := by omega
    rw [hidx] at hS
    have hat := ku_ zs (k + k2) (by omega) hlt2
    simp only [hidx] at hat
    rw [hat] at hS
    by_cases hne : zs[k + k2] = zs[k + (k2 - 1)]
    ·have hne' : (zs[k + k2] = zs[k + (k2 - 1)]) = True := eq_true hne
     rw [if_pos hne.symm] at hS
     simp (disch := omega) only [t4, t5, hget, hwl, hcond, hcond1, hl2, hp2, g1, g2, hne', hk, go_sem, Nat.reduceEqDiff, ↓reduceIte]
     exact ⟨zs.length - (k + (k2 + 1)), by omega, hJ2 _ _ _ ⟨c, k2 + 1, ws, by simp [upd, t0], by simp [upd, t3], by simp [upd, t4], by simp [upd], rfl, rfl, by omega, by omega, by omega, hwl, fun i hi => hws i (by omega), by rw [show k + (k2 + 1) - 1 = k + k2 by omega]; exact hS⟩⟩
    ·have hne' : (zs[k + k2] = zs[k + (k2 - 1)]) = False := eq_false hne
     rw [if_neg (fun q => hne q.symm)] at hS
     simp (disch := omega) only [t0, t3, t4, t5, hget, hwl, hcond, hcond1, hl2, hp2, g1, g2, g3, hne', hcz, hk, set_set, p1_, go_sem, Nat.reduceEqDiff, reduceCtorEq, ↓reduceIte]
     refine ⟨zs.length - (k + (k2 + 1)), by omega, hJ2 _ _ _ ⟨c + 1, k2 + 1, ws.set c zs[k + k2], by simp [upd, t0], by simp [upd], by simp [upd, t4], by simp [upd], rfl, rfl, by omega, by omega, by omega, by simp [hwl], fun i hi => ?_, ?_⟩⟩
     ·rw [getElem?_set_ne (by omega)]; exact hws i (by omega)
     ·rw [show k + (k2 + 1) - 1 = k + k2 by omega, hS]
      obtain ⟨r', e⟩ := f8_ zs[k + k2] (zs.drop (k + k2 + 1))
      rw [← drop_eq_getElem_cons hlt2] at e
      rw [e]
      have : (ws.set c zs[k + k2]).take (c + 1) = ws.take c ++ [zs[k + k2]] := by
       rw [← take_append_getElem (by simpa using hcw)]
       simp [take_set_of_le]
      rw [this]; simp
   ·have hend : k + k2 - 1 = zs.length - 1 := by omega
    have hl2 : ((k2 : Int) < ((zs.length - k : Nat) : Int)) = False := eq_false (by omega)
    have hfin : bC_ zs = ws.take c := by rw [hS, hend, jc_ zs (by omega)]; simp
    simp (disch := omega) only [t0, t3, t4, t5, hget, hwl, hl2, hk, set_set, go_sem, Nat.reduceEqDiff, reduceCtorEq, ↓reduceIte]
    refine ⟨by omega, ?_⟩
    have hrow : ∀ A : List (List AV), A = (av_ ws).take c ++ (List.replicate (zs.length - c) [AV.val (Value.int .i64 0)] ++ (av_ ws).drop zs.length) → A = av_ (ws.take c ++ List.replicate (zs.length - c) 0) := by
     intro A e
     rw [e, drop_eq_nil_of_le (by rw [bz_]; omega), append_nil, kr_, ← lx_]
     congr 1
     simp [av_]
    rw [if_pos ⟨by simp [bz_, hwl]; omega, by omega⟩]
    have hr := hrow _ rfl
    have hlen2 : (ws.take c ++ List.replicate (zs.length - c) (0 : Int)).length = zs.length := by simp; omega
    have hcut : ((av_ (ws.take c ++ List.replicate (zs.length - c) (0 : Int))).take c).drop 0 = av_ (bC_ zs) := by
     rw [drop_zero, kr_, hfin]
     congr 1
     rw [take_append_of_le_length (by simp; omega), take_take]; simp
    refine hK _ _ ?_ ?_
    ·rw [hr, t3_ (n := 0) (hget _) (by rw [bz_, hlen2]) (hP_ _)]
     exact congrArg (fun q => some (AV.list 0 1 q)) hcut
    ·rw [hr]
     exact ⟨2, [l], ⟨_, _, [], hget _, by rw [bz_, hlen2], fq_ _, congrArg (AV.list 0 1) hcut.symm, rfl⟩, by simp, by simp⟩
  ·rw [if_neg (fun q => he q.symm)] at hS
   have he' : (zs[k] = zs[k - 1]) = False := eq_false he
   simp (disch := omega) only [t0, t3, hl, hlt, hlt1, hg, hg1, hkp, he', go_sem, Nat.reduceEqDiff, reduceCtorEq, ↓reduceIte]
   refine ⟨zs.length - (k + 1), by omega, hJ _ _ _ ⟨k + 1, by simp [upd, t0], by simp [upd], rfl, rfl, by omega, by omega, ?_⟩⟩
   rw [hS, show k + 1 - 1 = k by omega]
   have e : zs.take k = zs.take (k - 1) ++ [zs[k - 1]] := by rw [take_append_getElem hlt1]; congr 1; omega
   rw [e, append_assoc]; rfl
 ·simp (disch := omega) only [t0, t3, hl, hlt, go_sem, Nat.reduceEqDiff, reduceCtorEq, ↓reduceIte]
  refine hown (bC_ zs) rfl ?_
  have : k - 1 = zs.length - 1 := by omega
  rw [hS, this, jc_ zs (by omega)]
  rw [take_append_getElem, show zs.length - 1 + 1 = zs.length by omega, take_length]
def c98 : LC :=
 .q [.o [.ki 4 0], .q [.o [.m 6 0, .ll 7 6, .ki 8 0], .block 0 (.loop (.q [.o [.bb 9 .lss false 8 7], .k 9 .skip (.exit 0), .block 1 (.q [.o [.m 10 8, .m 5 10], .o [.m 11 1, .m 12 0, .m 13 5, .ia 14 4 12 13, .ld 15 4 14,
 .s 16 (.callv (.tmp 11) [.tmp 15])], .k 16 (.q [.o [.m 17 5, .m 4 17], .ret]) .skip]), .o [.bk 18 .add false 8 1, .m 8 18]]))], .o [.s 4 (.mov (.const (.int .i64 (-1))))], .ret]
def qo_ : LF := ⟨2, 19, c98, [.tmp 4]⟩
theorem qb_ : aA_ prog Tryz.f98 qo_ := ak_
theorem fX_ (xs : List ae_) (p : ae_ → Bool) (g : Nat) (caps : List AV) (hcf : caps.all AV.flat = true) (hx : xs.length ≤ 1048576) (hc : b3_ prog g = true) (hp : ∀ x ∈ xs, ∀ h, aa_ prog g (.agg (ae_.cells x) :: caps) h (.val (.bool (p x)))) (h : List Row) :
 aa_ prog 98 [.list 0 4 (xs.map ae_.cells), .fn g [] caps] h (.val (.int .i64 (aN_ p xs 0))) := by
 refine ap_ mixed Tryz.func98 qb_ rfl (by simp only [all_cons, all_nil, iC_, kE_ _ _ hcf]; rfl) ?_ h
 simp (disch := omega) only [qo_, c98, go_sem, reduceCtorEq, Int.reduceNeg, ↓reduceIte]
 refine aE_ (fun n t h => ∃ k : Nat, t 0 = .list 0 4 (xs.map ae_.cells) ∧ t 1 = .fn g [] caps ∧ t 6 = .list 0 4 (xs.map ae_.cells) ∧ t 7 = .val (.int .i64 xs.length) ∧ t 8 = .val (.int .i64 k) ∧ n = xs.length - k ∧ k ≤ xs.length ∧ (aN_ p xs 0 = aN_ p (xs.drop k) k)) (xs.length) ?_ ?_
 ·exact ⟨0, rfl, rfl, rfl, rfl, rfl, rfl, Nat.zero_le _, rfl⟩
 ·rintro J hJ n t h ⟨k, t0, t1, t6, t7, k8, rfl, hk, hS⟩
  by_cases hlt : k < xs.length
  ·skip
   rw [db_ p xs k hlt] at hS
   simp (disch := omega) only [t0, t1, t7, k8, hlt, hc, ae_.cells, go_sem, reduceEqDiff, Nat.reduceAdd, reduceCtorEq, Int.reduceNeg, ↓reduceIte]
   repeat' (first
    | exact af_ _ _
    | exact ⟨xs.length - (k + 1), by omega, hJ _ _ _ ⟨k + 1, by simp [upd, t0], by simp [upd, t1], by simp [upd, t6], by simp [upd, t7], by simp [upd], rfl, by omega, by rw [hS]; simp [*]⟩⟩
    | (refine an_ ?_; rw [hS]; simp [*]; done)
    | (refine an_ ?_; rw [hS, b6_ _ _ _ (by omega)])
    | simp (disch := omega) only [k8, go_sem, reduceEqDiff, Int.reduceNeg, ↓reduceIte]
    | (refine aa_.call (hp xs[k] (getElem_mem hlt) _) ?_)
    | (refine aa_.q (hp xs[k] (getElem_mem hlt) _) ?_)
    | ((first | (apply aX_; assumption) | (apply aY_; assumption) | (apply a6_; assumption) | (apply a5_; assumption)); intro hb; try simp only [hb])
    | ((first | apply aw_ | apply ay_) <;> intro hb <;> (try simp only [hb]) <;> (first | have hp := bl_ hb | have hp := bk_ hb | have hp := bj_ hb | have hp := bm_ hb | skip)))
  ·skip
   simp (disch := omega) only [t7, k8, hlt, go_sem, Int.reduceNeg, ↓reduceIte]
   repeat' (first
    | exact af_ _ _
    | (refine an_ ?_; rw [hS]; simp [*]; done)
    | (refine an_ ?_; rw [hS, b6_ _ _ _ (by omega)])
    | simp (disch := omega) only [t0, t1, t6, t7, k8, go_sem, reduceEqDiff, Nat.reduceAdd, reduceLeDiff, reduceCtorEq, Int.reduceLT, Int.reduceLE, Int.reduceNeg, Int.reduceSub, Int.reduceAdd, Int.reduceToNat, ↓reduceIte]
    | (refine aa_.call (hp xs[k] (getElem_mem hlt) _) ?_)
    | (refine aa_.q (hp xs[k] (getElem_mem hlt) _) ?_)
    | ((first | (apply aX_; assumption) | (apply aY_; assumption) | (apply a6_; assumption) | (apply a5_; assumption)); intro hb; try simp only [hb])
    | ((first | apply aw_ | apply ay_) <;> intro hb <;> (try simp only [hb]) <;> (first | have hp := bl_ hb | have hp := bk_ hb | have hp := bj_ hb | have hp := bm_ hb | skip)))
def xK_ : LC :=
 .q [.o [.bx 2 64 0, .f 3], .o [.fa 4 0 2, .ln 5 4, .ln 6 1, .bb 7 .eql false 5 6, .m 3 7], .ret]
def tc_ : LF := ⟨2, 8, xK_, [.tmp 3]⟩
theorem wy_ : aA_ prog Tryz.f119 tc_ := ak_
theorem gY_ (a : ae_) (j : Int)  (h : List Row) : aa_ prog 119 [.agg (ae_.cells a), .iptr [.val (.int .i64 j)]] h (.val (.bool (decide (a.Job = j)))) := by
 refine ap_ mixed Tryz.func119 wy_ rfl rfl ?_ h
 simp (disch := omega) only [tc_, xK_, ae_.cells, go_sem, reduceEqDiff, Nat.reduceAdd, ↓reduceIte]
 repeat' (first
  | exact af_ _ _
  | simp (disch := omega) only [go_sem, reduceEqDiff, Nat.reduceAdd, reduceLeDiff, reduceCtorEq, Int.reduceLT, Int.reduceLE, Int.reduceNeg, Int.reduceSub, Int.reduceAdd, Int.reduceToNat, ↓reduceIte]
  | ((first | (apply aX_; assumption) | (apply aY_; assumption) | (apply a6_; assumption) | (apply a5_; assumption)); intro hb; try simp only [hb])
  | ((first | apply aw_ | apply ay_) <;> intro hb <;> (try simp only [hb]) <;> (first | have hp := bl_ hb | have hp := bk_ hb | have hp := bj_ hb | have hp := bm_ hb | skip)))
def c79 : LC :=
 .q [.o [.bx 3 2 1, .ki 4 0], .o [.m 5 0, .nc 6 5, .fa 7 1 6, .ln 8 7, .s 9 (.mkFunc 119 [] [.tmp 3]), .c2 10 98 8 9, .m 4 10], .ret]
def u4_ : LF := ⟨2, 11, c79, [.tmp 4]⟩
theorem yA_ : aA_ prog Tryz.f79 u4_ := ak_
theorem h3_ (x : ab_) (j : Int) (hx : x.Asks.length ≤ 1048576) (h : List Row) : aa_ prog 79 [.iptr (ab_.cells x), .val (.int .i64 j)] h (.val (.int .i64 (a2_ x j))) := by
 refine ap_ mixed Tryz.func79 yA_ rfl rfl ?_ h
 have hc : ∀ (H : List Row) (l : Nat) (E : Tag), H[l]? = some ⟨E, 1, [[.val (.int .i64 j)]]⟩ → aa_ prog 98 [.list 0 4 (x.Asks.map ae_.cells), .fn 119 [] [.ptr l 1 0 0]] H (.val (.int .i64 (a2_ x j))) := by
  intro H l E hl
  exact l8_ (n := 3) rfl (fun h => fX_ x.Asks (fun a => decide (a.Job = j)) 119 [.iptr [.val (.int .i64 j)]] rfl hx (by kernel_rfl) (fun a _ h => gY_ a j h) h) (fd_ rfl (e4_ (n9_ rfl (e4_ (h6_ hl rfl (Nat.succ_pos _))))))
 simp (disch := omega) only [u4_, c79, ab_.cells, go_sem, reduceEqDiff, Nat.reduceAdd, reduceLeDiff, reduceCtorEq, ↓reduceIte]
 refine aa_.call (hc _ 0 _ rfl) ?_
 simp (disch := omega) only [go_sem, ↓reduceIte]
 exact af_ _ _
def wA_ : LC :=
 .q [.o [.bx 4 74 0, .f 5], .o [.fa 6 0 4, .ln 7 6, .ln 8 1, .bb 9 .eql false 7 8, .m 10 9, .gf 11 10 true 2 4, .gn 12 10 true 11, .gf 13 10 true 3 4, .gn 14 10 true 13, .gn 15 10 true 2, .gn 16 10 true 3, .g 17 10 true
 (.call 118 [.tmp 12, .tmp 14, .tmp 15, .tmp 16]), .pf 18 10 17, .m 5 18], .ret]
def tF_ : LF := ⟨4, 19, wA_, [.tmp 5]⟩
theorem wF_ : aA_ prog Tryz.f148 tF_ := ak_
theorem hj_ (a : ac_) (j : Int) (nm : ByteArray) (s : List ByteArray) (ha : ac_.sz a ≤ 1048576) (hs : s.length ≤ 1048576) (h : List Row) : aa_ prog 148 [.agg (ac_.cells a), .iptr [.val (.int .i64 j)], .iptr [.val (.string nm)], .iptr [.list 0 1 (s.map ax_)]] h (.val (.bool (kG_ j nm s a))) := by
 refine ap_ mixed Tryz.func148 wF_ rfl rfl ?_ h
 simp (disch := omega) only [tF_, wA_, ac_.cells, go_sem, reduceEqDiff, Nat.reduceAdd, ↓reduceIte]
 repeat' (first
  | exact af_ _ _
  | (refine ah_ ?_; first | rfl | (simp only [kG_, *, Bool.true_and, Bool.false_and]; done) | (simp [kG_, *]; done))
  | simp (disch := omega) only [go_sem, reduceEqDiff, ↓reduceIte]
  | (refine aa_.call (ck_ _ _ _ _ (as_ (ac_.sz_Subs ha)) hs _) ?_)
  | (refine aa_.q (ck_ _ _ _ _ (as_ (ac_.sz_Subs ha)) hs _) ?_)
  | ((first | (apply bt_; assumption) | (apply bu_; assumption) | (apply bK_; assumption) | (apply bJ_; assumption)); intro hb; try simp only [hb])
  | ((first | (apply aX_; assumption) | (apply aY_; assumption) | (apply a6_; assumption) | (apply a5_; assumption)); intro hb; try simp only [hb])
  | ((first | apply aW_ | apply a3_ | apply aw_ | apply ay_) <;> intro hb <;> (try simp only [hb]) <;> (first | have hp := bl_ hb | have hp := bk_ hb | have hp := bj_ hb | have hp := bm_ hb | skip)))
def u8_ : LC :=
 .q [.o [.bx 5 2 1, .bx 6 9 2, .bx 7 41 3, .f 8], .o [.m 9 0, .nc 10 9, .fa 11 0 10, .ln 12 11, .s 13 (.mkFunc 148 [] [.tmp 5, .tmp 6, .tmp 7]), .c2 14 116 12 13, .m 8 14], .ret]
def tJ_ : LF := ⟨4, 15, u8_, [.tmp 8]⟩
theorem wz_ : aA_ prog Tryz.f120 tJ_ := ak_
theorem iP_ (x : ab_) (j : Int) (nm : ByteArray) (s : List ByteArray) (hx : ab_.sz x ≤ 1048576) (hs : s.length ≤ 1048576) (h : List Row) : aa_ prog 120 [.iptr (ab_.cells x), .val (.int .i64 j), .val (.string nm), .list 0 1 (s.map ax_)] h (.val (.bool (ed_ x j nm s))) := by
 refine ap_ mixed Tryz.func120 wz_ rfl rfl ?_ h
 have hlen := as_ (ab_.sz_Held hx)
 have hmH : ∀ a ∈ x.Held, ac_.sz a ≤ 1048576 := fun a ha => bV_ (ab_.sz_Held hx) ha
 have hc : ∀ (H : List Row), H = [⟨2, 1, [[.val (.int .i64 j)]]⟩, ⟨9, 1, [[.val (.string nm)]]⟩, ⟨41, 1, [[.list 0 1 (s.map ax_)]]⟩] → aa_ prog 116 [.list 0 4 (x.Held.map ac_.cells), .fn 148 [] [.ptr 0 1 0 0, .ptr 1 1 0 0, .ptr 2 1 0 0]] H (.val (.bool (ed_ x j nm s))) := by
  rintro H rfl
  exact l8_ (n := 3) rfl (fun h => da_ x.Held (kG_ j nm s) 148 [.iptr [.val (.int .i64 j)], .iptr [.val (.string nm)], .iptr [.list 0 1 (s.map ax_)]] rfl hlen (by kernel_rfl) (fun a ha h => hj_ a j nm s (hmH a ha) hs h) h) (fd_ rfl (e4_ (n9_ rfl (fd_ (h6_ rfl rfl (Nat.succ_pos _)) (fd_ (h6_ rfl rfl (Nat.succ_pos _)) (e4_ (h6_ rfl rfl (Nat.succ_pos _))))))))
 simp (disch := omega) only [tJ_, u8_, ab_.cells, go_sem, reduceEqDiff, Nat.reduceAdd, reduceCtorEq, ↓reduceIte]
 refine aa_.call (hc _ rfl) ?_
 simp (disch := omega) only [go_sem, ↓reduceIte]
 exact af_ _ _
def gS_ (x : ab_) (j : Int) : List ae_ := if 0 ≤ a2_ x j then x.Asks.take (a2_ x j).toNat else x.Asks
def cf_ (x : ab_) (j : Int) (nm : ByteArray) (s : List ByteArray) (l : List ae_) : List Int := (l.filter (b0_ x j nm s)).map ae_.Job
theorem kg_ (x : ab_) (j : Int) (nm : ByteArray) (s : List ByteArray) (h : ¬ 0 ≤ a2_ x j) : ∀ (l : List ae_) (k : Nat), cp_ x j nm s l k = cf_ x j nm s l
 | [], k => rfl
 | a :: r, k => by
  have hl : hQ_ x j k = false := by simp [hQ_, h]
  simp only [cp_, hl, Bool.not_false, Bool.and_true, cf_, filter_cons]
  rw [kg_ x j nm s h r (k + 1)]
  split <;> simp [cf_]
theorem jQ_ (x : ab_) (j : Int) (nm : ByteArray) (s : List ByteArray) (h : 0 ≤ a2_ x j) : ∀ (l : List ae_) (k : Nat), a2_ x j < (k : Int) → cp_ x j nm s l k = []
 | [], k, _ => rfl
 | a :: r, k, hk => by
  have hl : hQ_ x j k = true := by simp [hQ_, h, hk]
  simp only [cp_, hl, Bool.not_true, Bool.and_false, Bool.false_eq_true, if_false]
  exact jQ_ x j nm s h r (k + 1) (by omega)
theorem jl_ (x : ab_) (j : Int) (nm : ByteArray) (s : List ByteArray) (h : 0 ≤ a2_ x j) : ∀ (l : List ae_) (k n : Nat), k + n = (a2_ x j).toNat → (∀ hn : n < l.length, (l[n]'hn).Job = j) → cp_ x j nm s l k = cf_ x j nm s (l.take n)
 | [], k, n, _, _ => by simp [cp_, cf_]
 | a :: r, k, 0, hk, hj => by
  have hja : a.Job = j := hj (by simp)
  have : b0_ x j nm s a = false := by simp [b0_, hja]
  simp only [cp_, this, Bool.false_and, Bool.false_eq_true, if_false]
  rw [jQ_ x j nm s h r (k + 1) (by omega)]; rfl
 | a :: r, k, n + 1, hk, hj => by
  have hl : hQ_ x j k = false := by
   simp only [hQ_, Bool.and_eq_false_iff, decide_eq_false_iff_not]; right; omega
  simp only [cp_, hl, Bool.not_false, Bool.and_true, take_succ_cons, cf_, filter_cons]
  rw [jl_ x j nm s h r (k + 1) n (by omega) (fun hn => by have := hj (by simpa using hn); simpa using this)]
  split <;> simp [cf_]
theorem mt_ (x : ab_) (j : Int) (h : 0 ≤ a2_ x j) : ∃ hn : (a2_ x j).toNat < x.Asks.length, (x.Asks[(a2_ x j).toNat]'hn).Job = j := by
 rcases hf_ (fun a : ae_ => decide (a.Job = j)) x.Asks 0 with ⟨h1, _⟩ | ⟨i, hi, h1, h2⟩
 ·unfold a2_ at h; rw [h1] at h; simp at h
 ·have e : a2_ x j = (i : Int) := by unfold a2_; rw [h1]; simp
  have e2 : (a2_ x j).toNat = i := by rw [e]; simp
  have hp := find?_some h2
  refine ⟨by omega, ?_⟩
  simp only [e2]
  simpa using hp
theorem no_ (x : ab_) (j : Int) (nm : ByteArray) (s : List ByteArray) : f4_ x j nm s = cW_ j nm s x.Held ++ cf_ x j nm s (gS_ x j) := by
 unfold f4_ gS_
 congr 1
 by_cases h : 0 ≤ a2_ x j
 ·rw [if_pos h]
  obtain ⟨hn, hj⟩ := mt_ x j h
  exact jl_ x j nm s h x.Asks 0 _ (by simp) (fun _ => hj)
 ·rw [if_neg h]; exact kg_ x j nm s h x.Asks 0
theorem ms_ (x : ab_) (j : Int) (nm : ByteArray) (s : List ByteArray) (l : List ae_) (k : Nat) (h : k < l.length) : cf_ x j nm s (l.drop k) = if b0_ x j nm s l[k] then l[k].Job :: cf_ x j nm s (l.drop (k + 1)) else cf_ x j nm s (l.drop (k + 1)) := by
 rw [drop_eq_getElem_cons h]
 simp only [cf_, filter_cons]
 split <;> simp
theorem lJ_ (x : ab_) (j : Int) (nm : ByteArray) (s : List ByteArray) (l : List ae_) (k : Nat) (h : l.length ≤ k) : cf_ x j nm s (l.drop k) = [] := by
 rw [drop_eq_nil_of_le h]; rfl
def gN_ (x : ab_) (j : Int) (nm : ByteArray) (s : List ByteArray) : List Int := bC_ (dE_ (f4_ x j nm s))
theorem m3_ (x : ab_) (k : Nat) : ((x.Asks.map ae_.cells).take k).drop 0 = (x.Asks.take k).map ae_.cells := by rw [drop_zero, map_take]
def c80 : LC :=
 .q [.o [.nl 8], .o [.s 16 (.buildSlice 2 1 (.int .i64 0) 0 []), .m 9 16], .q [.o [.m 17 0, .nc 18 17, .fa 19 0 18, .ln 20 19, .ll 21 20, .ki 22 0], .block 0 (.loop (.q [.o [.bb 23 .lss false 22 21], .k 23 .skip (.exit
 0), .block 1 (.q [.o [.ia 24 4 20 22, .ld 25 4 24, .s 11 (.alloc 74 (.agg #[.int .i64 0, .int .i64 0, .string ⟨#[]⟩, .slice none 0 0])), .st 4 11 25], .o [.fa 26 0 11, .ln 27 26, .m 28 1, .bb 29 .neq false 27 28, .m 30
 29, .gf 31 30 true 2 11, .gn 32 30 true 31, .gf 33 30 true 3 11, .gn 34 30 true 33, .gm 35 30 true 2, .gm 36 30 true 3, .g 37 30 true (.call 118 [.tmp 32, .tmp 34, .tmp 35, .tmp 36]), .pf 38 30 37], .k 38 (.o [.m 39 9,
 .fa 40 0 11, .ln 41 40, .s 42 (.buildSlice 2 1 (.int .i64 0) 1 [(0, .tmp 41)]), .ap 43 2 1 8 39 42, .m 9 43]) .skip]), .o [.bk 44 .add false 22 1, .m 22 44]]))], .o [.m 45 0, .nc 46 45, .fa 47 1 46, .ln 48 47, .m 12 48],
 .q [.o [.m 49 0, .m 50 1, .c2 51 79 49 50, .m 13 51], .o [.m 52 13, .bk 53 .geq false 52 0], .k 53 (.o [.m 54 0, .nc 55 54, .fa 56 1 55, .ln 57 56, .m 58 13, .s 59 (.sliceSl 4 (.tmp 57) none (some (.tmp 58))), .m 12 59])
 .skip], .q [.o [.m 60 12, .ll 61 60, .ki 62 0], .block 2 (.loop (.q [.o [.bb 63 .lss false 62 61], .k 63 .skip (.exit 2), .block 3 (.q [.o [.ia 64 4 60 62, .ld 65 4 64, .s 15 (.alloc 64 (.agg #[.int .i64 0, .int .i64 0,
 .string ⟨#[]⟩, .slice none 0 0])), .st 4 15 65], .o [.fa 66 0 15, .ln 67 66, .m 68 1, .bb 69 .neq false 67 68, .m 70 69, .gf 71 70 true 2 15, .gn 72 70 true 71, .gf 73 70 true 3 15, .gn 74 70 true 73, .gm 75 70 true 2,
 .gm 76 70 true 3, .g 77 70 true (.call 118 [.tmp 72, .tmp 74, .tmp 75, .tmp 76]), .pf 78 70 77, .m 79 78, .gm 80 79 true 0, .gm 81 79 true 1, .gf 82 79 true 2 15, .gn 83 79 true 82, .gf 84 79 true 3 15, .gn 85 79 true
 84, .g 86 79 true (.call 120 [.tmp 80, .tmp 81, .tmp 83, .tmp 85]), .gu 87 79 true 86, .pf 88 79 87], .k 88 (.o [.m 89 9, .fa 90 0 15, .ln 91 90, .s 92 (.buildSlice 2 1 (.int .i64 0) 1 [(0, .tmp 91)]), .ap 93 2 1 8 89
 92, .m 9 93]) .skip]), .o [.bk 94 .add false 62 1, .m 62 94]]))], .o [.m 95 9, .c1 96 45 95], .o [.m 97 9, .c1 98 121 97, .m 8 98], .ret]
def vg_ : LF := ⟨4, 99, c80, [.tmp 8]⟩
theorem x7_ : aA_ Tryz.prog Tryz.f80 vg_ := ak_
theorem gZ_ (x : ab_) (j : Int) (nm : ByteArray) (s : List ByteArray) (hx : ab_.sz x ≤ 1048576) (hs : s.length ≤ 1048576) : br_ Tryz.prog 80 [.iptr (ab_.cells x), .val (.int .i64 j), .val (.string nm), .list 0 1 (s.map ax_)] (.list 0 1 (av_ (gN_ x j nm s))) (fun a => ∃ (k : Nat) (b : AV), True ∧ a = b.shift k) := by
 refine mA_ mixed Tryz.func80 x7_ rfl rfl ?_
 have hlen := as_ (ab_.sz_Held hx)
 have hlenA := as_ (ab_.sz_Asks hx)
 have hmH : ∀ a ∈ x.Held, ac_.sz a ≤ 1048576 := fun a ha => bV_ (ab_.sz_Held hx) ha
 have hmA : ∀ a ∈ x.Asks, ae_.sz a ≤ 1048576 := fun a ha => bV_ (ab_.sz_Asks hx) ha
 have hcells : ab_.cells x = [.list 0 4 (x.Held.map ac_.cells), .list 0 4 (x.Asks.map ae_.cells)] := rfl
 simp (disch := omega) only [vg_, c80, hcells, go_sem, Nat.reduceAdd, reduceCtorEq, ↓reduceIte]
 refine aE_ (fun m t h => ∃ (k : Nat) (out : List Int) (rest : List Row), t 0 = .iptr [.list 0 4 (x.Held.map ac_.cells), .list 0 4 (x.Asks.map ae_.cells)] ∧ t 1 = .val (.int .i64 j) ∧ t 2 = .val (.string nm) ∧ t 3 = .list 0 1 (s.map ax_) ∧ t 9 = .own 0 out.length ∧ t 20 = .list 0 4 (x.Held.map ac_.cells) ∧ t 21 = .val (.int .i64 x.Held.length) ∧ t 22 = .val (.int .i64 k) ∧ h = ⟨.ty 2, 1, av_ out⟩ :: rest ∧ m = x.Held.length - k ∧ k ≤ x.Held.length ∧ out.length ≤ k ∧ cW_ j nm s x.Held = out ++ cW_ j nm s (x.Held.drop k)) x.Held.length ⟨0, [], [], rfl, rfl, rfl, rfl, rfl, rfl, rfl, rfl, rfl, rfl, Nat.zero_le _, by simp, rfl⟩ ?_
 rintro J hJ m t h ⟨k, out, rest, t0, t1, t2, t3, t9, t20, t21, t22, rfl, rfl, hk, ho, hS⟩
 by_cases hlt : k < x.Held.length
 ·rw [kl_ _ _ _ _ _ hlt] at hS
  have hck := hmH _ (getElem_mem hlt)
  have next : ∀ (t' : Nat → AV) (out' : List Int) (rest' : List Row), t' 0 = t 0 → t' 1 = t 1 → t' 2 = t 2 → t' 3 = t 3 → t' 9 = .own 0 out'.length → t' 20 = t 20 → t' 21 = t 21 → t' 22 = .val (.int .i64 (k + 1 : Nat)) → out'.length ≤ k + 1 → cW_ j nm s x.Held = out' ++ cW_ j nm s (x.Held.drop (k + 1)) → ∃ m, m < x.Held.length - k ∧ J m t' (⟨.ty 2, 1, av_ out'⟩ :: rest') :=
   fun t' out' rest' e0 e1 e2 e3 e9 e20 e21 e22 e e' => ⟨x.Held.length - (k + 1), by omega, hJ _ _ _ ⟨k + 1, out', rest', e0.trans t0, e1.trans t1, e2.trans t2, e3.trans t3, e9, e20.trans t20, e21.trans t21, e22, rfl, rfl, by omega, e, e'⟩⟩
  by_cases hj : x.Held[k].Job = j
  ·have hj' : (x.Held[k].Job = j) = True := eq_true hj
   simp (disch := omega) only [t1, t20, t21, t22, hlt, bY_, hj', go_sem, reduceEqDiff, Nat.reduceAdd, ↓reduceIte]
   refine next _ out _ (by simp [upd]) (by simp [upd]) (by simp [upd]) (by simp [upd]) (by simp [upd, t9]) (by simp [upd]) (by simp [upd]) (by simp [upd]) (by omega) ?_
   rw [hS, show eA_ j nm s x.Held[k] = false by simp [eA_, hj]]; rfl
  ·have hj' : (x.Held[k].Job = j) = False := eq_false hj
   simp (disch := omega) only [t1, t2, t3, t20, t21, t22, hlt, bY_, hj', go_sem, reduceEqDiff, Nat.reduceAdd, ↓reduceIte]
   refine aa_.call (ck_ _ _ _ _ (as_ (ac_.sz_Subs hck)) hs _) ?_
   by_cases hw : way x.Held[k].Name x.Held[k].Subs nm s = true
   ·simp (disch := omega) only [t9, t22, hw, go_sem, reduceEqDiff, reduceLeDiff, ↓reduceIte]
    refine ⟨by omega, by omega, ?_⟩
    refine next _ (out ++ [x.Held[k].Job]) _ (by simp [upd]) (by simp [upd]) (by simp [upd]) (by simp [upd]) (by simp [upd]) (by simp [upd]) (by simp [upd]) (by simp [upd]) (by simp; omega) ?_
    rw [hS, show eA_ j nm s x.Held[k] = true by simp [eA_, hj, hw]]; simp
   ·have hw' : way x.Held[k].Name x.Held[k].Subs nm s = false := by simpa using hw
    simp (disch := omega) only [t22, hw', go_sem, reduceEqDiff, ↓reduceIte]
    refine next _ out _ (by simp [upd]) (by simp [upd]) (by simp [upd]) (by simp [upd]) (by simp [upd, t9]) (by simp [upd]) (by simp [upd]) (by simp [upd]) (by omega) ?_
    rw [hS, show eA_ j nm s x.Held[k] = false by simp [eA_, hw']]; rfl
 ·rw [js_ _ _ _ _ _ (by omega), append_nil] at hS
  have hblk : ∀ (n' : ByteArray) (s' : List ByteArray) (H : List Row), s'.length ≤ 1048576 → aa_ Tryz.prog 120 [.iptr [.list 0 4 (x.Held.map ac_.cells), .list 0 4 (x.Asks.map ae_.cells)], .val (.int .i64 j), .val (.string n'), .list 0 1 (s'.map ax_)] H (.val (.bool (ed_ x j n' s'))) := fun n' s' H hs' => iP_ x j n' s' hx hs' H
  simp (disch := omega) only [t0, t1, t21, t22, hlt, go_sem, reduceEqDiff, Nat.reduceAdd, reduceLeDiff, reduceCtorEq, ↓reduceIte]
  refine aa_.call (h3_ x j hlenA _) ?_
  by_cases hown : 0 ≤ a2_ x j
  ·obtain ⟨hn, _⟩ := mt_ x j hown
   have hle : (a2_ x j).toNat ≤ x.Asks.length := by omega
   have hlei : a2_ x j ≤ (x.Asks.length : Int) := by omega
   have he : gS_ x j = x.Asks.take (a2_ x j).toNat := by unfold gS_; rw [if_pos hown]
   have hel : (x.Asks.take (a2_ x j).toNat).length = (a2_ x j).toNat := by rw [length_take]; omega
   simp (disch := omega) only [t0, hown, hle, m3_, go_sem, reduceEqDiff, Nat.reduceAdd, reduceLeDiff, reduceCtorEq, ↓reduceIte]
   have hmA' : ∀ a ∈ x.Asks.take (a2_ x j).toNat, ae_.sz a ≤ 1048576 := fun a ha => hmA a (mem_of_mem_take ha)
   refine aE_ (fun m t h => ∃ (k : Nat) (out' : List Int) (rest : List Row), t 0 = .iptr [.list 0 4 (x.Held.map ac_.cells), .list 0 4 (x.Asks.map ae_.cells)] ∧ t 1 = .val (.int .i64 j) ∧ t 2 = .val (.string nm) ∧ t 3 = .list 0 1 (s.map ax_) ∧ t 9 = .own 0 out'.length ∧ t 60 = .list 0 4 ((x.Asks.take (a2_ x j).toNat).map ae_.cells) ∧ t 61 = .val (.int .i64 (x.Asks.take (a2_ x j).toNat).length) ∧ t 62 = .val (.int .i64 k) ∧ h = ⟨.ty 2, 1, av_ out'⟩ :: rest ∧ m = (x.Asks.take (a2_ x j).toNat).length - k ∧ k ≤ (x.Asks.take (a2_ x j).toNat).length ∧ out'.length ≤ 1048576 + k ∧ out ++ cf_ x j nm s (x.Asks.take (a2_ x j).toNat) = out' ++ cf_ x j nm s ((x.Asks.take (a2_ x j).toNat).drop k)) (x.Asks.take (a2_ x j).toNat).length ⟨0, out, rest, by simp [upd, t0], by simp [upd, t1], by simp [upd, t2], by simp [upd, t3], by simp [upd, t9], by simp [upd], by simp [upd], by simp [upd], rfl, rfl, Nat.zero_le _, by omega, rfl⟩ ?_
   clear t0 t1 t2 t3 t9 t20 t21 t22 hJ
   rintro J2 hJ m t h ⟨k, out', rest, t0, t1, t2, t3, t9, t60, t61, t62, rfl, rfl, hk, ho', hS'⟩
   by_cases hlt : k < (x.Asks.take (a2_ x j).toNat).length
   ·rw [ms_ _ _ _ _ _ _ hlt] at hS'
    have hck := hmA' _ (getElem_mem hlt)
    have next : ∀ (t' : Nat → AV) (o : List Int) (rest' : List Row), t' 0 = t 0 → t' 1 = t 1 → t' 2 = t 2 → t' 3 = t 3 → t' 9 = .own 0 o.length → t' 60 = t 60 → t' 61 = t 61 → t' 62 = .val (.int .i64 (k + 1 : Nat)) → o.length ≤ 1048576 + (k + 1) → out ++ cf_ x j nm s (x.Asks.take (a2_ x j).toNat) = o ++ cf_ x j nm s ((x.Asks.take (a2_ x j).toNat).drop (k + 1)) → ∃ m, m < (x.Asks.take (a2_ x j).toNat).length - k ∧ J2 m t' (⟨.ty 2, 1, av_ o⟩ :: rest') :=
     fun t' o rest' e0 e1 e2 e3 e9 e20 e21 e22 e e' => ⟨(x.Asks.take (a2_ x j).toNat).length - (k + 1), by omega, hJ _ _ _ ⟨k + 1, o, rest', e0.trans t0, e1.trans t1, e2.trans t2, e3.trans t3, e9, e20.trans t60, e21.trans t61, e22, rfl, rfl, by omega, e, e'⟩⟩
    by_cases hj : (x.Asks.take (a2_ x j).toNat)[k].Job = j
    ·have hj' : ((x.Asks.take (a2_ x j).toNat)[k].Job = j) = True := eq_true hj
     simp (disch := omega) only [t1, t60, t61, t62, hlt, dG_, hj', go_sem, reduceEqDiff, Nat.reduceAdd, ↓reduceIte]
     refine next _ out' _ (by simp [upd]) (by simp [upd]) (by simp [upd]) (by simp [upd]) (by simp [upd, t9]) (by simp [upd]) (by simp [upd]) (by simp [upd]) (by omega) ?_
     rw [hS', show b0_ x j nm s (x.Asks.take (a2_ x j).toNat)[k] = false by simp [b0_, hj, -getElem_take]]; rfl
    ·have hj' : ((x.Asks.take (a2_ x j).toNat)[k].Job = j) = False := eq_false hj
     simp (disch := omega) only [t1, t2, t3, t60, t61, t62, hlt, dG_, hj', go_sem, reduceEqDiff, Nat.reduceAdd, ↓reduceIte]
     refine aa_.call (ck_ _ _ _ _ (as_ (ae_.sz_Subs hck)) hs _) ?_
     by_cases hw : way (x.Asks.take (a2_ x j).toNat)[k].Name (x.Asks.take (a2_ x j).toNat)[k].Subs nm s = true
     ·simp (disch := omega) only [t0, t1, hw, go_sem, reduceEqDiff, reduceCtorEq, ↓reduceIte]
      refine aa_.call (hblk _ _ _ (as_ (ae_.sz_Subs hck))) ?_
      by_cases hb : ed_ x j (x.Asks.take (a2_ x j).toNat)[k].Name (x.Asks.take (a2_ x j).toNat)[k].Subs = true
      ·simp (disch := omega) only [t62, hb, go_sem, reduceEqDiff, ↓reduceIte]
       refine next _ out' _ (by simp [upd]) (by simp [upd]) (by simp [upd]) (by simp [upd]) (by simp [upd, t9]) (by simp [upd]) (by simp [upd]) (by simp [upd]) (by omega) ?_
       rw [hS', show b0_ x j nm s (x.Asks.take (a2_ x j).toNat)[k] = false by simp [b0_, hb, -getElem_take]]; rfl
      ·have hb' : ed_ x j (x.Asks.take (a2_ x j).toNat)[k].Name (x.Asks.take (a2_ x j).toNat)[k].Subs = false := by simpa using hb
       simp (disch := omega) only [t9, t62, hb', go_sem, reduceEqDiff, reduceLeDiff, ↓reduceIte]
       refine ⟨by omega, by omega, ?_⟩
       refine next _ (out' ++ [(x.Asks.take (a2_ x j).toNat)[k].Job]) _ (by simp [upd]) (by simp [upd]) (by simp [upd]) (by simp [upd]) (by simp [upd]) (by simp [upd]) (by simp [upd]) (by simp [upd]) (by simp; omega) ?_
       rw [hS', show b0_ x j nm s (x.Asks.take (a2_ x j).toNat)[k] = true by simp [b0_, hj, hw, hb', -getElem_take]]; simp [-getElem_take]
     ·have hw' : way (x.Asks.take (a2_ x j).toNat)[k].Name (x.Asks.take (a2_ x j).toNat)[k].Subs nm s = false := by simpa using hw
      simp (disch := omega) only [t62, hw', go_sem, reduceEqDiff, ↓reduceIte]
      refine next _ out' _ (by simp [upd]) (by simp [upd]) (by simp [upd]) (by simp [upd]) (by simp [upd, t9]) (by simp [upd]) (by simp [upd]) (by simp [upd]) (by omega) ?_
      rw [hS', show b0_ x j nm s (x.Asks.take (a2_ x j).toNat)[k] = false by simp [b0_, hw', -getElem_take]]; rfl
   ·rw [lJ_ _ _ _ _ _ _ (by omega), append_nil] at hS'
    have hfr : f4_ x j nm s = out' := by rw [no_, he, hS, hS']
    simp (disch := omega) only [t9, t61, t62, hlt, go_sem, reduceEqDiff, ↓reduceIte]
    refine fx_ rfl (by omega) ?_
    have hsl : (dE_ out').length = out'.length := gl_ out'
    simp (disch := omega) only [t9, go_sem, reduceEqDiff, ↓reduceIte]
    rw [← hsl]
    refine eK_ (by omega) rfl ?_
    intro a r' hr hfb
    simp (disch := omega) only [go_sem, ↓reduceIte]
    rw [gN_, hfr]
    first | exact hc_ hfb (by simp) | exact ⟨hc_ hfb (by simp), trivial⟩
  ·simp (disch := omega) only [hown, go_sem, reduceEqDiff, ↓reduceIte]
   have hmA' := hmA
   have he : gS_ x j = x.Asks := by unfold gS_; rw [if_neg hown]
   refine aE_ (fun m t h => ∃ (k : Nat) (out' : List Int) (rest : List Row), t 0 = .iptr [.list 0 4 (x.Held.map ac_.cells), .list 0 4 (x.Asks.map ae_.cells)] ∧ t 1 = .val (.int .i64 j) ∧ t 2 = .val (.string nm) ∧ t 3 = .list 0 1 (s.map ax_) ∧ t 9 = .own 0 out'.length ∧ t 60 = .list 0 4 ((x.Asks).map ae_.cells) ∧ t 61 = .val (.int .i64 (x.Asks).length) ∧ t 62 = .val (.int .i64 k) ∧ h = ⟨.ty 2, 1, av_ out'⟩ :: rest ∧ m = (x.Asks).length - k ∧ k ≤ (x.Asks).length ∧ out'.length ≤ 1048576 + k ∧ out ++ cf_ x j nm s (x.Asks) = out' ++ cf_ x j nm s ((x.Asks).drop k)) (x.Asks).length ⟨0, out, rest, by simp [upd, t0], by simp [upd, t1], by simp [upd, t2], by simp [upd, t3], by simp [upd, t9], by simp [upd], by simp [upd], by simp [upd], rfl, rfl, Nat.zero_le _, by omega, rfl⟩ ?_
   clear t0 t1 t2 t3 t9 t20 t21 t22 hJ
   rintro J2 hJ m t h ⟨k, out', rest, t0, t1, t2, t3, t9, t60, t61, t62, rfl, rfl, hk, ho', hS'⟩
   by_cases hlt : k < (x.Asks).length
   ·rw [ms_ _ _ _ _ _ _ hlt] at hS'
    have hck := hmA' _ (getElem_mem hlt)
    have next : ∀ (t' : Nat → AV) (o : List Int) (rest' : List Row), t' 0 = t 0 → t' 1 = t 1 → t' 2 = t 2 → t' 3 = t 3 → t' 9 = .own 0 o.length → t' 60 = t 60 → t' 61 = t 61 → t' 62 = .val (.int .i64 (k + 1 : Nat)) → o.length ≤ 1048576 + (k + 1) → out ++ cf_ x j nm s (x.Asks) = o ++ cf_ x j nm s ((x.Asks).drop (k + 1)) → ∃ m, m < (x.Asks).length - k ∧ J2 m t' (⟨.ty 2, 1, av_ o⟩ :: rest') :=
     fun t' o rest' e0 e1 e2 e3 e9 e20 e21 e22 e e' => ⟨(x.Asks).length - (k + 1), by omega, hJ _ _ _ ⟨k + 1, o, rest', e0.trans t0, e1.trans t1, e2.trans t2, e3.trans t3, e9, e20.trans t60, e21.trans t61, e22, rfl, rfl, by omega, e, e'⟩⟩
    by_cases hj : (x.Asks)[k].Job = j
    ·have hj' : ((x.Asks)[k].Job = j) = True := eq_true hj
     simp (disch := omega) only [t1, t60, t61, t62, hlt, dG_, hj', go_sem, reduceEqDiff, Nat.reduceAdd, ↓reduceIte]
     refine next _ out' _ (by simp [upd]) (by simp [upd]) (by simp [upd]) (by simp [upd]) (by simp [upd, t9]) (by simp [upd]) (by simp [upd]) (by simp [upd]) (by omega) ?_
     rw [hS', show b0_ x j nm s (x.Asks)[k] = false by simp [b0_, hj, -getElem_take]]; rfl
    ·have hj' : ((x.Asks)[k].Job = j) = False := eq_false hj
     simp (disch := omega) only [t1, t2, t3, t60, t61, t62, hlt, dG_, hj', go_sem, reduceEqDiff, Nat.reduceAdd, ↓reduceIte]
     refine aa_.call (ck_ _ _ _ _ (as_ (ae_.sz_Subs hck)) hs _) ?_
     by_cases hw : way (x.Asks)[k].Name (x.Asks)[k].Subs nm s = true
     ·simp (disch := omega) only [t0, t1, hw, go_sem, reduceEqDiff, reduceCtorEq, ↓reduceIte]
      refine aa_.call (hblk _ _ _ (as_ (ae_.sz_Subs hck))) ?_
      by_cases hb : ed_ x j (x.Asks)[k].Name (x.Asks)[k].Subs = true
      ·simp (disch := omega) only [t62, hb, go_sem, reduceEqDiff, ↓reduceIte]
       refine next _ out' _ (by simp [upd]) (by simp [upd]) (by simp [upd]) (by simp [upd]) (by simp [upd, t9]) (by simp [upd]) (by simp [upd]) (by simp [upd]) (by omega) ?_
       rw [hS', show b0_ x j nm s (x.Asks)[k] = false by simp [b0_, hb, -getElem_take]]; rfl
      ·have hb' : ed_ x j (x.Asks)[k].Name (x.Asks)[k].Subs = false := by simpa using hb
       simp (disch := omega) only [t9, t62, hb', go_sem, reduceEqDiff, reduceLeDiff, ↓reduceIte]
       refine ⟨by omega, by omega, ?_⟩
       refine next _ (out' ++ [(x.Asks)[k].Job]) _ (by simp [upd]) (by simp [upd]) (by simp [upd]) (by simp [upd]) (by simp [upd]) (by simp [upd]) (by simp [upd]) (by simp [upd]) (by simp; omega) ?_
       rw [hS', show b0_ x j nm s (x.Asks)[k] = true by simp [b0_, hj, hw, hb', -getElem_take]]; simp [-getElem_take]
     ·have hw' : way (x.Asks)[k].Name (x.Asks)[k].Subs nm s = false := by simpa using hw
      simp (disch := omega) only [t62, hw', go_sem, reduceEqDiff, ↓reduceIte]
      refine next _ out' _ (by simp [upd]) (by simp [upd]) (by simp [upd]) (by simp [upd]) (by simp [upd, t9]) (by simp [upd]) (by simp [upd]) (by simp [upd]) (by omega) ?_
      rw [hS', show b0_ x j nm s (x.Asks)[k] = false by simp [b0_, hw', -getElem_take]]; rfl
   ·rw [lJ_ _ _ _ _ _ _ (by omega), append_nil] at hS'
    have hfr : f4_ x j nm s = out' := by rw [no_, he, hS, hS']
    simp (disch := omega) only [t9, t61, t62, hlt, go_sem, reduceEqDiff, ↓reduceIte]
    refine fx_ rfl (by omega) ?_
    have hsl : (dE_ out').length = out'.length := gl_ out'
    simp (disch := omega) only [t9, go_sem, reduceEqDiff, ↓reduceIte]
    rw [← hsl]
    refine eK_ (by omega) rfl ?_
    intro a r' hr hfb
    simp (disch := omega) only [go_sem, ↓reduceIte]
    rw [gN_, hfr]
    first | exact hc_ hfb (by simp) | exact ⟨hc_ hfb (by simp), trivial⟩
theorem hT_ (x : ab_) (j : Int) (nm : ByteArray) (s : List ByteArray) (hx : ab_.sz x ≤ 1048576) (hs : s.length ≤ 1048576) (h : List Row) : aa_ Tryz.prog 80 [.iptr (ab_.cells x), .val (.int .i64 j), .val (.string nm), .list 0 1 (s.map ax_)] h (.list 0 1 (av_ (gN_ x j nm s))) := (gZ_ x j nm s hx hs).pure rfl h
def fc_ (x : ab_) (j : Int) (nm : ByteArray) (s : List ByteArray) : Bool := decide (f4_ x j nm s = [])
theorem oj_ (x : ab_) (j : Int) (nm : ByteArray) (s : List ByteArray) : decide ((gN_ x j nm s).length = 0) = fc_ x j nm s := by
 unfold fc_ gN_
 rw [decide_eq_decide]
 have e : (dE_ (f4_ x j nm s) = []) ↔ (f4_ x j nm s = []) := by
  rw [← length_eq_zero_iff, gl_, length_eq_zero_iff]
 rw [← e, ← nH_, ← length_eq_zero_iff]
theorem iX_ : ∀ (l : List Int) (out : List Int), out ≠ [] → l.foldl cU_ out ≠ []
 | [], out, h => h
 | a :: r, out, h => iX_ r _ (pe_ out a)
theorem m8_ (x : ab_) (j : Int) (nm : ByteArray) (s : List ByteArray) : decide ((de_ x j nm s).length = 0) = fc_ x j nm s := by
 unfold fc_ de_
 rw [decide_eq_decide]
 cases h : f4_ x j nm s with
 | nil => simp
 | cons a r =>
  have h2 : (a :: r).foldl cU_ [] ≠ [] := iX_ r _ (pe_ [] a)
  rw [length_eq_zero_iff]
  exact ⟨fun e => absurd e h2, fun e => by cases e⟩
def wl_ : LC :=
 .q [.o [.f 8], .o [.m 9 0, .m 10 1, .m 11 2, .m 12 3, .s 13 (.call 80 [.tmp 9, .tmp 10, .tmp 11, .tmp 12]), .ll 14 13, .bk 15 .eql false 14 0, .m 8 15], .ret]
def s7_ : LF := ⟨4, 16, wl_, [.tmp 8]⟩
theorem vC_ : aA_ Tryz.prog Tryz.f100 s7_ := ak_
theorem j2_ (x : ab_) (j : Int) (nm : ByteArray) (s : List ByteArray) (hx : ab_.sz x ≤ 1048576) (hs : s.length ≤ 1048576) (h : List Row) : aa_ Tryz.prog 100 [.iptr (ab_.cells x), .val (.int .i64 j), .val (.string nm), .list 0 1 (s.map ax_)] h (.val (.bool (fc_ x j nm s))) := by
 refine ap_ mixed Tryz.func100 vC_ rfl rfl ?_ h
 simp (disch := omega) only [s7_, wl_, ab_.cells, go_sem, Nat.reduceEqDiff, reduceCtorEq, ↓reduceIte]
 refine aa_.call (hT_ x j nm s hx hs _) ?_
 simp (disch := omega) only [bz_, go_sem, ↓reduceIte]
 exact ah_ (oj_ x j nm s)
structure bP_ (x : ab_) : Prop where
 sorted : x.Held.Pairwise (fun a b => aR_ a b = true)
 held : ∀ a ∈ x.Held, dn_ a = true
 len : x.Held.length ≤ 16
 asks : ∀ a ∈ x.Asks, (bh_ a.Job 1 4 && cD_ a.Name a.Subs) = true
 alen : x.Asks.length ≤ 4
theorem lQ_ : ∀ (r : List ae_) (pre : List Int), cO_ pre r = true → ∀ a ∈ r, (bh_ a.Job 1 4 && cD_ a.Name a.Subs) = true
 | [], _, _, a, h => by simp at h
 | b :: r, pre, h, a, ha => by
  rw [cO_] at h
  simp only [Bool.and_eq_true] at h
  rcases mem_cons.1 ha with q | q
  ·subst q
   simp only [Bool.and_eq_true]
   exact ⟨h.1.1.1.1, h.1.2⟩
  ·exact lQ_ r _ h.2 a q
theorem bP_.of {x : ab_} (h : cl_ x = true) : bP_ x := by
 have h2 := h
 simp only [cl_, eu_, Bool.and_eq_true, Bool.not_eq_true', decide_eq_false_iff_not] at h2
 have h3 := io_ x.Asks [] h2.1 nodup_nil (by simp)
 exact ⟨nS_ h, rd_ h, by omega, lQ_ _ _ h2.1, by simpa using h3⟩
theorem qA_ {s : ByteArray} (h : cQ_ s = true) : s.size ≤ 8 := by
 simp only [cQ_, Bool.and_eq_true, decide_eq_true_eq] at h
 omega
theorem iI_ {α : Type} (f : α → Nat) (b : Nat) : ∀ xs : List α, (∀ x ∈ xs, f x ≤ b) → cv_ f xs ≤ b * xs.length
 | [], _ => by simp [cv_]
 | x :: xs, h => by
  have h1 := iI_ f b xs fun y hy => h y (by simp [hy])
  have h2 := h x (by simp)
  simp only [cv_, lc_, Nat.mul_add] at h1 ⊢
  omega
theorem ix_ {n : ByteArray} {s : List ByteArray} (h : cD_ n s = true) : n.size + ar_ ByteArray.size s ≤ 108 := by
 simp only [cD_, Bool.and_eq_true] at h
 have h1 := qA_ h.1
 have h2 := h.2
 simp only [ej_, Bool.and_eq_true, decide_eq_true_eq, all_eq_true] at h2
 have h3 := iI_ ByteArray.size 24 s fun y hy => by
  have := h2.2 y hy
  simp only [dT_, Bool.and_eq_true, decide_eq_true_eq] at this
  omega
 simp only [ar_]
 omega
theorem bP_.sz {x : ab_} (h : bP_ x) : ab_.sz x ≤ 10000 := by
 have h1 := iI_ ac_.sz 108 x.Held fun a ha => by
  have := h.held a ha
  simp only [dn_, Bool.and_eq_true] at this
  exact ix_ this.2
 have h2 := iI_ ae_.sz 108 x.Asks fun a ha => by
  have := h.asks a ha
  simp only [Bool.and_eq_true] at this
  exact ix_ this.2
 have h3 := h.len
 have h4 := h.alen
 show ar_ ac_.sz x.Held + ar_ ae_.sz x.Asks ≤ 10000
 simp only [ar_]
 omega
theorem bP_.big {x : ab_} (h : bP_ x) : ab_.sz x ≤ 1048576 := Nat.le_trans h.sz (by decide)
def bg_ (hs : List ac_) (j : Int) (n : ByteArray) (s : List ByteArray) : Nat := (hs.takeWhile fun a => aR_ a ⟨j, 0, n, s⟩).length
theorem hV_ {α : Type} (p : α → Bool) : ∀ (l : List α) (hmono : ∀ (i j : Nat) (hi : i < l.length) (hj : j < l.length), i ≤ j → p l[j] = true → p l[i] = true) (i : Nat) (h : i < l.length), p l[i] = true ↔ i < (l.takeWhile p).length
 | [], _, i, h => by simp at h
 | a :: l, hm, i, h => by
  by_cases q : p a = true
  ·rw [takeWhile_cons_of_pos q, lc_]
   cases i with
   | zero => simpa using q
   | succ i =>
    have := hV_ p l (fun i j hi hj hij hp => hm (i + 1) (j + 1) (by simpa using hi) (by simpa using hj) (by omega) (by simpa using hp)) i (by simpa using h)
    simpa using this
  ·rw [takeWhile_cons_of_neg q]
   constructor
   ·intro hp
    exact absurd (hm 0 i (by simp) h (Nat.zero_le _) hp) q
   ·intro hp; simp at hp
theorem d3_ {hs : List ac_} (hp : hs.Pairwise (fun a b => aR_ a b = true)) (j : Int) (n : ByteArray) (s : List ByteArray) (i : Nat) (h : i < hs.length) : aR_ hs[i] ⟨j, 0, n, s⟩ = true ↔ i < bg_ hs j n s := by
 unfold bg_
 refine hV_ (fun a => aR_ a ⟨j, 0, n, s⟩) hs (fun i k hi hk hik q => ?_) i h
 rcases Nat.lt_or_ge i k with z | z
 ·exact ha_ (pairwise_iff_getElem.1 hp i k hi hk z) q
 ·have : i = k := by omega
  subst this; exact q
theorem ht_ (hs : List ac_) (j : Int) (n : ByteArray) (s : List ByteArray) : bg_ hs j n s ≤ hs.length := by
 unfold bg_
 exact (takeWhile_prefix _).length_le
def bD_ (hs : List ac_) (j : Int) (n : ByteArray) (s : List ByteArray) : Bool := hs.any (cw_ j n s)
theorem gT_ {hs : List ac_} (hp : hs.Pairwise (fun a b => aR_ a b = true)) {j : Int} {n : ByteArray} {s : List ByteArray} {i : Nat} (hi : i < hs.length) (hk : cw_ j n s hs[i] = true) : i = bg_ hs j n s := by
 have hs' := (fe_ j n s hs[i] 0).1 hk
 have h1 : ¬ (i < bg_ hs j n s) := fun q => by
  have := (d3_ hp j n s i hi).2 q
  rw [i6_ _ _ hs'] at this; cases this
 rcases Nat.lt_or_ge (bg_ hs j n s) i with q | q
 ·exfalso
  have hlt := pairwise_iff_getElem.1 hp (bg_ hs j n s) i (by omega) hi q
  rw [g7_ hs'] at hlt
  have := (d3_ hp j n s _ (by omega)).1 hlt
  omega
 ·omega
theorem jC_ {hs : List ac_} (hp : hs.Pairwise (fun a b => aR_ a b = true)) (j : Int) (n : ByteArray) (s : List ByteArray) : bD_ hs j n s = if h : bg_ hs j n s < hs.length then decide (cR_ hs[bg_ hs j n s] ⟨j, 0, n, s⟩ = 0) else false := by
 unfold bD_
 by_cases hm : bg_ hs j n s < hs.length
 ·rw [dif_pos hm]
  by_cases q : cR_ hs[bg_ hs j n s] ⟨j, 0, n, s⟩ = 0
  ·rw [decide_eq_true q, any_eq_true]
   exact ⟨_, getElem_mem hm, (fe_ j n s _ 0).2 ((fr_ _ _).1 q)⟩
  ·rw [decide_eq_false q, Bool.eq_false_iff]
   intro z
   obtain ⟨a, ha, hk⟩ := any_eq_true.1 z
   obtain ⟨i, hi, rfl⟩ := mem_iff_getElem.1 ha
   have := gT_ hp hi hk
   subst this
   exact q ((fr_ _ _).2 ((fe_ j n s _ 0).1 hk))
 ·rw [dif_neg hm, Bool.eq_false_iff]
  intro z
  obtain ⟨a, ha, hk⟩ := any_eq_true.1 z
  obtain ⟨i, hi, rfl⟩ := mem_iff_getElem.1 ha
  have := gT_ hp hi hk
  omega
theorem gG_ {hs : List ac_} (hp : hs.Pairwise (fun a b => aR_ a b = true)) {j : Int} {n : ByteArray} {s : List ByteArray} (h : bD_ hs j n s = true) : ∃ hm : bg_ hs j n s < hs.length, cw_ j n s hs[bg_ hs j n s] = true := by
 rw [jC_ hp] at h
 split at h
 ·rename_i hm
  exact ⟨hm, (fe_ j n s _ 0).2 ((fr_ _ _).1 (by simpa using h))⟩
 ·cases h
theorem sA_ {hs : List ac_} (hp : hs.Pairwise (fun a b => aR_ a b = true)) {j : Int} {n : ByteArray} {s : List ByteArray} (h : bD_ hs j n s = false) {i : Nat} (hi : i < hs.length) (hk : bg_ hs j n s ≤ i) : aR_ ⟨j, 0, n, s⟩ hs[i] = true := by
 have h1 : ¬ aR_ hs[i] ⟨j, 0, n, s⟩ = true := fun q => by have := (d3_ hp j n s i hi).1 q; omega
 have h2 : ¬ sameKey hs[i] ⟨j, 0, n, s⟩ := fun q => by
  have : bD_ hs j n s = true := any_eq_true.2 ⟨_, getElem_mem hi, (fe_ j n s _ 0).2 q⟩
  rw [h] at this; cases this
 rcases jh_ _ _ h2 with q | q
 ·exact absurd q h1
 ·exact q
def f3_ (d : Int) (a : ac_) : ac_ := { a with Count := a.Count + d }
theorem rK_ (d : Int) (a : ac_) : sameKey (f3_ d a) a := ⟨rfl, rfl, rfl⟩
def d5_ (hs : List ac_) (j : Int) (n : ByteArray) (s : List ByteArray) : List ac_ :=
 if bD_ hs j n s = true then hs.modify (bg_ hs j n s) (f3_ 1) else hs.take (bg_ hs j n s) ++ ⟨j, 1, n, s⟩ :: hs.drop (bg_ hs j n s)
def dv_ (hs : List ac_) (j : Int) (n : ByteArray) (s : List ByteArray) : Bool := match hs.find? (cw_ j n s) with | some a => decide (a.Count < 9) | none => decide (hs.length < 16)
theorem ja_ {a b x : ac_} (h : sameKey a b) : aR_ a x = aR_ b x := by
 obtain ⟨h1, h2, h3⟩ := h
 unfold aR_ cR_; rw [h1, h2, h3]
theorem pl_ (j c : Int) (n : ByteArray) (s : List ByteArray) : sameKey ⟨j, c, n, s⟩ ⟨j, 0, n, s⟩ := ⟨rfl, rfl, rfl⟩
theorem gV_ {hs : List ac_} (hp : hs.Pairwise (fun a b => aR_ a b = true)) {j : Int} {n : ByteArray} {s : List ByteArray} (h : bD_ hs j n s = true) : ∃ hm : bg_ hs j n s < hs.length, hs.find? (cw_ j n s) = some hs[bg_ hs j n s] := by
 obtain ⟨hm, hk⟩ := gG_ hp h
 refine ⟨hm, ?_⟩
 rcases hf_ (cw_ j n s) hs 0 with ⟨_, h2⟩ | ⟨i, hi, _, h2⟩
 ·exact absurd hk (by simpa using find?_eq_none.1 h2 _ (getElem_mem hm))
 ·have := gT_ hp hi (find?_some h2)
  subst this
  exact h2
theorem pn_ {hs : List ac_} {j : Int} {n : ByteArray} {s : List ByteArray} (h : bD_ hs j n s = false) : hs.find? (cw_ j n s) = none := by
 rw [find?_eq_none]
 intro a ha hk
 have : bD_ hs j n s = true := any_eq_true.2 ⟨a, ha, hk⟩
 rw [h] at this; cases this
theorem nc_ {hs : List ac_} (hp : hs.Pairwise (fun a b => aR_ a b = true)) (p : Nat) (d : Int) : (hs.modify p (f3_ d)).Pairwise (fun a b => aR_ a b = true) := by
 rw [pairwise_iff_getElem] at hp ⊢
 intro i k hi hk hik
 have hi' : i < hs.length := by simpa using hi
 have hk' : k < hs.length := by simpa using hk
 have e : ∀ (q : Nat) (hq : q < (hs.modify p (f3_ d)).length) (hq' : q < hs.length), sameKey (hs.modify p (f3_ d))[q] hs[q] := by
  intro q hq hq'
  rw [getElem_modify]
  split
  ·exact rK_ _ _
  ·exact ⟨rfl, rfl, rfl⟩
 rw [g7_ (e k hk hk'), ja_ (e i hi hi')]
 exact hp i k hi' hk' hik
theorem sW_ {x : ab_} (h : bP_ x) {j : Int} {n : ByteArray} {s : List ByteArray} (hj : bh_ j 1 4 = true) (ht : cD_ n s = true) (hr : dv_ x.Held j n s = true) : bP_ { x with Held := d5_ x.Held j n s } := by
 have hp := h.sorted
 unfold d5_
 split
 ·rename_i hk
  obtain ⟨hm, hf⟩ := gV_ hp hk
  have hc : x.Held[bg_ x.Held j n s].Count < 9 := by
   unfold dv_ at hr; rw [hf] at hr; simpa using hr
  refine ⟨nc_ hp _ _, fun a ha => ?_, by simpa using h.len, h.asks, h.alen⟩
  obtain ⟨i, hi, rfl⟩ := mem_iff_getElem.1 ha
  have hi' : i < x.Held.length := by simpa using hi
  have h0 := h.held _ (getElem_mem hi')
  rw [getElem_modify]
  split
  ·rename_i e
   subst e
   simp only [dn_, bh_, f3_, Bool.and_eq_true, decide_eq_true_eq] at h0 ⊢
   exact ⟨⟨⟨decide_eq_true h0.1.1.1, decide_eq_true h0.1.1.2⟩, decide_eq_true (by omega), decide_eq_true (by omega)⟩, h0.2⟩
  ·exact h0
 ·rename_i hk
  have hk : bD_ x.Held j n s = false := by simpa using hk
  have hl : x.Held.length < 16 := by
   unfold dv_ at hr; rw [pn_ hk] at hr; simpa using hr
  have hle := ht_ x.Held j n s
  refine ⟨?_, fun a ha => ?_, ?_, h.asks, h.alen⟩
  ·rw [pairwise_append]
   refine ⟨hp.sublist (take_sublist _ _), pairwise_cons.2 ⟨fun b hb => ?_, hp.sublist (drop_sublist _ _)⟩, fun a ha b hb => ?_⟩
   ·obtain ⟨i, hi, rfl⟩ := mem_iff_getElem.1 hb
    rw [length_drop] at hi
    rw [getElem_drop, ja_ (pl_ j 1 n s)]
    exact sA_ hp hk (by omega) (by omega)
   ·obtain ⟨i, hi, rfl⟩ := mem_iff_getElem.1 ha
    rw [length_take] at hi
    rw [getElem_take]
    rcases mem_cons.1 hb with q | q
    ·subst q
     rw [g7_ (pl_ j 1 n s)]
     exact (d3_ hp j n s i (by omega)).2 (by omega)
    ·obtain ⟨k, hk2, rfl⟩ := mem_iff_getElem.1 q
     rw [length_drop] at hk2
     rw [getElem_drop]
     exact pairwise_iff_getElem.1 hp i _ (by omega) (by omega) (by omega)
  ·rcases mem_append.1 ha with q | q
   ·exact h.held a (mem_of_mem_take q)
   ·rcases mem_cons.1 q with q | q
    ·subst q
     simp only [dn_, hj, ht, Bool.and_true, Bool.true_and]
     rfl
    ·exact h.held a (mem_of_mem_drop q)
  ·simp only [la_, length_take, lc_, length_drop]
   omega
def cT_ (j : Int) (n : ByteArray) (s : List ByteArray) (a : ac_) : ac_ := if cw_ j n s a = true then f3_ 1 a else a
def cn_ (j : Int) (n : ByteArray) (s : List ByteArray) : List ac_ → Bool → List ac_
 | [], done => if done = true then [] else [⟨j, 1, n, s⟩]
 | a :: r, done => if (!done && aR_ ⟨j, 0, n, s⟩ a) = true then ⟨j, 1, n, s⟩ :: cT_ j n s a :: cn_ j n s r true else cT_ j n s a :: cn_ j n s r done
theorem fn_ (j : Int) (n : ByteArray) (s : List ByteArray) : ∀ hs : List ac_, cn_ j n s hs true = hs.map (cT_ j n s)
 | [] => rfl
 | a :: r => by rw [cn_, fn_ j n s r]; rfl
theorem ke_ (j : Int) (n : ByteArray) (s : List ByteArray) : ∀ hs : List ac_, bD_ hs j n s = false → cn_ j n s hs false = (hs.takeWhile fun a => aR_ a ⟨j, 0, n, s⟩) ++ ⟨j, 1, n, s⟩ :: (hs.dropWhile fun a => aR_ a ⟨j, 0, n, s⟩)
 | [], _ => rfl
 | a :: r, h => by
  have hk : cw_ j n s a = false ∧ bD_ r j n s = false := by
   unfold bD_ at h ⊢
   rw [any_cons, Bool.or_eq_false_iff] at h
   exact h
  have hb : cT_ j n s a = a := by rw [cT_, if_neg (by rw [hk.1]; simp)]
  have hne : ¬ sameKey a ⟨j, 0, n, s⟩ := fun q => by
   have := (fe_ j n s a 0).2 q
   rw [hk.1] at this; cases this
  rw [cn_, hb]
  by_cases q : aR_ ⟨j, 0, n, s⟩ a = true
  ·have q2 : aR_ a ⟨j, 0, n, s⟩ = false := by
    cases z : aR_ a ⟨j, 0, n, s⟩ with
    | false => rfl
    | true => have := ha_ q z; rw [i6_ _ _ ⟨rfl, rfl, rfl⟩] at this; cases this
   rw [if_pos (by rw [q]; rfl), fn_, takeWhile_cons_of_neg (by rw [q2]; simp), dropWhile_cons_of_neg (by rw [q2]; simp), nil_append]
   have : r.map (cT_ j n s) = r := by
    conv => rhs; rw [← map_id r]
    refine map_congr_left fun b hb => ?_
    have : cw_ j n s b = false := by
     cases z : cw_ j n s b with
     | false => rfl
     | true => have := any_eq_true.2 ⟨b, hb, z⟩; unfold bD_ at hk; rw [hk.2] at this; cases this
    rw [cT_, if_neg (by rw [this]; simp)]; rfl
   rw [this]
  ·have q2 : aR_ a ⟨j, 0, n, s⟩ = true := (jh_ _ _ hne).resolve_right q
   rw [if_neg (by simpa using q), ke_ j n s r hk.2, takeWhile_cons_of_pos (p := fun a => aR_ a ⟨j, 0, n, s⟩) q2, dropWhile_cons_of_pos (p := fun a => aR_ a ⟨j, 0, n, s⟩) q2]; rfl
theorem k3_ {hs : List ac_} (hp : hs.Pairwise (fun a b => aR_ a b = true)) (j : Int) (n : ByteArray) (s : List ByteArray) : cn_ j n s hs (bD_ hs j n s) = d5_ hs j n s := by
 unfold d5_
 split
 ·rename_i h
  rw [h, fn_]
  apply ext_getElem (by simp)
  intro i h1 h2
  have hi : i < hs.length := by simpa using h1
  rw [getElem_map, getElem_modify, cT_]
  by_cases q : cw_ j n s hs[i] = true
  ·rw [if_pos q, if_pos (gT_ hp hi q).symm]
  ·rw [if_neg q, if_neg]
   intro e
   subst e
   exact q (gG_ hp h).2
 ·rename_i h
  have h : bD_ hs j n s = false := by simpa using h
  rw [h, ke_ j n s hs h]
  have e1 : hs.take (bg_ hs j n s) = hs.takeWhile fun a => aR_ a ⟨j, 0, n, s⟩ := (prefix_iff_eq_take.1 (takeWhile_prefix _)).symm
  have e2 : hs.drop (bg_ hs j n s) = hs.dropWhile fun a => aR_ a ⟨j, 0, n, s⟩ := by
   conv => lhs; arg 2; rw [← takeWhile_append_dropWhile (p := fun a => aR_ a ⟨j, 0, n, s⟩) (l := hs)]
   exact drop_left' rfl
  rw [e1, e2]
def dJ_ (x : ab_) (a : ae_) : Bool := fc_ x a.Job a.Name a.Subs
def bH_ (x : ab_) (k : Nat) (a : ae_) : ab_ := { Held := if dv_ x.Held a.Job a.Name a.Subs = true then d5_ x.Held a.Job a.Name a.Subs else x.Held, Asks := x.Asks.eraseIdx k }
def cP_ : Nat → ab_ → ab_ × List Int
 | 0, x => (x, [])
 | f + 1, x => match x.Asks[(aN_ (dJ_ x) x.Asks 0).toNat]? with
  | some a => if aN_ (dJ_ x) x.Asks 0 < 0 then (x, []) else ((cP_ f (bH_ x (aN_ (dJ_ x) x.Asks 0).toNat a)).1, a.Job :: (cP_ f (bH_ x (aN_ (dJ_ x) x.Asks 0).toNat a)).2)
  | none => (x, [])
def cd_ (x : ab_) : ab_ × List Int := cP_ x.Asks.length x
theorem fk_ {x : ab_} (h : bP_ x) {k : Nat} {a : ae_} (ha : x.Asks[k]? = some a) : bP_ (bH_ x k a) := by
 have h1 := h.asks a (mem_of_getElem? ha)
 rw [Bool.and_eq_true] at h1
 have h0 : bP_ { Held := x.Held, Asks := x.Asks.eraseIdx k } := ⟨h.sorted, h.held, h.len, fun b hb => h.asks b (mem_of_mem_eraseIdx hb), Nat.le_trans (eraseIdx_sublist _ _).length_le h.alen⟩
 unfold bH_
 split
 ·rename_i hr
  exact sW_ h0 h1.1 h1.2 hr
 ·exact h0
theorem kd_ {x : ab_} {k : Nat} {a : ae_} (ha : x.Asks[k]? = some a) : (bH_ x k a).Asks.length + 1 = x.Asks.length := by
 have hk := (List.getElem?_eq_some_iff.1 ha).1
 show (x.Asks.eraseIdx k).length + 1 = _
 rw [length_eraseIdx, if_pos hk]; omega
theorem kX_ : ∀ (f : Nat) {x : ab_}, bP_ x → bP_ (cP_ f x).1
 | 0, x, h => h
 | f + 1, x, h => by
  unfold cP_
  split
  ·rename_i a ha
   split
   ·exact h
   ·exact kX_ f (fk_ h ha)
  ·exact h
def nk_ (P : Program) (f : FuncId) (args : List AV) (h : List Row) (r : AV) : Prop := ∀ K : AV → List Row → Prop, (∀ H', aK_ h H' → K r H') → callSem P f args h K
theorem aa_.quiet {P : Program} {f : FuncId} {args : List AV} {h : List Row} {r : AV} (hc : aa_ P f args h r) : nk_ P f args h r := fun K hk => hc K (hk h (aK_.refl h))
theorem o3_ {α : Type} {ts : List α} {k m : Nat} (h1 : k < m) (h2 : k < ts.length) : ts[k] ∈ ts.take m := by
 have h3 : k < (ts.take m).length := by rw [length_take]; omega
 have e : (ts.take m)[k] = ts[k] := getElem_take
 rw [← e]; exact getElem_mem h3
theorem nq_ {α : Type} (a b : List α) (x : α) : (a ++ x :: b).Perm ([x] ++ (a ++ b)) := perm_middle
section
variable {lo E sz l m : Nat} {H H' : List Row} {ts : List Tr} {t' : Tr}
structure nh_ (lo : Nat) (H : List Row) (sz l lv : Nat) (ts : List Tr) (t' : Tr) : Prop where
 wide : t'.c.length = sz ∧ t'.c.all AV.cell = true
 tree : ∃ k, au_ (Own H k) t'.c t'.d t'.f
 one : t'.f.Nodup
 off : ∀ x ∈ t'.f, x ∉ aF_ l ts ∧ x ≠ lv ∧ lo ≤ x ∧ x < H.length
theorem bb_.insert (s : bb_ lo H E sz l m ts) {lv : Nat} (e : nh_ lo H sz l lv ts t') {l' m' : Nat} {A B : List Tr} (hAB : (A ++ B).Sublist ts) (hrow : H'[l']? = some ⟨.ty E, sz, (A ++ t' :: B).map Tr.c⟩) (hle : m' ≤ (A ++ t' :: B).length)
 (hk : ∀ x, x < H.length → x ≠ l → H'[x]? = H[x]?) (hl : l' = l ∨ H.length ≤ l') (hlen : H.length ≤ H'.length) : bb_ lo H' E sz l' m' (A ++ t' :: B) := by
 obtain ⟨k, ht⟩ := e.tree
 have hkf : ∀ x ∈ t'.f, H'[x]? = H[x]? := fun x hx => by
  obtain ⟨h1, h2, h3, h4⟩ := e.off x hx
  exact hk x h4 (fun q => h1 (by rw [q]; exact mem_cons_self))
 refine s.renew hrow hle (nq_ A B t') hAB (fun t q => ?_) ⟨k, fun t q => ?_⟩ ?_ (fun x hx => ?_) (fun x hx => ?_) hl hlen
 ·simp only [mem_singleton] at q; subst q; exact e.wide
 ·simp only [mem_singleton] at q; subst q
  exact au_.mono (fun a r g hg ho => ho.keep fun x hx => hkf x (hg x hx)) ht
 ·simp only [map_cons, map_nil, flatten_cons, flatten_nil, append_nil]; exact e.one
 ·simp only [map_cons, map_nil, flatten_cons, flatten_nil, append_nil] at hx
  obtain ⟨h1, h2, h3, h4⟩ := e.off x hx
  refine ⟨h1, fun q => ?_, h3, by omega⟩
  rcases hl with q2 | q2
  ·exact h1 (by rw [q, q2]; exact mem_cons_self)
  ·omega
 ·have h5 : x ≠ l := fun q => (nodup_cons.1 s.one).1 (q ▸ hx)
  exact hk x (s.lows x (mem_cons_of_mem _ hx)).2 h5
theorem oO_ {l' : Nat} {A B : List Tr} (hAB : (A ++ B).Sublist ts) (hl : l' = l ∨ H.length ≤ l') : ∀ x ∈ aF_ l' (A ++ t' :: B), x ∈ aF_ l ts ∨ x ∈ t'.f ∨ H.length ≤ x := by
 intro x hx
 have hsub : ∀ t ∈ A ++ B, t ∈ ts := fun t q => hAB.subset q
 simp only [aF_, map_append, map_cons, flatten_append, flatten_cons, mem_cons, mem_append] at hx
 have old : ∀ (C : List Tr), (∀ t ∈ C, t ∈ ts) → x ∈ (C.map Tr.f).flatten → x ∈ aF_ l ts := fun C hC q => by
  obtain ⟨f, q1, q2⟩ := mem_flatten.1 q
  obtain ⟨t, q3, rfl⟩ := mem_map.1 q1
  exact e1_ (hC t q3) q2
 rcases hx with q | q | q | q
 ·rcases hl with e | e
  ·left; rw [q, e]; exact mem_cons_self
  ·right; right; omega
 ·exact .inl (old A (fun t z => hsub t (mem_append_left _ z)) q)
 ·exact .inr (.inl q)
 ·exact .inl (old B (fun t z => hsub t (mem_append_right _ z)) q)
end
theorem nh_.of {lo a b sz l lv : Nat} {H : List Row} {ts : List Tr} {cs ds : List AV} (hF : aH_ a b H cs ds) (hd : ds.length = sz ∧ ∀ r ∈ ds, r.cell = true) (ha : ∀ y ∈ aF_ l ts, y < a) (hlo : lo ≤ a) (hv : b ≤ lv) (hb : b ≤ H.length) : ∃ f, nh_ lo H sz l lv ts ⟨cs, ds, f⟩ ∧ ∀ y ∈ f, a ≤ y := by
 obtain ⟨n, f, h1, h2, h3⟩ := hF
 obtain ⟨q1, q2⟩ := h1.cells_of hd.2
 exact ⟨f, ⟨⟨q1.trans hd.1, q2⟩, ⟨n, h1⟩, h2, fun x hx => by
  have := h3 x hx
  exact ⟨fun q => by have := ha x q; omega, by omega, by omega, by omega⟩⟩, fun y hy => (h3 y hy).1⟩
theorem o8_ {α : Type} {es : List α} {i m : Nat} (hi : i < m) : (List.take (m + 1 - (i + 1)) (List.drop i (List.take (m + 1) es))) = (es.take m).drop i := by
 rw [drop_take, drop_take, take_take]
 congr 1; omega
theorem sq_ {α : Type} {es : List α} {v : α} {i m N : Nat} (hN : es.length = N) (hi : i < m) (hm : m < N) :
 List.take i (List.take (i + 1) es ++ (List.take (m + 1 - (i + 1)) (List.drop i (List.take (m + 1) es)) ++ List.drop (i + 1 + min (min (m + 1) N - i) (m + 1 - (i + 1))) es)) ++
  (List.take (m + 1 - i) [v] ++ List.drop (i + min 1 (m + 1 - i)) (List.take (i + 1) es ++ (List.take (m + 1 - (i + 1)) (List.drop i (List.take (m + 1) es)) ++ List.drop (i + 1 + min (min (m + 1) N - i) (m + 1 - (i + 1))) es))) =
 es.take i ++ v :: ((es.take m).drop i ++ es.drop (m + 1)) := by
 have e1 : i + 1 + min (min (m + 1) N - i) (m + 1 - (i + 1)) = m + 1 := by omega
 have e2 : i + min 1 (m + 1 - i) = i + 1 := by omega
 have e3 : List.take (m + 1 - i) [v] = [v] := take_of_length_le (by simp; omega)
 have e4 : (List.take (i + 1) es).length = i + 1 := by rw [length_take]; omega
 rw [e1, e2, e3, o8_ hi, take_append_of_le_length (by omega), take_take, Nat.min_eq_left (by omega), drop_left' e4]
 rfl
theorem rF_ {α : Type} {es Z : List α} {v : α} {i cap : Nat} (hN : es.length = cap) (hi : i < cap) (hZ : Z.length = cap + 1 - i) :
 List.take (i + 1) (List.take i (List.take i es ++ Z) ++ (List.take (cap + 1 - i) [v] ++ List.drop (i + min 1 (cap + 1 - i)) (List.take i es ++ Z))) ++
  (List.take (cap + 1 - (i + 1)) (List.drop i (List.take cap es)) ++ List.drop (i + 1 + min (min cap cap - i) (cap + 1 - (i + 1))) (List.take i (List.take i es ++ Z) ++ (List.take (cap + 1 - i) [v] ++ List.drop (i + min 1 (cap + 1 - i)) (List.take i es ++ Z)))) =
 es.take i ++ v :: es.drop i := by
 have e0 : (List.take i es).length = i := by rw [length_take]; omega
 have e1 : i + 1 + min (min cap cap - i) (cap + 1 - (i + 1)) = cap + 1 := by omega
 have e2 : i + min 1 (cap + 1 - i) = i + 1 := by omega
 have e3 : List.take (cap + 1 - i) [v] = [v] := take_of_length_le (by simp; omega)
 have e4 : List.take cap es = es := take_of_length_le (by omega)
 have e5 : List.take (cap + 1 - (i + 1)) (List.drop i es) = es.drop i := take_of_length_le (by rw [length_drop]; omega)
 have e6 : List.take i (List.take i es ++ Z) = es.take i := take_left' e0
 have e7 : ∀ W : List α, List.take (i + 1) (List.take i es ++ ([v] ++ W)) = es.take i ++ [v] := fun W => by
  rw [← append_assoc]
  exact take_left' (by rw [la_, e0]; rfl)
 have e8 : List.drop (cap + 1) (List.take i es ++ ([v] ++ List.drop (i + 1) (List.take i es ++ Z))) = [] := drop_eq_nil_of_le (by simp only [la_, length_drop, length_take, lc_, ln_, hZ]; omega)
 rw [e1, e2, e3, e4, e5, e6, e7, e8, append_nil]
 simp
def nN_ : LC :=
 .q [.o [.nl 6], .o [.m 10 0, .m 11 1, .s 12 (.sliceSl 4 (.tmp 10) (some (.tmp 11)) none)], .o [.m 13 2, .ll 14 13, .m 7 14], .q [.o [.m 15 7, .bk 16 .eql false 15 0], .k 16 (.q [.o [.m 17 0, .m 6 17], .ret]) .skip], .o
 [.m 18 0, .ll 19 18, .m 8 19], .q [.o [.m 20 1, .m 21 8, .bb 22 .eql false 20 21], .k 22 (.q [.o [.m 23 0, .m 24 2, .ap 25 74 4 56 23 24, .m 6 25], .ret]) .skip], .q [.o [.m 26 8, .m 27 7, .bb 28 .add false 26 27, .m 29
 0, .s 30 (.capSl (.tmp 29)), .bb 31 .gtr false 28 30], .k 31 (.q [.o [.m 32 0, .m 33 1, .s 34 (.sliceSl 4 (.tmp 32) none (some (.tmp 33))), .m 35 8, .m 36 7, .bb 37 .add false 35 36, .m 38 1, .bb 39 .sub false 37 38, .s
 40 (.appendZ 74 4 56 (.agg #[.int .i64 0, .int .i64 0, .string ⟨#[]⟩, .slice none 0 0]) (.tmp 34) (.tmp 39)), .m 9 40], .o [.m 41 9, .m 42 1, .s 43 (.sliceSl 4 (.tmp 41) (some (.tmp 42)) none), .m 44 2, .s 45 (.copySl 4
 (.tmp 43) (.tmp 44))], .gops [.m 46 9, .m 47 1, .m 48 7, .bb 49 .add false 47 48, .s 50 (.sliceSl 4 (.tmp 46) (some (.tmp 49)) none), .m 51 0, .m 52 1, .s 53 (.sliceSl 4 (.tmp 51) (some (.tmp 52)) none)] [(.s 54 (.copySl
 4 (.tmp 50) (.tmp 53)), [])], .o [.m 55 9, .m 6 55], .ret]) .skip], .o [.m 56 0, .m 57 8, .m 58 7, .bb 59 .add false 57 58, .s 60 (.sliceSl 4 (.tmp 56) none (some (.tmp 59))), .m 0 60], .q [.o [.m 61 2, .m 62 0, .m 63 1,
 .m 64 7, .bb 65 .add false 63 64, .s 66 (.sliceSl 4 (.tmp 62) (some (.tmp 65)) none), .s 67 (.ovl (.tmp 61) (.tmp 66)), .nt 68 67], .k 68 (.q [.gops [.m 69 0, .m 70 1, .m 71 7, .bb 72 .add false 70 71, .s 73 (.sliceSl 4
 (.tmp 69) (some (.tmp 72)) none), .m 74 0, .m 75 1, .s 76 (.sliceSl 4 (.tmp 74) (some (.tmp 75)) none)] [(.s 77 (.copySl 4 (.tmp 73) (.tmp 76)), [])], .o [.m 78 0, .m 79 1, .s 80 (.sliceSl 4 (.tmp 78) (some (.tmp 79))
 none), .m 81 2, .s 82 (.copySl 4 (.tmp 80) (.tmp 81))], .o [.m 83 0, .m 6 83], .ret]) .skip], .o [.m 84 0, .m 85 8, .s 86 (.sliceSl 4 (.tmp 84) (some (.tmp 85)) none), .m 87 2, .s 88 (.copySl 4 (.tmp 86) (.tmp 87))], .o
 [.m 89 0, .m 90 1, .s 91 (.sliceSl 4 (.tmp 89) (some (.tmp 90)) none), .m 92 7, .c2 93 159 91 92], .o [.m 94 0, .m 6 94], .ret]
def k2_ : LF := ⟨3, 95, nN_, [.tmp 6]⟩
theorem qH_ : aA_ Tryz.prog Tryz.f136 k2_ := ak_
theorem qU_ (a b : Nat) : Nat.min a b = min a b := rfl
theorem q4_ {α : Type} {es : List α} {j : α} {n : Nat} (h : es.length = n) : (es ++ [j]).take n = es := by rw [← h, take_left']; rfl
theorem dK_ {l N m lv i : Nat} {H : List Row} {es : List (List AV)} {v : List AV} (hr : H[l]? = some ⟨.ty 74, 4, es⟩) (hN : es.length = N) (hm : m < N) (hi : i ≤ m) (hm2 : m ≤ 1048575) (hc : ∀ e ∈ es.take m, e.all AV.cell = true) (hv : H[lv]? = some ⟨.ty 74, 4, [v]⟩) (hvc : v.all AV.cell = true) (hlv : lv ≠ l)
 {K : AV → List Row → Prop} (hk : K (.sub l N 0 (m + 1)) (H.set l ⟨.ty 74, 4, es.take i ++ v :: ((es.take m).drop i ++ es.drop (m + 1))⟩)) : callSem Tryz.prog 136 [.sub l N 0 m, .val (.int .i64 i), .own lv 1] H K := by
 refine aS_ mixed Tryz.func136 qH_ (bs_ rfl ?_)
 have hll := (List.getElem?_eq_some_iff.1 hr).1
 have hvl := (List.getElem?_eq_some_iff.1 hv).1
 by_cases him : i = m
 ·subst him
  have e1 : (es.take i).drop i = [] := drop_eq_nil_of_le (by rw [length_take]; omega)
  rw [e1, nil_append] at hk
  have e2 : i + 1 ≤ N := hm
  simp (disch := (first | omega | (simp only [ls_, la_, lc_, ln_]; first | done | omega))) only [go_sem, reduceEqDiff, reduceLeDiff, reduceCtorEq, ↓reduceIte, k2_, nN_, hr, hv, hN, hvc, e2, Nat.sub_zero, Nat.zero_add]
  exact ⟨by omega, by omega, by omega, hk⟩
 ·have him' : ((i : Int) = (m : Int)) = False := eq_false (by omega)
  simp (disch := (first | omega | (simp only [ls_, la_, lc_, ln_]; first | done | omega))) only [go_sem, reduceEqDiff, reduceCtorEq, ↓reduceIte, k2_, nN_, hr, hv, hN, him', Nat.sub_zero, Nat.zero_add]
  intro cap hcap
  have hcf : ((cap : Int) < (m : Int) + ((1 : Nat) : Int)) = False := eq_false (by omega)
  have hm1 : m + 1 ≤ N := hm
  have htm : ((m : Int) + ((1 : Nat) : Int)).toNat = m + 1 := by omega
  have hti : ((i : Int) + ((1 : Nat) : Int)).toNat = i + 1 := by omega
  simp (disch := (first | omega | (simp only [ls_, la_, lc_, ln_]; first | done | omega))) only [ad_, aD_, go_sem, reduceEqDiff, reduceLeDiff, reduceCtorEq, ↓reduceIte, hcf, htm, hti, hr, hv, hN, hm1, Nat.sub_zero, Nat.zero_add, la_, length_take, length_drop, lc_, ln_, qU_, if_pos]
  refine ⟨hlv, hi, fun e he => ?_, by omega, by omega, fun e he => ?_, ?_⟩
  ·rw [o8_ (by omega)] at he
   exact hc e (mem_of_mem_drop he)
  ·have := mem_of_mem_take he
   simp only [mem_singleton] at this
   subst this; exact hvc
  ·rw [set_set]
   exact (congrArg (fun z => K (.sub l N 0 (m + 1)) (H.set l ⟨.ty 74, 4, z⟩)) (sq_ hN (by omega) hm)).mpr hk
theorem fU_ {l N lv i : Nat} {H : List Row} {es : List (List AV)} {v : List AV} (hr : H[l]? = some ⟨.full 74, 4, es⟩) (hN : es.length = N) (hi : i ≤ N) (hm2 : N ≤ 1048575) (hc : ∀ e ∈ es, e.all AV.cell = true) (hv : H[lv]? = some ⟨.ty 74, 4, [v]⟩) (hvc : v.all AV.cell = true) (hlv : lv ≠ l)
 {K : AV → List Row → Prop} (hk : K (.own H.length (N + 1)) (H ++ [⟨.ty 74, 4, es.take i ++ v :: es.drop i⟩])) : callSem Tryz.prog 136 [.sub l N 0 N, .val (.int .i64 i), .own lv 1] H K := by
 refine aS_ mixed Tryz.func136 qH_ (bs_ rfl ?_)
 have hll := (List.getElem?_eq_some_iff.1 hr).1
 have hvl := (List.getElem?_eq_some_iff.1 hv).1
 by_cases him : i = N
 ·subst him
  simp (disch := (first | omega | (simp only [ls_, la_, lc_, ln_]; first | done | omega))) only [go_sem, reduceEqDiff, reduceLeDiff, reduceCtorEq, ↓reduceIte, k2_, nN_, hr, hv, hN, hvc, Nat.sub_zero, Nat.zero_add]
  rw [← hN, take_length, drop_length] at *
  exact ⟨by omega, by omega, by omega, hk⟩
 ·have him' : ((i : Int) = (N : Int)) = False := eq_false (by omega)
  simp (disch := (first | omega | (simp only [ls_, la_, lc_, ln_]; first | done | omega))) only [go_sem, reduceEqDiff, reduceCtorEq, ↓reduceIte, k2_, nN_, hr, hv, hN, him', Nat.sub_zero, Nat.zero_add]
  intro cap hcap1 hcap
  subst hcap
  have hcf : ((cap : Int) < (cap : Int) + ((1 : Nat) : Int)) = True := eq_true (by omega)
  have htm : ((cap : Int) + ((1 : Nat) : Int) - (i : Int)).toNat = cap + 1 - i := by omega
  have hti : ((i : Int) + ((1 : Nat) : Int)).toNat = i + 1 := by omega
  simp (disch := (first | omega | (simp only [ls_, la_, lc_, ln_]; first | done | omega))) only [ag_, aG_, go_sem, reduceEqDiff, reduceCtorEq, ↓reduceIte, hcf, htm, hti, hr, hv, hN, Nat.sub_zero, Nat.zero_add, la_, length_take, length_drop, lc_, ln_, length_replicate, qU_, if_pos]
  have hn : i + (cap + 1 - i) = cap + 1 := by omega
  rw [hn]
  refine ⟨by omega, by omega, by omega, by omega, by omega, by omega, by omega, fun e he => ?_, by omega, by omega, fun e he => ?_, ?_⟩
  ·have := mem_of_mem_take he
   simp only [mem_singleton] at this
   subst this; exact hvc
  ·exact hc e (mem_of_mem_take (mem_of_mem_drop (mem_of_mem_take he)))
  ·refine (congrArg (fun z => K (.own H.length (cap + 1)) (H ++ [⟨.ty 74, 4, z⟩])) (rF_ hN (by omega) ?_)).mpr hk
   exact length_replicate
theorem gq_ {lo l m lv i a b : Nat} {H : List Row} {ts : List Tr} {cs ds : List AV} (s : bb_ lo H 74 4 l m ts) (hi : i ≤ m) (hm : m ≤ 1048575) (hv : H[lv]? = some ⟨.ty 74, 4, [cs]⟩) (hF : aH_ a b H cs ds) (hd : ds.length = 4 ∧ ∀ r ∈ ds, r.cell = true) (ha : ∀ y ∈ aF_ l ts, y < a) (hla : lo ≤ a) (hab : a ≤ b) (hbv : b ≤ lv) {K : AV → List Row → Prop}
 (hk : ∀ (av : AV) (H' : List Row) (l' : Nat) (ts' : List Tr), H.length ≤ H'.length → (∀ x, x < H.length → x ≠ l → H'[x]? = H[x]?) → bb_ lo H' 74 4 l' (m + 1) ts' → Sl av l' (m + 1) ts' → (ts'.take (m + 1)).map Tr.d = ((ts.take m).map Tr.d).take i ++ ds :: ((ts.take m).map Tr.d).drop i → (∀ y ∈ aF_ l' ts', y ∈ aF_ l ts ∨ a ≤ y) → K av H') :
 callSem Tryz.prog 136 [.sub l ts.length 0 m, .val (.int .i64 i), .own lv 1] H K := by
 have hr := s.row
 have hll := s.lt
 have hle := s.le
 have hvl := (List.getElem?_eq_some_iff.1 hv).1
 have hlv : lv ≠ l := fun q => by
  have := ha l mem_cons_self
  omega
 obtain ⟨f, e, hfa⟩ := nh_.of (lv := lv) hF hd ha hla hbv (by omega)
 have hft : ∀ {l' : Nat} {A B : List Tr}, (A ++ B).Sublist ts → (l' = l ∨ H.length ≤ l') → ∀ y ∈ aF_ l' (A ++ ⟨cs, ds, f⟩ :: B), y ∈ aF_ l ts ∨ a ≤ y := fun {l' A B} h1 h2 y hy => by
  rcases oO_ h1 h2 y hy with q | q | q
  ·exact .inl q
  ·exact .inr (hfa y q)
  ·exact .inr (by omega)
 obtain ⟨hw1, hw2⟩ := e.wide
 have hwc : ∀ x ∈ ts.map Tr.c, x.all AV.cell = true := fun x hx => by
  obtain ⟨t, ht, rfl⟩ := mem_map.1 hx
  exact (s.wide t ht).2
 have hdat : ∀ (C : List Tr), C.take (m + 1) = ts.take i ++ ⟨cs, ds, f⟩ :: (ts.take m).drop i → (C.take (m + 1)).map Tr.d = ((ts.take m).map Tr.d).take i ++ ds :: ((ts.take m).map Tr.d).drop i := fun C q => by
  rw [q, map_append, map_cons, map_drop, ← map_take, take_take, Nat.min_eq_left hi]
 by_cases hmN : m < ts.length
 ·refine dK_ hr (by simp) hmN hi hm (fun x hx => hwc x (mem_of_mem_take hx)) hv hw2 hlv ?_
  have hrow : (ts.map Tr.c).take i ++ cs :: (((ts.map Tr.c).take m).drop i ++ (ts.map Tr.c).drop (m + 1)) = (ts.take i ++ ⟨cs, ds, f⟩ :: ((ts.take m).drop i ++ ts.drop (m + 1))).map Tr.c := by
   simp only [map_append, map_cons, map_take, map_drop]
  have hsub : (ts.take i ++ ((ts.take m).drop i ++ ts.drop (m + 1))).Sublist ts := by
   rw [← append_assoc]
   have e1 : ts.take i ++ (ts.take m).drop i = ts.take m := by
    have := take_append_drop i (ts.take m)
    rwa [take_take, Nat.min_eq_left hi] at this
   rw [e1]
   have e2 : (ts.take m ++ ts.drop (m + 1)).Sublist (ts.take m ++ ts.drop m) := List.Sublist.append (List.Sublist.refl _) (by rw [← drop_drop]; exact drop_sublist _ _)
   rwa [take_append_drop] at e2
  have hlen : (ts.take i ++ (⟨cs, ds, f⟩ : Tr) :: ((ts.take m).drop i ++ ts.drop (m + 1))).length = ts.length := by
   simp only [la_, lc_, length_take, length_drop]; omega
  rw [hrow]
  have hs := bb_.insert s (H' := H.set l ⟨.ty 74, 4, (ts.take i ++ ⟨cs, ds, f⟩ :: ((ts.take m).drop i ++ ts.drop (m + 1))).map Tr.c⟩) (m' := m + 1) e hsub (aD_ hll) (by omega) (fun x q1 q2 => ad_ (Ne.symm q2)) (.inl rfl) (by simp)
  refine hk _ _ l (ts.take i ++ ⟨cs, ds, f⟩ :: ((ts.take m).drop i ++ ts.drop (m + 1))) (by simp) (fun x q1 q2 => ad_ (Ne.symm q2)) hs (.inl (by rw [hlen])) (hdat _ ?_) (hft hsub (.inl rfl))
  have e3 : m + 1 = (ts.take i ++ (⟨cs, ds, f⟩ : Tr) :: (ts.take m).drop i).length := by
   simp only [la_, lc_, length_take, length_drop]; omega
  have e4 : ts.take i ++ (⟨cs, ds, f⟩ : Tr) :: ((ts.take m).drop i ++ ts.drop (m + 1)) = (ts.take i ++ (⟨cs, ds, f⟩ : Tr) :: (ts.take m).drop i) ++ ts.drop (m + 1) := by simp
  rw [e4, take_left' e3.symm]
 ·have hmN' : m = ts.length := by omega
  subst hmN'
  have hsub : (ts.take i ++ ts.drop i).Sublist ts := by rw [take_append_drop]; exact List.Sublist.refl _
  have hrow : (ts.map Tr.c).take i ++ cs :: (ts.map Tr.c).drop i = (ts.take i ++ ⟨cs, ds, f⟩ :: ts.drop i).map Tr.c := by
   simp only [map_append, map_cons, map_take, map_drop]
  have hlen : (ts.take i ++ (⟨cs, ds, f⟩ : Tr) :: ts.drop i).length = ts.length + 1 := by
   simp only [la_, lc_, length_take, length_drop]; omega
  have htk : (ts.take i ++ (⟨cs, ds, f⟩ : Tr) :: ts.drop i).take (ts.length + 1) = ts.take i ++ ⟨cs, ds, f⟩ :: (ts.take ts.length).drop i := by rw [take_of_length_le (by omega), take_length]
  refine qr_ hr (by simp) (by decide) ?_ ?_
  ·have jt : (ts.map Tr.c ++ [List.replicate 4 AV.undef]).take ts.length = ts.map Tr.c := q4_ (by simp)
   refine dK_ (N := ts.length + 1) (m := ts.length) (es := ts.map Tr.c ++ [List.replicate 4 .undef]) (aD_ hll) (by simp) (by omega) hi hm (fun x hx => hwc x ?_) (by rw [ad_ (Ne.symm hlv)]; exact hv) hw2 hlv ?_
   ·rwa [jt] at hx
   ·rw [jt]
    have e5 : (ts.map Tr.c ++ [List.replicate 4 AV.undef]).take i = (ts.map Tr.c).take i := by rw [take_append_of_le_length (by simp; omega)]
    have e6 : (ts.map Tr.c ++ [List.replicate 4 AV.undef]).drop (ts.length + 1) = [] := drop_eq_nil_of_le (by simp)
    rw [e5, e6, append_nil, set_set, hrow]
    have hs := bb_.insert s (H' := H.set l ⟨.ty 74, 4, (ts.take i ++ ⟨cs, ds, f⟩ :: ts.drop i).map Tr.c⟩) (m' := ts.length + 1) e hsub (aD_ hll) (by omega) (fun x q1 q2 => ad_ (Ne.symm q2)) (.inl rfl) (by simp)
    exact hk _ _ l (ts.take i ++ ⟨cs, ds, f⟩ :: ts.drop i) (by simp) (fun x q1 q2 => ad_ (Ne.symm q2)) hs (.inl (by rw [hlen])) (hdat _ htk) (hft hsub (.inl rfl))
  ·refine fU_ (N := ts.length) (es := ts.map Tr.c) (aD_ hll) (by simp) hi hm hwc (by rw [ad_ (Ne.symm hlv)]; exact hv) hw2 hlv ?_
   refine ⟨by rw [ag_ (by simpa using hll)]; exact aD_ hll, ?_⟩
   rw [ls_, hrow]
   have hst : ∀ r1 r2 r3 : Row, H[l]? = some r3 → (H.set l r1 ++ [r2]).set l r3 = H ++ [r2] := fun r1 r2 r3 q => by
    rw [set_append_left _ _ (by simpa using hll), set_set, ow_ q]
   rw [hst _ _ _ hr]
   have hs := bb_.insert s (l' := H.length) (H' := H ++ [⟨.ty 74, 4, (ts.take i ++ ⟨cs, ds, f⟩ :: ts.drop i).map Tr.c⟩]) (m' := ts.length + 1) e hsub (aG_ rfl) (by omega) (fun x q1 q2 => ag_ q1) (.inr (Nat.le_refl _)) (by simp)
   exact hk _ _ H.length (ts.take i ++ ⟨cs, ds, f⟩ :: ts.drop i) (by simp) (fun x q1 q2 => ag_ q1) hs (.inr ⟨by rw [hlen], hlen.symm⟩) (hdat _ htk) (hft hsub (.inr (Nat.le_refl _)))
def vQ_ : LC :=
 .q [.o [.nl 4], .o [.m 8 0, .m 9 1, .c2 10 98 8 9, .m 5 10], .q [.o [.m 11 5, .s 12 (.bin .eql false (.tmp 11) (.const (.int .i64 (-1))))], .k 12 (.q [.o [.m 13 0, .m 4 13], .ret]) .skip], .q [.o [.m 14 5, .bk 15 .add
 false 14 1, .m 6 15], .block 0 (.loop (.q [.q [.o [.m 16 6, .m 17 0, .ll 18 17, .bb 19 .lss false 16 18], .k 19 .skip (.exit 0)], .block 1 (.q [.o [.m 22 0, .m 23 6, .ia 24 4 22 23, .ld 25 4 24, .s 7 (.alloc 64 (.agg
 #[.int .i64 0, .int .i64 0, .string ⟨#[]⟩, .slice none 0 0])), .st 4 7 25], .o [.m 26 1, .ld 27 4 7, .s 28 (.callv (.tmp 26) [.tmp 27]), .nt 29 28], .k 29 (.q [.o [.m 30 0, .m 31 5, .ld 32 4 7, .ia 33 4 30 31, .st 4 33
 32], .o [.m 34 5, .bk 35 .add false 34 1, .m 5 35]]) .skip]), .o [.m 20 6, .bk 21 .add false 20 1, .m 6 21]]))], .o [.m 36 0, .m 37 5, .s 38 (.sliceSl 4 (.tmp 36) (some (.tmp 37)) none), .z (.clear 64 4 (.agg #[.int .i64
 0, .int .i64 0, .string ⟨#[]⟩, .slice none 0 0]) (.tmp 38))], .o [.m 39 0, .m 40 5, .s 41 (.sliceSl 4 (.tmp 39) none (some (.tmp 40))), .m 4 41], .ret]
def tY_ : LF := ⟨2, 42, vQ_, [.tmp 4]⟩
theorem xj_ : aA_ Tryz.prog Tryz.f107 tY_ := ak_
theorem ut_ {α : Type} {es : List α} {z : α} {k m : Nat} (hk : k < m) (hm : m ≤ es.length) :
 List.take (m - 1) (List.take k es ++ (List.drop (k + 1) (List.take m es) ++ List.drop (m - 1) es)) ++ (List.replicate 1 z ++ List.drop m (List.take k es ++ (List.drop (k + 1) (List.take m es) ++ List.drop (m - 1) es))) =
 List.take k es ++ List.drop (k + 1) (List.take m es) ++ z :: List.drop m es := by
 have hlen : (List.take k es ++ List.drop (k + 1) (List.take m es)).length = m - 1 := by
  simp only [la_, length_take, length_drop]; omega
 rw [← append_assoc (List.take k es) (List.drop (k + 1) (List.take m es)) (List.drop (m - 1) es), take_left' hlen, drop_append, hlen]
 have e1 : List.drop m (List.take k es ++ List.drop (k + 1) (List.take m es)) = [] := drop_eq_nil_of_le (by omega)
 rw [e1, nil_append, drop_drop]
 have e2 : m - 1 + (m - (m - 1)) = m := by omega
 rw [e2]; rfl
def vB_ : LC :=
 .q [.o [.nl 6], .o [.m 8 0, .m 9 1, .m 10 2, .m 11 0, .ll 12 11, .s 13 (.slice3 (.tmp 8) (.tmp 9) (.tmp 10) (.tmp 12))], .q [.o [.m 14 1, .m 15 2, .bb 16 .eql false 14 15], .k 16 (.q [.o [.m 17 0, .m 6 17], .ret])
 .skip], .o [.m 18 0, .ll 19 18, .m 7 19], .gops [.m 20 0, .m 21 1, .s 22 (.sliceSl 4 (.tmp 20) none (some (.tmp 21))), .m 23 0, .m 24 2, .s 25 (.sliceSl 4 (.tmp 23) (some (.tmp 24)) none)] [(.ap 26 64 4 56 22 25, []),
 (.m 0 26, [])], .o [.m 27 0, .m 28 0, .ll 29 28, .m 30 7, .s 31 (.sliceSl 4 (.tmp 27) (some (.tmp 29)) (some (.tmp 30))), .z (.clear 64 4 (.agg #[.int .i64 0, .int .i64 0, .string ⟨#[]⟩, .slice none 0 0]) (.tmp 31))], .o
 [.m 32 0, .m 6 32], .ret]
def ts_ : LF := ⟨3, 33, vB_, [.tmp 6]⟩
theorem vb_ : aA_ Tryz.prog Tryz.f101 ts_ := ak_
theorem gA_ {lo l m k : Nat} {H : List Row} {ts : List Tr} (s : bb_ lo H 64 4 l m ts) (hkm : k < m) (hm : m ≤ 1048576) {K : AV → List Row → Prop}
 (hk : ∀ (H' : List Row) (ts' : List Tr), H'.length = H.length → (∀ x, x ≠ l → H'[x]? = H[x]?) → bb_ lo H' 64 4 l (m - 1) ts' → ts'.length = ts.length → (∀ x ∈ aF_ l ts', x ∈ aF_ l ts) → ts'.take (m - 1) = (ts.take m).eraseIdx k → K (.sub l ts'.length 0 (m - 1)) H') :
 callSem Tryz.prog 101 [.sub l ts.length 0 m, .val (.int .i64 k), .val (.int .i64 ((k : Int) + 1))] H K := by
 refine aS_ mixed Tryz.func101 vb_ (bs_ rfl ?_)
 have hr := s.row
 have hle := s.le
 have hll := s.lt
 have hti : ((k : Int) + 1).toNat = k + 1 := by omega
 have hne : ((k : Int) = (k : Int) + 1) = False := eq_false (by omega)
 have hw : ∀ e ∈ (ts.map Tr.c), e.all AV.cell = true := fun e he => by
  obtain ⟨t, ht, rfl⟩ := mem_map.1 he
  exact (s.wide t ht).2
 have hmk : k + (m - (k + 1)) = m - 1 := by omega
 have hm1 : m - 1 ≤ ts.length := by omega
 have hm2 : k + 1 ≤ m := hkm
 have hm3 : k ≤ m := by omega
 have hm4 : m - (m - 1) = 1 := by omega
 simp (disch := (first | omega | (simp only [ls_, la_, lc_, ln_]; first | done | omega))) only [aD_, go_sem, Nat.reduceEqDiff, reduceCtorEq, ↓reduceIte, ts_, vB_, hr, hti, hne, hle, hmk, hm1, hm2, hm4, Nat.sub_zero, Nat.zero_add, la_, length_take, length_drop, length_map, if_pos, Nat.min_eq_left]
 refine ⟨by omega, by omega, by omega, by omega, fun e he => hw e (mem_of_mem_take (mem_of_mem_drop he)), by omega, by omega, ?_⟩
 rw [set_set, ut_ hkm (by rw [length_map]; exact hle)]
 have hrow : (ts.map Tr.c).take k ++ (((ts.map Tr.c).take m).drop (k + 1)) ++ [.val (.int .i64 0), .val (.int .i64 0), .val (.string (txt [])), .val (.slice none 0 0)] :: (ts.map Tr.c).drop m = ((ts.take k ++ (ts.take m).drop (k + 1)) ++ (⟨[.val (.int .i64 0), .val (.int .i64 0), .val (.string (txt [])), .val (.slice none 0 0)], [.val (.int .i64 0), .val (.int .i64 0), .val (.string (txt [])), .val (.slice none 0 0)], []⟩ : Tr) :: ts.drop m).map Tr.c := by
  simp only [map_append, map_cons, map_take, map_drop]
 rw [hrow]
 have hol : (ts.take k ++ (ts.take m).drop (k + 1)) = (ts.take m).eraseIdx k := by
  rw [eraseIdx_eq_take_drop_succ, take_take, Nat.min_eq_left (by omega)]
 have hold : ((ts.take k ++ (ts.take m).drop (k + 1)) ++ ts.drop m).Sublist ts := by
  have : (ts.take m ++ ts.drop m).Sublist ts := by rw [take_append_drop]; exact List.Sublist.refl _
  exact (List.Sublist.append (by rw [hol]; exact eraseIdx_sublist _ _) (List.Sublist.refl _)).trans this
 have hlen : (ts.take k ++ (ts.take m).drop (k + 1)).length = m - 1 := by
  simp only [la_, length_take, length_drop]; omega
 have hz2 : ((ts.take k ++ (ts.take m).drop (k + 1)) ++ (⟨[.val (.int .i64 0), .val (.int .i64 0), .val (.string (txt [])), .val (.slice none 0 0)], [.val (.int .i64 0), .val (.int .i64 0), .val (.string (txt [])), .val (.slice none 0 0)], []⟩ : Tr) :: ts.drop m).length = ts.length := by
  rw [la_, hlen, lc_, length_drop]; omega
 generalize hts : (ts.take k ++ (ts.take m).drop (k + 1)) ++ (⟨[.val (.int .i64 0), .val (.int .i64 0), .val (.string (txt [])), .val (.slice none 0 0)], [.val (.int .i64 0), .val (.int .i64 0), .val (.string (txt [])), .val (.slice none 0 0)], []⟩ : Tr) :: ts.drop m = ts' at hz2
 have hfin : bb_ lo (H.set l ⟨.ty 64, 4, ts'.map Tr.c⟩) 64 4 l (m - 1) ts' := by
  refine s.renew (l' := l) (new := [⟨[.val (.int .i64 0), .val (.int .i64 0), .val (.string (txt [])), .val (.slice none 0 0)], [.val (.int .i64 0), .val (.int .i64 0), .val (.string (txt [])), .val (.slice none 0 0)], []⟩]) (old := (ts.take k ++ (ts.take m).drop (k + 1)) ++ ts.drop m) (aD_ hll) (by omega) ?_ hold (fun t ht => by rw [mem_singleton.1 ht]; exact ⟨rfl, rfl⟩) ⟨1, fun t ht => ?_⟩ nodup_nil (fun x hx => absurd hx not_mem_nil) (fun x hx => ?_) (.inl rfl) (by simp)
  ·rw [← hts]; exact nq_ _ _ _
  ·rw [mem_singleton.1 ht]
   repeat (first | exact ⟨rfl, rfl⟩ | refine ⟨_, _, [], [], rfl, rfl, ⟨rfl, .inl rfl⟩, ?_⟩)
  ·have h5 : x ≠ l := fun e => (nodup_cons.1 s.one).1 (e ▸ hx)
   rw [ad_ (by omega)]
 have := hk _ ts' (by simp) (fun x q2 => ad_ (Ne.symm q2)) hfin hz2 ?_ (by rw [← hts, take_left' hlen, hol])
 ·rw [hz2] at this; exact this
 ·intro x hx
  rw [← hts] at hx
  rcases mem_cons.1 hx with q | q
  ·subst q; exact mem_cons_self
  ·obtain ⟨f, q1, q2⟩ := mem_flatten.1 q
   obtain ⟨y, q3, rfl⟩ := mem_map.1 q1
   rcases mem_append.1 q3 with q4 | q4
   ·exact e1_ (hold.subset (mem_append_left _ q4)) q2
   ·rcases mem_cons.1 q4 with q5 | q5
    ·rw [q5] at q2; cases q2
    ·exact e1_ (hold.subset (mem_append_right _ q5)) q2
def nQ_ (P : Program) (f : FuncId) (args : List AV) (r : AV) (Q : AV → List Row → Prop) : Prop :=
 ∀ (h : List Row) (K : AV → List Row → Prop), (∀ av H', aK_ h H' → FB h.length H'.length H' av r → Q av H' → K av H') → callSem P f args h K
theorem qR_ {P : Program} {f : FuncId} {fn : Func} {lf : LF} {args : List AV} {r : AV} {Q : AV → List Row → Prop} (hmx : P.follows .mixedOrders = true) (hf : P.funcs[f]? = some fn) (hl : aA_ P fn lf) (hn : args.length = lf.np)
 (hw : ∀ h : List Row, Ex P lf.N (ce_ lf.res fun av h' => Res h h' av r ∧ Q av h') lf.body [] (fw_ args) h) : nQ_ P f args r Q := by
 intro h K hk
 refine (aS_ hmx hf hl (bs_ hn (hw h))).mono ?_
 rintro a h' ⟨⟨m, h1⟩, h2⟩
 exact hk a h' m ⟨h1, Nat.le_refl _⟩ h2
theorem FB.own_at {lo hi l n : Nat} {H : List Row} {r : AV} (h : FB lo hi H (.own l n) r) : lo ≤ l ∧ l < hi := by
 obtain ⟨⟨m, fs, h1, h2, h3⟩, _⟩ := h
 cases m with
 | zero => exact h1.elim
 | succ m =>
  obtain ⟨row, es, f, _, _, _, _, rfl⟩ := h1
  exact h3 l mem_cons_self
theorem nR_ {n lo l k E sz : Nat} {H : List Row} {ds : List (List AV)} {f : List Nat} (h : Own H n (.own l k) (.list 0 sz ds) f) (nd : f.Nodup) (hlo : ∀ y ∈ f, lo ≤ y ∧ y < H.length) (hE : ∃ es, H[l]? = some ⟨.ty E, sz, es⟩) (hd : ∀ d ∈ ds, d.length = sz ∧ ∀ r ∈ d, r.cell = true) :
 ∃ ts, f = aF_ l ts ∧ ts.length = k ∧ ts.map Tr.d = ds ∧ bb_ lo H E sz l ts.length ts := by
 cases n with
 | zero => exact h.elim
 | succ n =>
  obtain ⟨row, es, f, q1, q2, q3, q4, rfl⟩ := h
  obtain ⟨es1, hE⟩ := hE
  rw [hE] at q1
  obtain rfl := Option.some.inj q1
  simp only [AV.list.injEq, true_and] at q4
  subst q4
  obtain ⟨ts, r1, r2, rfl, r4⟩ := a0_.trs q3
  have hl : ts.length = k := by rw [← q2, ← r1]; simp
  refine ⟨ts, rfl, hl, r2, ⟨by rw [hE, r1], Nat.le_refl _, fun t ht => ?_, ⟨n, r4⟩, nd, hlo⟩⟩
  obtain ⟨d1, d2⟩ := hd t.d (by rw [← r2]; exact mem_map.2 ⟨t, ht, rfl⟩)
  obtain ⟨p1, p2⟩ := (r4 t ht).cells_of d2
  exact ⟨p1.trans d1, p2⟩
theorem bb_.ownS {lo E sz l m : Nat} {H : List Row} {ts : List Tr} {a : AV} (s : bb_ lo H E sz l m ts) (h : Sl a l m ts) : ∃ n, Own H (n + 1) a (.list 0 sz ((ts.take m).map Tr.d)) (aF_ l ts) := by
 obtain ⟨k, hk⟩ := s.tree
 rcases h with rfl | ⟨rfl, rfl⟩
 ·exact ⟨k, _, ts.map Tr.d, (ts.map Tr.f).flatten, s.row, by simp, a0_.of_trs ts hk, by simp [map_take], rfl⟩
 ·exact ⟨k, _, ts.map Tr.d, (ts.map Tr.f).flatten, s.row, by simp, a0_.of_trs ts hk, by rw [take_length], rfl⟩
theorem kV_ (hs : List ac_) : ∀ d ∈ hs.map ac_.cells, d.length = 4 ∧ ∀ r ∈ d, r.cell = true := fun d hd => by
 obtain ⟨x, _, rfl⟩ := mem_map.1 hd
 refine ⟨rfl, fun r hr => ?_⟩
 rw [bY_] at hr
 simp only [mem_cons, not_mem_nil, or_false] at hr
 rcases hr with rfl | rfl | rfl | rfl <;> rfl
theorem ru_ (hs : List ae_) : ∀ d ∈ hs.map ae_.cells, d.length = 4 ∧ ∀ r ∈ d, r.cell = true := fun d hd => by
 obtain ⟨x, _, rfl⟩ := mem_map.1 hd
 refine ⟨rfl, fun r hr => ?_⟩
 rw [dG_] at hr
 simp only [mem_cons, not_mem_nil, or_false] at hr
 rcases hr with rfl | rfl | rfl | rfl <;> rfl
structure KL (lo : Nat) (H : List Row) (x : ab_) (a b : AV) (lh mh : Nat) (th : List Tr) (la ma : Nat) (ta : List Tr) : Prop where
 ha : Sl a lh mh th
 hb : Sl b la ma ta
 held : bb_ lo H 74 4 lh mh th
 asks : bb_ lo H 64 4 la ma ta
 hd : (th.take mh).map Tr.d = x.Held.map ac_.cells
 ad : (ta.take ma).map Tr.d = x.Asks.map ae_.cells
 apart : ∀ y ∈ aF_ lh th, y ∉ aF_ la ta
section
variable {lo : Nat} {H H' : List Row} {x : ab_} {a b : AV} {lh mh : Nat} {th : List Tr} {la ma : Nat} {ta : List Tr}
theorem KL.mh_eq (k : KL lo H x a b lh mh th la ma ta) : mh = x.Held.length := by
 have h1 := congrArg List.length k.hd
 have h2 := k.held.le
 simp only [length_map, length_take] at h1
 omega
theorem KL.ma_eq (k : KL lo H x a b lh mh th la ma ta) : ma = x.Asks.length := by
 have h1 := congrArg List.length k.ad
 have h2 := k.asks.le
 simp only [length_map, length_take] at h1
 omega
theorem KL.keep (k : KL lo H x a b lh mh th la ma ta) (h1 : ∀ y ∈ aF_ lh th, H'[y]? = H[y]?) (h2 : ∀ y ∈ aF_ la ta, H'[y]? = H[y]?) (hl : H.length ≤ H'.length) : KL lo H' x a b lh mh th la ma ta :=
 ⟨k.ha, k.hb, k.held.keep h1 hl, k.asks.keep h2 hl, k.hd, k.ad, k.apart⟩
theorem KL.more (k : KL lo H x a b lh mh th la ma ta) (m : aK_ H H') : KL lo H' x a b lh mh th la ma ta :=
 k.keep (fun y hy => m.kept y (k.held.lows y hy).2) (fun y hy => m.kept y (k.asks.lows y hy).2) m.len
theorem KL.setHeld (k : KL lo H x a b lh mh th la ma ta) {a' : AV} {lh' mh' : Nat} {th' : List Tr} {hs : List ac_} (h1 : Sl a' lh' mh' th') (h2 : bb_ lo H' 74 4 lh' mh' th') (h3 : (th'.take mh').map Tr.d = hs.map ac_.cells) (hf : ∀ y ∈ aF_ lh' th', y ∈ aF_ lh th ∨ H.length ≤ y) (hk : ∀ y ∈ aF_ la ta, H'[y]? = H[y]?) (hl : H.length ≤ H'.length) :
 KL lo H' ⟨hs, x.Asks⟩ a' b lh' mh' th' la ma ta :=
 ⟨h1, k.hb, h2, k.asks.keep hk hl, h3, k.ad, fun y hy q => (hf y hy).elim (fun z => k.apart y z q) fun z => by have := (k.asks.lows y q).2; omega⟩
theorem KL.setAsks (k : KL lo H x a b lh mh th la ma ta) {b' : AV} {la' ma' : Nat} {ta' : List Tr} {ks : List ae_} (h1 : Sl b' la' ma' ta') (h2 : bb_ lo H' 64 4 la' ma' ta') (h3 : (ta'.take ma').map Tr.d = ks.map ae_.cells) (hf : ∀ y ∈ aF_ la' ta', y ∈ aF_ la ta ∨ H.length ≤ y) (hk : ∀ y ∈ aF_ lh th, H'[y]? = H[y]?) (hl : H.length ≤ H'.length) :
 KL lo H' ⟨x.Held, ks⟩ a b' lh mh th la' ma' ta' :=
 ⟨k.ha, h1, k.held.keep hk hl, h2, k.hd, h3, fun y hy q => (hf y q).elim (fun z => k.apart y hy z) fun z => by have := (k.held.lows y hy).2; omega⟩
theorem KL.ownL (k : KL lo H x a b lh mh th la ma ta) : ∃ n, au_ (Own H n) [a, b] (ab_.cells x) (aF_ lh th ++ aF_ la ta) := by
 obtain ⟨n1, h1⟩ := bb_.ownS k.held k.ha
 obtain ⟨n2, h2⟩ := bb_.ownS k.asks k.hb
 rw [k.hd] at h1
 rw [k.ad] at h2
 have := au_.mk_list h1 (au_.mk_list h2 (au_.mk_nil (Own H (0 + 1))))
 rw [append_nil] at this
 exact ⟨_, this⟩
theorem KL.fresh (k : KL lo H x a b lh mh th la ma ta) : aP_ lo H.length H (.agg [a, b]) (.agg (ab_.cells x)) := by
 obtain ⟨n, h⟩ := k.ownL
 refine ⟨⟨n + 1, aF_ lh th ++ aF_ la ta, show Own H (n + 1) (.agg _) (.agg _) _ from ⟨_, h, rfl⟩, ?_, fun y hy => ?_⟩⟩
 ·rw [nodup_append]
  exact ⟨k.held.one, k.asks.one, fun y hy z hz e => by subst e; exact k.apart y hy hz⟩
 ·rcases mem_append.1 hy with q | q
  ·exact k.held.lows y q
  ·exact k.asks.lows y q
theorem KL.arg (k : KL lo H x a b lh mh th la ma ta) : bq_ H (.agg [a, b]) (.agg (ab_.cells x)) := k.fresh.arg.any
theorem KL.args (k : KL lo H x a b lh mh th la ma ta) : aO_ H [a, b] (ab_.cells x) := by
 obtain ⟨n1, h1⟩ := bb_.ownS k.held k.ha
 obtain ⟨n2, h2⟩ := bb_.ownS k.asks k.hb
 rw [k.hd] at h1
 rw [k.ad] at h2
 exact aO_.cons (a7_.any (.inr ⟨_, _, h1⟩)) (aO_.cons (a7_.any (.inr ⟨_, _, h2⟩)) aO_.nil)
theorem KL.of {n lh nh la na : Nat} {fs : List Nat} (ho : au_ (Own H n) [.own lh nh, .own la na] (ab_.cells x) fs) (nd : fs.Nodup) (hlo : ∀ y ∈ fs, lo ≤ y ∧ y < H.length) (hE1 : ∃ es, H[lh]? = some ⟨.ty 74, 4, es⟩) (hE2 : ∃ es, H[la]? = some ⟨.ty 64, 4, es⟩) :
 ∃ th ta, KL lo H x (.own lh nh) (.own la na) lh th.length th la ta.length ta ∧ fs = aF_ lh th ++ aF_ la ta := by
 obtain ⟨c, cs', fb, g1, e1, rfl, h1, ho⟩ := ho.inv_cons
 simp only [List.cons.injEq] at e1
 obtain ⟨rfl, rfl⟩ := e1
 obtain ⟨c, cs', fc, g2, e1, rfl, h2, ho⟩ := ho.inv_cons
 simp only [List.cons.injEq] at e1
 obtain ⟨rfl, rfl⟩ := e1
 obtain ⟨_, rfl⟩ := ho.inv_nil
 rw [append_nil] at *
 rw [nodup_append] at nd
 obtain ⟨n1, n2, n3⟩ := nd
 obtain ⟨th, rfl, l1, d1, s1⟩ := nR_ (lo := lo) h1 n1 (fun y hy => hlo y (mem_append_left _ hy)) hE1 (kV_ _)
 obtain ⟨ta, rfl, l2, d2, s2⟩ := nR_ (lo := lo) h2 n2 (fun y hy => hlo y (mem_append_right _ hy)) hE2 (ru_ _)
 exact ⟨th, ta, ⟨.inr ⟨by rw [l1], rfl⟩, .inr ⟨by rw [l2], rfl⟩, s1, s2, by rw [take_length]; exact d1, by rw [take_length]; exact d2, fun y hy q => n3 y hy y q rfl⟩, rfl⟩
end
def c95 : LC :=
 .q [.o [.nl 2], .q [.o [.m 3 0, .s 4 (.isNil false (.tmp 3))], .k 4 (.q [.o [.nl 2], .ghost .ret]) .skip], .o [.s 5 (.buildSlice 9 1 (.string ⟨#[]⟩) 0 []), .m 6 0, .ap 7 9 1 16 5 6, .m 2 7], .ghost .ret]
def wi_ : LF := ⟨1, 8, c95, [.tmp 2]⟩
theorem yL_ : aA_ Tryz.prog Tryz.f95 wi_ := ak_
theorem cZ_ (xs : List ByteArray) (hx : xs.length ≤ 1048576) : br_ Tryz.prog 95 [.list 0 1 (xs.map ax_)] (.list 0 1 (xs.map ax_)) (fun a => ∃ l, a = .own l xs.length) := by
 refine hr_ mixed Tryz.func95 yL_ rfl (fun h0 => ?_)
 have hv : ∀ e ∈ xs.map ax_, ∀ c ∈ e, ∃ v, c = AV.val v := by
  intro e he c hc
  obtain ⟨x, _, q⟩ := mem_map.1 he; subst q
  simp only [ax_, mem_cons, not_mem_nil, or_false] at hc
  first | (rcases hc with rfl) | (rcases hc with rfl | rfl) | (rcases hc with rfl | rfl | rfl)
  all_goals exact ⟨_, rfl⟩
 have hcell : ∀ e ∈ xs.map ax_, e.all AV.cell = true := by
  intro e he
  obtain ⟨x, _, q⟩ := mem_map.1 he; subst q; rfl
 simp (disch := omega) only [wi_, c95, go_sem, reduceCtorEq, ↓reduceIte]
 intro b hb
 cases b
 ·simp (disch := omega) only [bne_self_eq_false, go_sem, Nat.reduceEqDiff, reduceCtorEq, ↓reduceIte]
  refine ⟨by omega, by omega, hcell, ?_⟩
  try simp (disch := omega) only [go_sem, Nat.reduceEqDiff, Nat.reduceAdd, Nat.reduceLeDiff, reduceCtorEq, Int.reduceLT, Int.reduceLE, Int.reduceNeg, Int.reduceSub, Int.reduceAdd, Int.reduceToNat, ↓reduceIte]
  refine kC_ _ _ s4_ ?_
  simp (disch := omega) only [go_sem, ↓reduceIte]
  exact ⟨⟨aK_.app _ _, (aP_.mkown (lo := h0.length + 1) (hi := h0.length + 1) (bo_.ofVals _ _ _ _ hv) (by rw [di_]; rfl) (by simp) (Nat.le_refl _) (Nat.lt_succ_self _) (Nat.le_refl _)).widen (Nat.le_refl _) (by simp)⟩, _, rfl⟩
 ·have hx0 : xs = [] := by simpa using hb rfl
  subst hx0
  simp (disch := omega) only [Bool.bne_false, map_nil, go_sem]
  refine kC_ _ _ (ra_ 2 9 1 rfl) ?_
  simp (disch := omega) only [go_sem, ↓reduceIte]
  exact ⟨⟨aK_.app _ _, (aP_.mkown (lo := h0.length + 1) (hi := h0.length + 1) (bo_.nil _ _ _) (by rw [di_]; rfl) (by simp) (Nat.le_refl _) (Nat.lt_succ_self _) (Nat.le_refl _)).widen (Nat.le_refl _) (by simp)⟩, _, rfl⟩
def c90 : LC :=
 .q [.o [.nl 2], .o [.s 3 (.buildSlice 9 1 (.string ⟨#[]⟩) 0 []), .m 4 0, .ap 5 9 1 16 3 4, .m 2 5], .ret]
def xv_ : LF := ⟨1, 6, c90, [.tmp 2]⟩
theorem yI_ : aA_ Tryz.prog Tryz.f90 xv_ := ak_
theorem ek_ (xs : List ByteArray) (hx : xs.length ≤ 1048576) : br_ Tryz.prog 90 [.list 0 1 (xs.map ax_)] (.list 0 1 (xs.map ax_)) (fun a => ∃ l, a = .own l xs.length) := by
 refine hr_ mixed Tryz.func90 yI_ rfl (fun h0 => ?_)
 have hv : ∀ e ∈ xs.map ax_, ∀ c ∈ e, ∃ v, c = AV.val v := by
  intro e he c hc
  obtain ⟨x, _, q⟩ := mem_map.1 he; subst q
  simp only [ax_, mem_cons, not_mem_nil, or_false] at hc
  subst hc
  exact ⟨_, rfl⟩
 have hcell : ∀ e ∈ xs.map ax_, e.all AV.cell = true := by
  intro e he
  obtain ⟨x, _, q⟩ := mem_map.1 he; subst q; rfl
 simp (disch := omega) only [xv_, c90, go_sem, Nat.reduceEqDiff, reduceCtorEq, ↓reduceIte]
 refine ⟨by omega, by omega, hcell, ?_⟩
 try simp (disch := omega) only [go_sem, Nat.reduceEqDiff, Nat.reduceAdd, Nat.reduceLeDiff, reduceCtorEq, Int.reduceLT, Int.reduceLE, Int.reduceNeg, Int.reduceSub, Int.reduceAdd, Int.reduceToNat, ↓reduceIte]
 exact ⟨⟨aK_.app _ _, (aP_.mkown (lo := h0.length + 1) (hi := h0.length + 1) (bo_.ofVals _ _ _ _ hv) (by rw [di_]; rfl) (by simp) (Nat.le_refl _) (Nat.lt_succ_self _) (Nat.le_refl _)).widen (Nat.le_refl _) (by simp)⟩, _, rfl⟩
theorem iS_ {N : Nat} {t : Nat → AV} {h : List Row} {L : Nat} {E : Tag} {s : Nat} (pre post : List AV) (T : TypeId) (sz : Nat) (hL : h[L]? = some ⟨E, s, [pre ++ AV.val (.slice none 0 0) :: post]⟩) :
 iz_ N t h t (h.set L ⟨E, s, [pre ++ AV.own h.length 0 :: post]⟩ ++ [⟨.ty T, sz, []⟩]) := by
 have hlt := (List.getElem?_eq_some_iff.1 hL).1
 refine mF_ (.ty T) ⟨T, rfl⟩ sz (fun k => .inl rfl) (by simp) (aG_ (by simp)) (fun l r' hl hr => ?_)
 rw [ag_ (by simpa using hl)] at hr
 by_cases e : L = l
 ·subst e
  rw [aD_ hlt] at hr
  obtain rfl := Option.some.inj hr
  refine ⟨_, hL, rfl, rfl, ⟨_, [], rfl, ?_, rfl⟩⟩
  have : ∀ pre : List AV, CvL h.length (pre ++ AV.val (.slice none 0 0) :: post) (pre ++ AV.own h.length 0 :: post) := by
   intro pre
   induction pre with
   | nil => exact ⟨_, _, rfl, .inr ⟨rfl, rfl⟩, CvL.refl _ _⟩
   | cons a us ih => exact ⟨a, _, rfl, .inl rfl, ih⟩
  exact this pre
 ·rw [ad_ e] at hr
  exact ⟨r', hr, rfl, rfl, dL_.refl _ _⟩
theorem gM_ {lo hi l n : Nat} {H : List Row} {v1 v2 v3 : Value} {s : List ByteArray} (F : FB lo hi H (.own l n) (.list 0 1 (s.map ax_))) (h : lo ≤ hi) : aH_ lo hi H [.val v1, .val v2, .val v3, .own l n] [.val v1, .val v2, .val v3, .list 0 1 (s.map ax_)] :=
 aH_.val _ (aH_.val _ (aH_.val _ (aH_.cons F.tree (aH_.nil _ _ _) ⟨h, Nat.le_refl _⟩)))
theorem bF_.step2 {l mid hi : Nat} {H H1 H2 : List Row} {E : Tag} {sz : Nat} {done ds : List (List AV)} {cs rs : List AV} (g : bF_ l H E sz done ds) (hf : aH_ mid hi H1 cs rs) (hm : H.length ≤ mid) (hmh : mid ≤ hi) (h2 : hi ≤ H2.length) (hk : ∀ x, l < x → x < H.length → H2[x]? = H[x]?)
 (hk2 : ∀ x, mid ≤ x → x < hi → H2[x]? = H1[x]?) (hr : H2[l]? = some ⟨E, sz, done ++ [cs]⟩) : bF_ l H2 E sz (done ++ [cs]) (ds ++ [rs]) :=
 ⟨hr, bo_.snoc (mid := mid) ((g.tree.keep fun x q1 q2 => hk x (by omega) q2).widen (Nat.le_refl _) hm) ((hf.keep hk2).widen (Nat.le_refl _) h2) ⟨by have := g.lt; omega, by omega⟩⟩
def c94 : LC :=
 .q [.o [.nl 2], .o [.s 6 (.buildSlice 74 4 (.agg #[.int .i64 0, .int .i64 0, .string ⟨#[]⟩, .slice none 0 0]) 0 []), .m 3 6], .q [.o [.m 7 0, .ll 8 7, .ki 9 0], .block 0 (.loop (.q [.o [.bb 10 .lss false 9 8], .k 10
 .skip (.exit 0), .block 1 (.q [.o [.ia 11 4 7 9, .ld 12 4 11, .s 5 (.alloc 74 (.agg #[.int .i64 0, .int .i64 0, .string ⟨#[]⟩, .slice none 0 0])), .st 4 5 12], .o [.fa 13 3 5, .ln 14 13, .c1 15 95 14, .fa 16 3 5, .st 1
 16 15], .o [.m 17 3, .ld 18 4 5, .s 19 (.buildSlice 74 4 (.agg #[.int .i64 0, .int .i64 0, .string ⟨#[]⟩, .slice none 0 0]) 1 [(0, .tmp 18)]), .ap 20 74 4 56 17 19, .m 3 20]]), .o [.bk 21 .add false 9 1, .m 9 21]]))], .o
 [.m 22 3, .m 2 22], .ret]
def vU_ : LF := ⟨1, 23, c94, [.tmp 2]⟩
theorem xV_ : aA_ Tryz.prog Tryz.f94 vU_ := ak_
theorem j1_ (hs : List ac_) (hx : ar_ ac_.sz hs ≤ 1048576) : nQ_ Tryz.prog 94 [.list 0 4 (hs.map ac_.cells)] (.list 0 4 (hs.map ac_.cells)) (fun a H => ∃ l es, a = .own l hs.length ∧ H[l]? = some ⟨.ty 74, 4, es⟩) := by
 refine qR_ mixed Tryz.func94 xV_ rfl (fun h0 => ?_)
 have hl := as_ hx
 simp (disch := (first | omega | (simp only [ls_, la_, lc_, ln_]; first | done | omega))) only [go_sem, reduceCtorEq, ↓reduceIte, vU_, c94]
 refine aE_ (fun n t h => ∃ (k : Nat) (done : List (List AV)), t 3 = .own h0.length k ∧ t 7 = .list 0 4 (hs.map ac_.cells) ∧ t 8 = .val (.int .i64 hs.length) ∧ t 9 = .val (.int .i64 k) ∧ aK_ h0 h ∧ bF_ h0.length h 74 4 done ((hs.take k).map ac_.cells) ∧ done.length = k ∧ n = hs.length - k ∧ k ≤ hs.length) hs.length ?_ ?_
 ·exact ⟨0, [], rfl, rfl, rfl, rfl, aK_.app _ _, bF_.zero (aG_ rfl), rfl, rfl, Nat.zero_le _⟩
 rintro J hJ n t h ⟨k, done, t3, t7, t8, t9, hM, hG, hd, rfl, hk'⟩
 have o2 := hG.row
 have ml := hM.len
 have gl := hG.lt
 by_cases hlt : k < hs.length
 ·have hs1 := as_ (ac_.sz_Subs (bV_ hx (getElem_mem hlt)))
  simp (disch := (first | omega | (simp only [ls_, la_, lc_, ln_]; first | done | omega))) only [aG_, go_sem, Nat.reduceEqDiff, Nat.reduceAdd, ↓reduceIte, t7, t8, t9, hlt, bY_]
  refine eR_ (cZ_ hs[k].Subs hs1) (fun av H2 m2 F2 q2 => ?_)
  obtain ⟨l, rfl⟩ := q2
  have r2 := m2.at (aQ_ o2)
  have r3 := m2.at (f0_ h _)
  have l2 := m2.len
  simp only [la_, lc_, ln_] at l2
  simp (disch := (first | omega | (simp only [ls_, la_, lc_, ln_]; first | done | omega))) only [ad_, aD_, ag_, aG_, ls_, go_sem, Nat.reduceEqDiff, Nat.reduceAdd, Nat.reduceLeDiff, ↓reduceIte, t3, t9, r2, r3, hd, Option.map_some]
  repeat (refine And.intro (by first | omega | (exact strs_cellv _) | assumption | (simp; done)) ?_)
  refine ⟨hs.length - (k + 1), by omega, hJ _ _ _ ⟨k + 1, done ++ [[.val (.int .i64 hs[k].Job), .val (.int .i64 hs[k].Count), .val (.string hs[k].Name), .own l hs[k].Subs.length]], by simp [upd], by simp [upd, t7], by simp [upd, t8], by simp [upd], ((((hM.add _).trans m2).set (by omega)).add _).set (by omega), ?_, by simp [hd], rfl, by omega⟩⟩
  rw [take_succ_eq_append_getElem hlt, map_append]
  refine bF_.step2 hG (gM_ F2 m2.len) (by simp) m2.len (by simp) (fun y q1 q2 => ?_) (fun y q1 q2 => ?_) (aD_ (by simp; omega))
  ·rw [ad_ (by omega), ag_ (by simp; omega), ad_ (by omega), m2.kept y (by simp; omega), ag_ q2]
  ·simp only [la_, lc_, ln_] at q1
   rw [ad_ (by omega), ag_ (by simp; omega), ad_ (by omega)]
 have e : k = hs.length := by omega
 subst e
 rw [take_length] at hG
 simp (disch := (first | omega | (simp only [ls_, la_, lc_, ln_]; first | done | omega))) only [go_sem, Nat.reduceEqDiff, ↓reduceIte, t3, t8, t9, hlt]
 exact ⟨⟨hM, (hG.done hd).widen (by omega) (Nat.le_refl _)⟩, _, _, rfl, o2⟩
theorem aO_.repPre {S : Sit} {H : List Row} {w : World} (m : ai_ S H w) : ∀ {us rs : List AV} {xs : List Value}, aO_ H us rs → aB_ S us xs → aB_ (S.shut w) rs xs ∧ rs.length = us.length
 | [], rs, xs, h, r => by
  unfold aO_ at h
  subst h
  simp [aB_]
 | a :: us, rs, xs, h, r => by
  obtain ⟨d, ds, rfl, h1, h2⟩ := h
  simp only [aB_] at r ⊢
  obtain ⟨v, q, e, r1, r2⟩ := r
  have := aO_.repPre m h2 r2
  exact ⟨⟨v, q, e, h1.out S w v m r1, this.1⟩, by simp [this.2]⟩
theorem bq_.boxL {H : List Row} {l : Nat} {E : Tag} {sz : Nat} {cs rs : List AV} (hl : H[l]? = some ⟨E, sz, [cs]⟩) (hn : 0 < cs.length) (hc : aO_ H cs rs) : bq_ H (.ptr l 1 0 0) (.iptr rs) := ⟨fun S w x m hr => by
 simp only [Rep] at hr
 obtain ⟨_, i, q1, q2, q3⟩ := hr
 obtain ⟨k1, k2, k3, k4⟩ := m.rows l i _ q1 hl
 obtain ⟨b, hb, hx⟩ := q3 (by rw [k1]; rfl)
 rw [hb] at k4
 obtain ⟨_, c, _, j2, j3, j4, j5, j6⟩ := k4.2.cells (.inl (by simp))
 simp only [at_] at j3
 obtain ⟨p1, p2⟩ := aO_.repPre m hc j3.1
 have hown : S.ownsB b = true := c4_.2 ⟨l, i, q1, hb⟩
 have k3' : cs.length = sz := k3 cs (by simp)
 have k1' : i.len = 1 := k1
 have k2' : i.sz = sz := k2
 simp only [Rep]
 refine ⟨b, 0, c, by simpa using hx, by simp [Sit.shut, hown, j2], ?_, ?_⟩
 ·rw [p2, k3', j4, k2', Nat.zero_add]
  have : 1 * sz ≤ i.cap * sz := Nat.mul_le_mul_right _ (by omega)
  omega
 ·rw [drop_zero]; exact p1⟩
structure KB (lo : Nat) (H : List Row) (L : Nat) (x : ab_) (a b : AV) (lh mh : Nat) (th : List Tr) (la ma : Nat) (ta : List Tr) : Prop where
 box : H[L]? = some ⟨.ty 32, 2, [[a, b]]⟩
 kl : KL lo H x a b lh mh th la ma ta
 out1 : L ∉ aF_ lh th
 out2 : L ∉ aF_ la ta
 lt : lo ≤ L
theorem KB.arg {lo : Nat} {H : List Row} {L : Nat} {x : ab_} {a b : AV} {lh mh : Nat} {th : List Tr} {la ma : Nat} {ta : List Tr} (B : KB lo H L x a b lh mh th la ma ta) : bq_ H (.ptr L 1 0 0) (.iptr (ab_.cells x)) := bq_.boxL B.box (by simp) B.kl.args
theorem h5_ (x : ab_) : ab_.cells x = [.list 0 4 (x.Held.map ac_.cells), .list 0 4 (x.Asks.map ae_.cells)] := rfl
def c58 : LC :=
 .q [.o [.bx 1 32 0, .s 2 (.mov (.const (.pointer none)))], .o [.fa 6 0 1, .ln 7 6, .c1 8 94 7, .s 9 (.build z0z [(0, 1), (1, 1)] [(0, .tmp 8)]), .bx 10 32 9, .m 3 10], .q [.o [.fa 11 1 1, .ln 12 11, .ll 13 12, .ki 14 0],
 .block 0 (.ghost (.loop (.q [.o [.bb 15 .lss false 14 13], .k 15 .skip (.exit 0), .block 1 (.q [.o [.ia 16 4 12 14, .ld 17 4 16, .s 5 (.alloc 64 (.agg #[.int .i64 0, .int .i64 0, .string ⟨#[]⟩, .slice none 0 0])), .st 4
 5 17], .o [.fa 18 3 5, .ln 19 18, .c1 20 95 19, .fa 21 3 5, .st 1 21 20], .gops [.m 22 3, .m 23 3, .nc 24 23, .fa 25 1 24, .ln 26 25, .ld 27 4 5] [(.s 28 (.buildSlice 64 4 (.agg #[.int .i64 0, .int .i64 0, .string ⟨#[]⟩,
 .slice none 0 0]) 1 [(0, .tmp 27)]), [.m 22 3, .m 23 3, .nc 24 23, .fa 25 1 24, .ln 26 25]), (.ap 29 64 4 56 26 28, [.m 22 3]), (.nc 30 22, []), (.fa 31 1 30, []), (.st 1 31 29, [])]]), .o [.bk 32 .add false 14 1, .m 14
 32]])))], .o [.m 33 3, .m 2 33], .ret]
def wO_ : LF := ⟨1, 34, c58, [.tmp 2]⟩
theorem xZ_ : aA_ Tryz.prog Tryz.f58 wO_ := ak_
theorem jE_ (x : ab_) (hx : ab_.sz x ≤ 1048576) {H0 : List Row} {K : AV → List Row → Prop} (hk : ∀ (H' : List Row) (L : Nat) (a b : AV) (lh mh : Nat) (th : List Tr) (la ma : Nat) (ta : List Tr), aK_ H0 H' → KB H0.length H' L x a b lh mh th la ma ta → K (.ptr L 1 0 0) H') : callSem Tryz.prog 58 [.agg (ab_.cells x)] H0 K := by
 refine aS_ mixed Tryz.func58 xZ_ (bs_ rfl ?_)
 have hH := ab_.sz_Held hx
 have hA := ab_.sz_Asks hx
 have hAl := as_ hA
 simp (disch := (first | omega | (simp only [ls_, la_, lc_, ln_]; first | done | omega))) only [aG_, go_sem, Nat.reduceEqDiff, Nat.reduceAdd, ↓reduceIte, wO_, c58, h5_]
 refine j1_ x.Held hH _ _ (fun av H1 m1 F1 q1 => ?_)
 obtain ⟨lh, eh, rfl, hlh⟩ := q1
 have p0 := m1.at (i := H0.length) (aG_ rfl)
 have l1 := m1.len
 simp only [la_, lc_, ln_] at l1
 simp (disch := (first | omega | (simp only [ls_, la_, lc_, ln_]; first | done | omega))) only [ag_, go_sem, Nat.reduceEqDiff, Nat.reduceAdd, Nat.reduceLeDiff, ↓reduceIte, p0, dh_, Option.map_some]
 refine fv_ _ (fun t => iS_ (L := H1.length) [.own lh x.Held.length] [] 64 4 (aG_ rfl)) ?_
 refine aE_ (fun n t h => ∃ (k : Nat) (done : List (List AV)), t 3 = .ptr H1.length 1 0 0 ∧ t 12 = .list 0 4 (x.Asks.map ae_.cells) ∧ t 13 = .val (.int .i64 x.Asks.length) ∧ t 14 = .val (.int .i64 k) ∧ aK_ H1 h ∧
  h[H1.length]? = some ⟨32, 2, [[.own lh x.Held.length, .own (H1.length + 1) k]]⟩ ∧ bF_ (H1.length + 1) h 64 4 done ((x.Asks.take k).map ae_.cells) ∧ done.length = k ∧ n = x.Asks.length - k ∧ k ≤ x.Asks.length) x.Asks.length ?_ ?_
 ·refine ⟨0, [], rfl, rfl, rfl, rfl, ((aK_.app _ _).set (Nat.le_refl _)).add _, ?_, bF_.zero ?_, rfl, rfl, Nat.zero_le _⟩
  ·rw [ag_ (by simp), aD_ (by simp)]; simp
  ·rw [aG_ (by simp)]; rfl
 rintro J hJ n t h ⟨k, done, t3, t12, t13, t14, hM, o1, hG, hd, rfl, hk'⟩
 have o2 := hG.row
 have ml := hM.len
 have gl := hG.lt
 by_cases hlt : k < x.Asks.length
 ·have hs1 := as_ (ae_.sz_Subs (bV_ hA (getElem_mem hlt)))
  simp (disch := (first | omega | (simp only [ls_, la_, lc_, ln_]; first | done | omega))) only [aG_, go_sem, Nat.reduceEqDiff, Nat.reduceAdd, ↓reduceIte, t12, t13, t14, hlt, dG_]
  refine eR_ (cZ_ x.Asks[k].Subs hs1) (fun av H2 m2 F2 q2 => ?_)
  obtain ⟨l, rfl⟩ := q2
  have r1 := m2.at (aQ_ o1)
  have r2 := m2.at (aQ_ o2)
  have r3 := m2.at (f0_ h _)
  have l2 := m2.len
  simp only [la_, lc_, ln_] at l2
  simp (disch := (first | omega | (simp only [ls_, la_, lc_, ln_]; first | done | omega))) only [ad_, aD_, ag_, aG_, ls_, go_sem, Nat.reduceEqDiff, Nat.reduceAdd, Nat.reduceLeDiff, ↓reduceIte, t3, t14, r1, r2, r3, hd, Option.map_some]
  repeat (refine And.intro (by first | omega | (exact strs_cellv _) | assumption | (simp; done)) ?_)
  refine ⟨x.Asks.length - (k + 1), by omega, hJ _ _ _ ⟨k + 1, done ++ [[.val (.int .i64 x.Asks[k].Job), .val (.int .i64 x.Asks[k].Until), .val (.string x.Asks[k].Name), .own l x.Asks[k].Subs.length]], by simp [upd, t3], by simp [upd, t12], by simp [upd, t13], by simp [upd], ⟨by simp; omega, fun y hy => ?_⟩, aD_ (by simp; omega), ?_, by simp [hd], rfl, by omega⟩⟩
  ·rw [ad_ (by omega), ad_ (by omega), ag_ (by simp; omega), ad_ (by omega), m2.kept y (by simp; omega), ag_ (by omega)]; exact hM.kept y hy
  rw [take_succ_eq_append_getElem hlt, map_append]
  refine bF_.step2 hG (gM_ F2 m2.len) (by simp) m2.len (by simp) (fun y q1 q2 => ?_) (fun y q1 q2 => ?_) (by rw [ad_ (by omega)]; exact aD_ (by simp; omega))
  ·rw [ad_ (by omega), ad_ (by omega), ag_ (by simp; omega), ad_ (by omega), m2.kept y (by simp; omega), ag_ q2]
  ·simp only [la_, lc_, ln_] at q1
   rw [ad_ (by omega), ad_ (by omega), ag_ (by simp; omega), ad_ (by omega)]
 have e : k = x.Asks.length := by omega
 subst e
 rw [take_length] at hG
 simp (disch := (first | omega | (simp only [ls_, la_, lc_, ln_]; first | done | omega))) only [go_sem, Nat.reduceEqDiff, ↓reduceIte, t3, t13, t14, hlt]
 have hla := FB.own_at F1
 simp only [la_, lc_, ln_] at hla
 obtain ⟨n1, f1, a1, a2, a3⟩ := F1.tree
 obtain ⟨n2, f2, b1, b2, b3⟩ := (hG.done hd)
 simp only [la_, lc_, ln_] at a3
 have hb : ∀ y ∈ f1, h[y]? = H1[y]? := fun y hy => hM.kept y (a3 y hy).2
 have own : au_ (Own h (n1 + (n2 + 0 + 1) + 1)) [.own lh x.Held.length, .own (H1.length + 1) x.Asks.length] (ab_.cells x) (f1 ++ (f2 ++ [])) := au_.mk_list (Own.keep hb a1) (au_.mk_list b1 (au_.mk_nil (Own h (0 + 1))))
 rw [append_nil] at own
 obtain ⟨th, ta, k1, hf⟩ := KL.of (lo := H0.length) own (by
  rw [nodup_append]
  exact ⟨a2, b2, fun y hy z hz => by have := a3 y hy; have := b3 z hz; omega⟩) (fun y hy => by
   rcases mem_append.1 hy with q | q
   ·have := a3 y q; omega
   ·have := b3 y q; omega) ⟨eh, by rw [hM.kept lh (by omega)]; exact hlh⟩ ⟨_, o2⟩
 have hout : H1.length ∉ f1 ++ f2 := fun q => by
  rcases mem_append.1 q with q | q
  ·have := a3 _ q; omega
  ·have := b3 _ q; omega
 rw [hf] at hout
 refine hk h H1.length _ _ lh _ th (H1.length + 1) _ ta ⟨by omega, fun y hy => ?_⟩ ⟨o1, k1, fun q => hout (mem_append_left _ q), fun q => hout (mem_append_right _ q), by omega⟩
 rw [hM.kept y (by omega), m1.kept y (by simp; omega), ag_ hy]
abbrev bxL (x : ab_) : Row := ⟨32, 2, [[.list 0 4 (x.Held.map ac_.cells), .list 0 4 (x.Asks.map ae_.cells)]]⟩
def c55 : LC :=
 .q [.o [.bx 1 32 0, .s 2 (.alloc 32 z0z)], .o [.s 8 (.build z0z [(0, 1), (1, 1)] []), .s 3 (.alloc 32 z0z), .st 2 3 8], .q [.o [.ki 4 0], .block 0 (.ghost (.loop (.q [.q [.o [.m 9 4, .fa 10 0 1, .ln 11 10, .ll 12 11, .bb
 13 .lss false 9 12], .k 13 .skip (.exit 0)], .block 1 (.q [.o [.fa 16 0 1, .ln 17 16, .m 18 4, .ia 19 4 17 18, .ld 20 4 19, .s 5 (.alloc 74 (.agg #[.int .i64 0, .int .i64 0, .string ⟨#[]⟩, .slice none 0 0])), .st 4 5
 20], .o [.fa 21 3 5, .ln 22 21, .c1 23 90 22, .fa 24 3 5, .st 1 24 23], .o [.fa 25 0 3, .ln 26 25, .ld 27 4 5, .s 28 (.buildSlice 74 4 (.agg #[.int .i64 0, .int .i64 0, .string ⟨#[]⟩, .slice none 0 0]) 1 [(0, .tmp 27)]),
 .ap 29 74 4 56 26 28, .fa 30 0 3, .st 1 30 29]]), .o [.m 14 4, .bk 15 .add false 14 1, .m 4 15]])))], .q [.o [.ki 6 0], .block 2 (.ghost (.loop (.q [.q [.o [.m 31 6, .fa 32 1 1, .ln 33 32, .ll 34 33, .bb 35 .lss false 31
 34], .k 35 .skip (.exit 2)], .block 3 (.q [.o [.fa 38 1 1, .ln 39 38, .m 40 6, .ia 41 4 39 40, .ld 42 4 41, .s 7 (.alloc 64 (.agg #[.int .i64 0, .int .i64 0, .string ⟨#[]⟩, .slice none 0 0])), .st 4 7 42], .o [.fa 43 3
 7, .ln 44 43, .c1 45 90 44, .fa 46 3 7, .st 1 46 45], .o [.fa 47 1 3, .ln 48 47, .ld 49 4 7, .s 50 (.buildSlice 64 4 (.agg #[.int .i64 0, .int .i64 0, .string ⟨#[]⟩, .slice none 0 0]) 1 [(0, .tmp 49)]), .ap 51 64 4 56 48
 50, .fa 52 1 3, .st 1 52 51]]), .o [.m 36 6, .bk 37 .add false 36 1, .m 6 37]])))], .o [.ld 53 2 3, .st 2 2 53], .ret]
def w1_ : LF := ⟨1, 54, c55, [.cell 2 (some 2)]⟩
theorem x2_ : aA_ Tryz.prog Tryz.f55 w1_ := ak_
theorem lI_ (x : ab_) (hx : ab_.sz x ≤ 1048576) {H0 : List Row} {K : AV → List Row → Prop} (hk : ∀ (H' : List Row) (lh nh : Nat) (th : List Tr) (la na : Nat) (ta : List Tr), aK_ H0 H' → KL H0.length H' x (.own lh nh) (.own la na) lh th.length th la ta.length ta → K (.agg [.own lh nh, .own la na]) H') : callSem Tryz.prog 55 [.agg (ab_.cells x)] H0 K := by
 refine aS_ mixed Tryz.func55 x2_ (bs_ rfl ?_)
 have hH := ab_.sz_Held hx
 have hA := ab_.sz_Asks hx
 have hHl := as_ hH
 have hAl := as_ hA
 simp (disch := (first | omega | (simp only [ls_, la_, lc_, ln_]; first | done | omega))) only [cA_, go_sem, reduceEqDiff, Nat.reduceAdd, ↓reduceIte, w1_, c55, h5_, dh_, Option.map_some]
 refine fv_ _ (fun t => iS_ (E := .ty 32) (s := 2) (L := H0.length + 2) [] [.val (.slice none 0 0)] 74 4 (by first | exact cA_ rfl | (rw [aD_ (by simp)]; rfl))) ?_
 refine aE_ (fun n t h => ∃ (k : Nat) (done : List (List AV)), t 1 = .ptr H0.length 1 0 0 ∧ t 2 = .ptr (H0.length + 1) 1 0 0 ∧ t 3 = .ptr (H0.length + 2) 1 0 0 ∧ t 4 = .val (.int .i64 k) ∧ aK_ H0 h ∧ h[H0.length]? = some (bxL x) ∧ h[H0.length + 1]? = some ⟨32, 2, [[.val (.slice none 0 0), .val (.slice none 0 0)]]⟩ ∧
  h[H0.length + 2]? = some ⟨32, 2, [[.own (H0.length + 3) k, .val (.slice none 0 0)]]⟩ ∧ bF_ (H0.length + 3) h 74 4 done ((x.Held.take k).map ac_.cells) ∧ done.length = k ∧ n = x.Held.length - k ∧ k ≤ x.Held.length) x.Held.length ?_ ?_
 ·exact ⟨0, [], rfl, rfl, rfl, rfl, ⟨by simp, fun y hy => by (repeat (first | rw [ad_ (by omega)] | rw [ag_ (by first | omega | (simp only [ls_, la_, lc_, ln_]; omega))]))⟩, by (repeat (first | rw [ad_ (by omega)] | rw [ag_ (by first | omega | (simp only [ls_, la_, lc_, ln_]; omega))])); exact aG_ rfl, by (repeat (first | rw [ad_ (by omega)] | rw [ag_ (by first | omega | (simp only [ls_, la_, lc_, ln_]; omega))])); exact bw_ rfl, by rw [ag_ (by simp), aD_ (by simp)]; simp, bF_.zero (aG_ (by simp)), rfl, rfl, Nat.zero_le _⟩
 rintro J hJ n t h ⟨k, done, t1, t2, t3, t4, hM, o0, o1, o3, hG, hd, rfl, hk'⟩
 have o2 := hG.row
 have ml := hM.len
 have gl := hG.lt
 by_cases hlt : k < x.Held.length
 ·have hs1 := as_ (ac_.sz_Subs (bV_ hH (getElem_mem hlt)))
  simp (disch := (first | omega | (simp only [ls_, la_, lc_, ln_]; first | done | omega))) only [aG_, go_sem, reduceEqDiff, Nat.reduceAdd, ↓reduceIte, t1, t4, o0, hlt, bY_]
  refine eR_ (ek_ x.Held[k].Subs hs1) (fun av H2 m2 F2 q2 => ?_)
  obtain ⟨l, rfl⟩ := q2
  have r0 := m2.at (aQ_ o0)
  have r1 := m2.at (aQ_ o1)
  have r2 := m2.at (aQ_ o2)
  have r3 := m2.at (aQ_ o3)
  have r4 := m2.at (f0_ h _)
  have l2 := m2.len
  simp only [la_, lc_, ln_] at l2
  simp (disch := (first | omega | (simp only [ls_, la_, lc_, ln_]; first | done | omega))) only [ad_, aD_, ag_, aG_, ls_, go_sem, reduceEqDiff, Nat.reduceAdd, reduceLeDiff, ↓reduceIte, t3, t4, r2, r3, r4, hd, Option.map_some]
  repeat (refine And.intro (by first | omega | (exact strs_cellv _) | assumption | (simp; done)) ?_)
  refine ⟨x.Held.length - (k + 1), by omega, hJ _ _ _ ⟨k + 1, done ++ [[.val (.int .i64 x.Held[k].Job), .val (.int .i64 x.Held[k].Count), .val (.string x.Held[k].Name), .own l x.Held[k].Subs.length]], by simp [upd, t1], by simp [upd, t2], by simp [upd, t3], by simp [upd], ⟨by simp; omega, fun y hy => ?_⟩, ?_, ?_, aD_ (by simp; omega), ?_, by simp [hd], rfl, by omega⟩⟩
  ·rw [ad_ (by omega), ad_ (by omega), ag_ (by simp; omega), ad_ (by omega), m2.kept y (by simp; omega), ag_ (by omega)]; exact hM.kept y hy
  ·rw [ad_ (by omega), ad_ (by omega), ag_ (by simp; omega), ad_ (by omega)]; exact r0
  ·rw [ad_ (by omega), ad_ (by omega), ag_ (by simp; omega), ad_ (by omega)]; exact r1
  rw [take_succ_eq_append_getElem hlt, map_append]
  refine bF_.step2 hG (gM_ F2 m2.len) (by simp) m2.len (by simp) (fun y q1 q2 => ?_) (fun y q1 q2 => ?_) (by rw [ad_ (by omega)]; exact aD_ (by simp; omega))
  ·rw [ad_ (by omega), ad_ (by omega), ag_ (by simp; omega), ad_ (by omega), m2.kept y (by simp; omega), ag_ q2]
  ·simp only [la_, lc_, ln_] at q1
   rw [ad_ (by omega), ad_ (by omega), ag_ (by simp; omega), ad_ (by omega)]
 have e : k = x.Held.length := by omega
 subst e
 rw [take_length] at hG
 simp (disch := (first | omega | (simp only [ls_, la_, lc_, ln_]; first | done | omega))) only [go_sem, reduceEqDiff, ↓reduceIte, t1, t4, o0, hlt]
 refine fv_ _ (fun t => iS_ (L := H0.length + 2) [.own (H0.length + 3) x.Held.length] [] 64 4 o3) ?_
 obtain ⟨Hc, hHc⟩ : ∃ Hc, Hc = h := ⟨_, rfl⟩
 have c0 : Hc[H0.length]? = _ := hHc ▸ o0
 have c1 : Hc[H0.length + 1]? = _ := hHc ▸ o1
 have cM : aK_ H0 Hc := hHc ▸ hM
 have cl : H0.length + 3 < Hc.length := hHc ▸ gl
 have cG : bF_ (H0.length + 3) Hc 74 4 done (x.Held.map ac_.cells) := hHc ▸ hG
 rw [← hHc]
 clear hJ hM o0 o1 o2 o3 hG ml gl hHc hk' h hlt J
 refine aE_ (fun n t h => ∃ (k : Nat) (done2 : List (List AV)), t 1 = .ptr H0.length 1 0 0 ∧ t 2 = .ptr (H0.length + 1) 1 0 0 ∧ t 3 = .ptr (H0.length + 2) 1 0 0 ∧ t 6 = .val (.int .i64 k) ∧ Hc.length ≤ h.length ∧ (∀ y, y < Hc.length → y ≠ H0.length + 2 → h[y]? = Hc[y]?) ∧
  h[H0.length + 2]? = some ⟨32, 2, [[.own (H0.length + 3) x.Held.length, .own Hc.length k]]⟩ ∧ bF_ Hc.length h 64 4 done2 ((x.Asks.take k).map ae_.cells) ∧ done2.length = k ∧ n = x.Asks.length - k ∧ k ≤ x.Asks.length) x.Asks.length ?_ ?_
 ·exact ⟨0, [], by simp [upd, t1], by simp [upd, t2], by simp [upd, t3], by simp [upd], by simp, fun y q1 q2 => by (repeat (first | rw [ad_ (by omega)] | rw [ag_ (by first | omega | (simp only [ls_]; omega))])), by rw [ag_ (by simp; omega), aD_ (by omega)]; rfl, bF_.zero (aG_ (by simp)), rfl, rfl, Nat.zero_le _⟩
 clear t1 t2 t3 t4
 rintro J hJ n t h ⟨k, done2, t1, t2, t3, t6, hl, hkp, o3, hG, hd2, rfl, hk'⟩
 have o0 : h[H0.length]? = _ := (hkp _ (by omega) (by omega)).trans c0
 have o1 : h[H0.length + 1]? = _ := (hkp _ (by omega) (by omega)).trans c1
 have o2 := hG.row
 have gl := hG.lt
 by_cases hlt : k < x.Asks.length
 ·have hs1 := as_ (ae_.sz_Subs (bV_ hA (getElem_mem hlt)))
  simp (disch := (first | omega | (simp only [ls_, la_, lc_, ln_]; first | done | omega))) only [aG_, go_sem, reduceEqDiff, Nat.reduceAdd, ↓reduceIte, t1, t6, o0, hlt, dG_]
  refine eR_ (ek_ x.Asks[k].Subs hs1) (fun av H2 m2 F2 q2 => ?_)
  obtain ⟨l, rfl⟩ := q2
  have r0 := m2.at (aQ_ o0)
  have r1 := m2.at (aQ_ o1)
  have r2 := m2.at (aQ_ o2)
  have r3 := m2.at (aQ_ o3)
  have r4 := m2.at (f0_ h _)
  have l2 := m2.len
  simp only [la_, lc_, ln_] at l2
  simp (disch := (first | omega | (simp only [ls_, la_, lc_, ln_]; first | done | omega))) only [ad_, aD_, ag_, aG_, ls_, go_sem, reduceEqDiff, Nat.reduceAdd, reduceLeDiff, ↓reduceIte, t3, t6, r2, r3, r4, hd2, Option.map_some]
  repeat (refine And.intro (by first | omega | (exact strs_cellv _) | assumption | (simp; done)) ?_)
  refine ⟨x.Asks.length - (k + 1), by omega, hJ _ _ _ ⟨k + 1, done2 ++ [[.val (.int .i64 x.Asks[k].Job), .val (.int .i64 x.Asks[k].Until), .val (.string x.Asks[k].Name), .own l x.Asks[k].Subs.length]], by simp [upd, t1], by simp [upd, t2], by simp [upd, t3], by simp [upd], by simp; omega, fun y q1 q2 => ?_, aD_ (by simp; omega), ?_, by simp [hd2], rfl, by omega⟩⟩
  ·rw [ad_ (by omega), ad_ (by omega), ag_ (by simp; omega), ad_ (by omega), m2.kept y (by simp; omega), ag_ (by omega)]; exact hkp y q1 q2
  rw [take_succ_eq_append_getElem hlt, map_append]
  refine bF_.step2 hG (gM_ F2 m2.len) (by simp) m2.len (by simp) (fun y q1 q2 => ?_) (fun y q1 q2 => ?_) (by rw [ad_ (by omega)]; exact aD_ (by simp; omega))
  ·rw [ad_ (by omega), ad_ (by omega), ag_ (by simp; omega), ad_ (by omega), m2.kept y (by simp; omega), ag_ q2]
  ·simp only [la_, lc_, ln_] at q1
   rw [ad_ (by omega), ad_ (by omega), ag_ (by simp; omega), ad_ (by omega)]
 have e : k = x.Asks.length := by omega
 subst e
 rw [take_length] at hG
 simp (disch := (first | omega | (simp only [ls_, la_, lc_, ln_]; first | done | omega))) only [aD_, go_sem, reduceEqDiff, Nat.reduceAdd, ↓reduceIte, t1, t2, t3, t6, o0, o1, o3, hlt]
 have c2 : aP_ (H0.length + 3) Hc.length h (.own (H0.length + 3) x.Held.length) (.list 0 4 (x.Held.map ac_.cells)) := (cG.done hd).keep fun y q1 q2 => hkp y q2 (by omega)
 obtain ⟨n1, f1, a1, a2, a3⟩ := c2
 obtain ⟨n2, f2, b1, b2, b3⟩ := (hG.done hd2)
 have own : au_ (Own h (n1 + (n2 + 0 + 1) + 1)) [.own (H0.length + 3) x.Held.length, .own Hc.length x.Asks.length] (ab_.cells x) (f1 ++ (f2 ++ [])) := au_.mk_list a1 (au_.mk_list b1 (au_.mk_nil (Own h (0 + 1))))
 rw [append_nil] at own
 obtain ⟨th, ta, k1, hf⟩ := KL.of (lo := H0.length) own (by
  rw [nodup_append]
  exact ⟨a2, b2, fun y hy z hz => by have := a3 y hy; have := b3 z hz; omega⟩) (fun y hy => by
   rcases mem_append.1 hy with q | q
   ·have := a3 y q; omega
   ·have := b3 y q; omega) ⟨done, by rw [hkp _ cl (by omega)]; exact cG.row⟩ ⟨_, o2⟩
 have hlow : ∀ y ∈ f1 ++ f2, H0.length + 3 ≤ y := fun y q => by
  rcases mem_append.1 q with q | q
  ·have := a3 _ q; omega
  ·have := b3 _ q; omega
 rw [hf] at hlow
 refine hk _ (H0.length + 3) _ th Hc.length _ ta ⟨by simp; omega, fun y hy => ?_⟩ (k1.keep (fun y hy => ?_) (fun y hy => ?_) (by simp))
 ·rw [ad_ (by omega), hkp y (by omega) (by omega)]; exact cM.kept y hy
 ·have := hlow y (mem_append_left _ hy); exact ad_ (by omega)
 ·have := hlow y (mem_append_right _ hy); exact ad_ (by omega)
structure Fr (H H' : List Row) (L : Nat) (F F' : List Nat) : Prop where
 len : H.length ≤ H'.length
 kept : ∀ y, y < H.length → y ≠ L → y ∉ F → H'[y]? = H[y]?
 sub : ∀ y ∈ F', y ∈ F ∨ H.length ≤ y
theorem Fr.refl (H : List Row) (L : Nat) (F : List Nat) : Fr H H L F F := ⟨Nat.le_refl _, fun _ _ _ _ => rfl, fun _ h => .inl h⟩
theorem Fr.trans {H H1 H2 : List Row} {L : Nat} {F F1 F2 : List Nat} (h1 : Fr H H1 L F F1) (h2 : Fr H1 H2 L F1 F2) : Fr H H2 L F F2 := by
 have l1 := h1.len
 have l2 := h2.len
 refine ⟨by omega, fun y q1 q2 q3 => ?_, fun y q => ?_⟩
 ·rw [h2.kept y (by omega) q2 (fun z => (h1.sub y z).elim q3 fun w => by omega)]
  exact h1.kept y q1 q2 q3
 ·rcases h2.sub y q with z | z
  ·exact h1.sub y z
  ·exact .inr (by omega)
theorem Fr.more {H H1 : List Row} (m : aK_ H H1) (L : Nat) (F : List Nat) : Fr H H1 L F F := ⟨m.len, fun y q _ _ => m.kept y q, fun _ h => .inl h⟩
def KX (lo : Nat) (H : List Row) (L : Nat) (x : ab_) (F : List Nat) : Prop := ∃ a b lh mh th la ma ta, KB lo H L x a b lh mh th la ma ta ∧ F = aF_ lh th ++ aF_ la ta
theorem KX.arg {lo : Nat} {H : List Row} {L : Nat} {x : ab_} {F : List Nat} (k : KX lo H L x F) : bq_ H (.ptr L 1 0 0) (.iptr (ab_.cells x)) := by
 obtain ⟨a, b, lh, mh, th, la, ma, ta, B, _⟩ := k
 exact B.arg
theorem KX.out {lo : Nat} {H : List Row} {L : Nat} {x : ab_} {F : List Nat} (k : KX lo H L x F) : L ∉ F ∧ lo ≤ L ∧ L < H.length ∧ ∀ y ∈ F, lo ≤ y ∧ y < H.length := by
 obtain ⟨a, b, lh, mh, th, la, ma, ta, B, rfl⟩ := k
 refine ⟨fun q => (mem_append.1 q).elim B.out1 B.out2, B.lt, (List.getElem?_eq_some_iff.1 B.box).1, fun y q => ?_⟩
 rcases mem_append.1 q with q | q
 ·exact B.kl.held.lows y q
 ·exact B.kl.asks.lows y q
theorem KX.keep {lo : Nat} {H H' : List Row} {L : Nat} {x : ab_} {F : List Nat} (k : KX lo H L x F) (hk : ∀ y, y = L ∨ y ∈ F → H'[y]? = H[y]?) (hl : H.length ≤ H'.length) : KX lo H' L x F := by
 obtain ⟨a, b, lh, mh, th, la, ma, ta, B, rfl⟩ := k
 exact ⟨a, b, lh, mh, th, la, ma, ta, ⟨(hk L (.inl rfl)).trans B.box, B.kl.keep (fun y q => hk y (.inr (mem_append_left _ q))) (fun y q => hk y (.inr (mem_append_right _ q))) hl, B.out1, B.out2, B.lt⟩, rfl⟩
theorem KX.more {lo : Nat} {H H' : List Row} {L : Nat} {x : ab_} {F : List Nat} (k : KX lo H L x F) (m : aK_ H H') : KX lo H' L x F := by
 obtain ⟨h1, h2, h3, h4⟩ := k.out
 exact k.keep (fun y q => m.kept y (q.elim (fun e => by rw [e]; exact h3) fun e => (h4 y e).2)) m.len
theorem hB_ {k : Nat} {H : List Row} {c : List AV} {f : List Nat} {g : ac_} (h : au_ (Own H k) c (ac_.cells g) f) : ∃ c4, c = [.val (.int .i64 g.Job), .val (.int .i64 g.Count), .val (.string g.Name), c4] ∧ c4.cell = true ∧ Own H k c4 (.list 0 1 (g.Subs.map ax_)) f := by
 rw [bY_] at h
 obtain ⟨c1, e1, k1⟩ := h.inv_val
 obtain ⟨c2, e2, k2⟩ := k1.inv_val
 obtain ⟨c3, e3, k3⟩ := k2.inv_val
 obtain ⟨c4, cs, g1, g2, e4, e5, h1, k4⟩ := k3.inv_cons
 obtain ⟨e6, e7⟩ := k4.inv_nil
 subst e7 e6 e5 e4 e3 e2 e1
 exact ⟨c4, rfl, h1.cell_list, by rw [append_nil]; exact h1⟩
theorem g4_ {k : Nat} {H : List Row} {c : List AV} {f : List Nat} {g : ae_} (h : au_ (Own H k) c (ae_.cells g) f) : ∃ c4, c = [.val (.int .i64 g.Job), .val (.int .i64 g.Until), .val (.string g.Name), c4] ∧ c4.cell = true ∧ Own H k c4 (.list 0 1 (g.Subs.map ax_)) f := by
 rw [dG_] at h
 obtain ⟨c1, e1, k1⟩ := h.inv_val
 obtain ⟨c2, e2, k2⟩ := k1.inv_val
 obtain ⟨c3, e3, k3⟩ := k2.inv_val
 obtain ⟨c4, cs, g1, g2, e4, e5, h1, k4⟩ := k3.inv_cons
 obtain ⟨e6, e7⟩ := k4.inv_nil
 subst e7 e6 e5 e4 e3 e2 e1
 exact ⟨c4, rfl, h1.cell_list, by rw [append_nil]; exact h1⟩
theorem cg_ {n : ByteArray} {s : List ByteArray} (h : cD_ n s = true) : n.size ≤ 1048576 ∧ ar_ ByteArray.size s ≤ 1048576 ∧ s.length ≤ 1048576 := by
 have := ix_ h
 have h2 := bQ_ (f := ByteArray.size) (xs := s)
 exact ⟨by omega, by omega, by omega⟩
theorem sL_ {lo : Nat} {H : List Row} {L : Nat} {x : ab_} {F : List Nat} (k : KX lo H L x F) (hl : bP_ x) (j : Int) {n : ByteArray} {s : List ByteArray} {sa : AV} (ht : cD_ n s = true) (hsa : bq_ H sa (.list 0 1 (s.map ax_))) :
 aa_ Tryz.prog 96 [.ptr L 1 0 0, .val (.int .i64 j), .val (.string n), sa] H (.tup [.val (.int .i64 (bg_ x.Held j n s)), .val (.bool (bD_ x.Held j n s))]) :=
 aa_.anyR rfl (fun h => gm_ x j n s hl.big (cg_ ht).1 (cg_ ht).2.1 (bg_ x.Held j n s) (ht_ _ _ _ _) (d3_ hl.sorted j n s) (bD_ x.Held j n s) (jC_ hl.sorted j n s) h) (aO_.cons k.arg (aO_.cons (bq_.same rfl) (aO_.cons (bq_.same rfl) (aO_.cons hsa aO_.nil))))
def u7_ : LC :=
 .q [.o [.f 8], .o [.m 12 0, .m 13 1, .m 14 2, .m 15 3, .s 16 (.call 96 [.tmp 12, .tmp 13, .tmp 14, .tmp 15]), .m 11 16, .ex 17 11 0, .ex 18 11 1, .m 9 17, .m 10 18], .q [.o [.m 19 10], .k 19 (.q [.o [.m 20 0, .nc 21 20,
 .fa 22 0 21, .ln 23 22, .m 24 9, .ia 25 4 23 24, .fa 26 1 25, .ln 27 26, .bk 28 .lss false 27 9, .m 8 28], .ret]) .skip], .o [.m 29 0, .nc 30 29, .fa 31 0 30, .ln 32 31, .ll 33 32, .bk 34 .lss false 33 16, .m 8 34],
 .ret]
def tS_ : LF := ⟨4, 35, u7_, [.tmp 8]⟩
theorem wT_ : aA_ Tryz.prog Tryz.f102 tS_ := ak_
theorem jA_ (x : ab_) (hl : bP_ x) (j : Int) (n : ByteArray) (s : List ByteArray) (ht : cD_ n s = true) (h : List Row) : aa_ Tryz.prog 102 [.iptr (ab_.cells x), .val (.int .i64 j), .val (.string n), .list 0 1 (s.map ax_)] h (.val (.bool (dv_ x.Held j n s))) := by
 refine ap_ mixed Tryz.func102 wT_ rfl rfl ?_ h
 have hlen := hl.len
 simp (disch := omega) only [tS_, u7_, h5_, go_sem, Nat.reduceEqDiff, reduceCtorEq, ↓reduceIte]
 refine aa_.call (gm_ x j n s hl.big (cg_ ht).1 (cg_ ht).2.1 (bg_ x.Held j n s) (ht_ _ _ _ _) (d3_ hl.sorted j n s) (bD_ x.Held j n s) (jC_ hl.sorted j n s) _) ?_
 cases q : bD_ x.Held j n s
 ·have hr : dv_ x.Held j n s = decide (x.Held.length < 16) := by unfold dv_; rw [pn_ q]
  rw [hr]
  simp (disch := omega) only [go_sem, Nat.reduceEqDiff, Nat.reduceAdd, reduceCtorEq, ↓reduceIte]
  exact ah_ (by rw [decide_eq_decide]; omega)
 ·obtain ⟨hm, hf⟩ := gV_ hl.sorted q
  have hr : dv_ x.Held j n s = decide (x.Held[bg_ x.Held j n s].Count < 9) := by unfold dv_; rw [hf]
  rw [hr]
  simp (disch := omega) only [bY_, go_sem, Nat.reduceEqDiff, Nat.reduceAdd, Nat.reduceLeDiff, reduceCtorEq, ↓reduceIte]
  exact ah_ rfl
theorem h9_ {lo : Nat} {H : List Row} {x : ab_} {a b : AV} {lh mh : Nat} {th : List Tr} {la ma : Nat} {ta : List Tr} (k : KL lo H x a b lh mh th la ma ta) {p : Nat} (hp : p < x.Held.length) : ∃ hm : p < mh, ∃ ht : p < th.length, th[p].d = ac_.cells x.Held[p] := by
 have h1 := k.mh_eq
 have h2 := k.held.le
 refine ⟨by omega, by omega, ?_⟩
 have := congrArg (fun z => z[p]?) k.hd
 simp only [getElem?_map] at this
 rw [getElem?_take, if_pos (by omega), getElem?_eq_getElem (by omega), getElem?_eq_getElem hp] at this
 simpa using this
theorem jT_ {lo : Nat} {H : List Row} {x : ab_} {a b : AV} {lh mh : Nat} {th : List Tr} {la ma : Nat} {ta : List Tr} (k : KL lo H x a b lh mh th la ma ta) {p : Nat} (hp : p < x.Asks.length) : ∃ hm : p < ma, ∃ ht : p < ta.length, ta[p].d = ae_.cells x.Asks[p] := by
 have h1 := k.ma_eq
 have h2 := k.asks.le
 refine ⟨by omega, by omega, ?_⟩
 have := congrArg (fun z => z[p]?) k.ad
 simp only [getElem?_map] at this
 rw [getElem?_take, if_pos (by omega), getElem?_eq_getElem (by omega), getElem?_eq_getElem hp] at this
 simpa using this
theorem jX_ {P : Program} {f : FuncId} {a : AV} {l m : Nat} {ts : List Tr} {rest : List AV} {h : List Row} {K : AV → List Row → Prop} (ha : Sl a l m ts) (hc : callSem P f (.sub l ts.length 0 m :: rest) h K) : callSem P f (a :: rest) h K := by
 rcases ha with rfl | ⟨rfl, rfl⟩
 ·exact hc
 ·exact callSem.own_sub hc
theorem KB.bumped {lo : Nat} {H : List Row} {L : Nat} {x : ab_} {a b : AV} {lh mh : Nat} {th : List Tr} {la ma : Nat} {ta : List Tr} (B : KB lo H L x a b lh mh th la ma ta) {p : Nat} (hp : p < x.Held.length) (hpt : p < th.length) (d : Int) {c4 : AV} (hc : th[p].c = [.val (.int .i64 x.Held[p].Job), .val (.int .i64 x.Held[p].Count), .val (.string x.Held[p].Name), c4]) (hd : th[p].d = ac_.cells x.Held[p]) :
 ∃ th', th'.length = th.length ∧ th'.map Tr.c = (th.map Tr.c).set p [.val (.int .i64 x.Held[p].Job), .val (.int .i64 (x.Held[p].Count + d)), .val (.string x.Held[p].Name), c4] ∧ aF_ lh th' = aF_ lh th ∧ KB lo (H.set lh ⟨.ty 74, 4, th'.map Tr.c⟩) L ⟨x.Held.modify p (f3_ d), x.Asks⟩ a b lh mh th' la ma ta := by
 have k := B.kl
 obtain ⟨q, hq⟩ := k.held.tree
 have ho := hq th[p] (getElem_mem hpt)
 rw [hd, hc] at ho
 obtain ⟨c4', e, hcell, ho4⟩ := hB_ ho
 simp only [List.cons.injEq, true_and, and_true] at e
 subst e
 obtain ⟨t', ht'⟩ : ∃ t' : Tr, t' = ⟨[.val (.int .i64 x.Held[p].Job), .val (.int .i64 (x.Held[p].Count + d)), .val (.string x.Held[p].Name), c4], ac_.cells (f3_ d x.Held[p]), th[p].f⟩ := ⟨_, rfl⟩
 have tc : t'.c = [.val (.int .i64 x.Held[p].Job), .val (.int .i64 (x.Held[p].Count + d)), .val (.string x.Held[p].Name), c4] := by rw [ht']
 have td : t'.d = ac_.cells (f3_ d x.Held[p]) := by rw [ht']
 have tf : t'.f = th[p].f := by rw [ht']
 have hfoot : aF_ lh (th.set p t') = aF_ lh th := by
  unfold aF_
  congr 2
  rw [map_set, tf]
  apply ext_getElem?
  intro i
  rw [getElem?_set]
  split
  ·rename_i e
   subst e
   rw [if_pos (by simpa using hpt), getElem?_map, getElem?_eq_getElem hpt]; rfl
  ·rfl
 have hsl := k.held.put (t' := t') hpt tf (by rw [tc]; exact ⟨rfl, by simp only [all_cons, hcell]; rfl⟩) (fun n hn => by
  rw [hd, hc] at hn
  obtain ⟨c5, e5, _, h5⟩ := hB_ hn
  simp only [List.cons.injEq, true_and, and_true] at e5
  subst e5
  rw [tc, td, tf]
  cases n with
  | zero => exact h5.elim
  | succ n =>
   have o1 : au_ (Own H (n + 1)) [c4] [.list 0 1 (x.Held[p].Subs.map ax_)] th[p].f := ⟨_, _, th[p].f, [], rfl, (append_nil _).symm, h5, au_.mk_nil _⟩
   have := au_.mk_val (.int .i64 x.Held[p].Job) (au_.mk_val (.int .i64 (x.Held[p].Count + d)) (au_.mk_val (.string x.Held[p].Name) o1))
   exact this)
 have hkeep : ∀ y, y ≠ lh → (H.set lh ⟨.ty 74, 4, (th.set p t').map Tr.c⟩)[y]? = H[y]? := fun y hy => ad_ (Ne.symm hy)
 have hLl : L ≠ lh := fun e => B.out1 (by rw [e]; exact mem_cons_self)
 refine ⟨th.set p t', by simp, by rw [map_set, tc], hfoot, ⟨by rw [hkeep L hLl]; exact B.box, ?_, by rw [hfoot]; exact B.out1, B.out2, B.lt⟩⟩
 refine k.setHeld ?_ hsl ?_ (fun y hy => .inl (by rwa [hfoot] at hy)) (fun y q1 => hkeep y fun e => k.apart lh mem_cons_self (by rw [← e]; exact q1)) (by simp)
 ·rcases k.ha with e | ⟨e, e2⟩
  ·exact .inl (by rw [ls_]; exact e)
  ·exact .inr (by rw [ls_]; exact ⟨e, e2⟩)
 ·obtain ⟨hpm, _, _⟩ := h9_ k hp
  rw [take_set, map_set, k.hd, td]
  apply ext_getElem?
  intro i
  rw [getElem?_map, getElem?_modify, getElem?_set]
  split
  ·rename_i e
   subst e
   rw [if_pos (by simpa using hp), getElem?_eq_getElem hp]; rfl
  ·rw [getElem?_map]; rename_i e; cases x.Held[i]? <;> simp []
def vz_ : LC :=
 .q [.o [.m 11 0, .m 12 1, .m 13 2, .m 14 3, .s 15 (.call 96 [.tmp 11, .tmp 12, .tmp 13, .tmp 14]), .m 10 15, .ex 16 10 0, .ex 17 10 1, .m 8 16, .m 9 17], .q [.o [.m 18 9], .k 18 (.q [.o [.m 19 0, .nc 20 19, .fa 21 0 20,
 .ln 22 21, .m 23 8, .ia 24 4 22 23, .fa 25 1 24, .ln 26 25, .bk 27 .add false 26 1, .ia 28 4 22 23, .fa 29 1 28, .st 1 29 27], .ret]) .skip], .gops [.m 30 0, .m 31 0, .nc 32 31, .fa 33 0 32, .ln 34 33, .m 35 8, .m 36 1,
 .m 37 2, .m 38 3] [(.c1 39 95 38, [.m 30 0, .m 31 0, .nc 32 31, .fa 33 0 32, .ln 34 33, .m 35 8, .m 36 1, .m 37 2]), (.s 40 (.build (.agg #[.int .i64 0, .int .i64 0, .string ⟨#[]⟩, .slice none 0 0]) [(0, 1), (1, 1), (2,
 1), (3, 1)] [(0, .tmp 36), (1, .const (.int .i64 1)), (2, .tmp 37), (3, .tmp 39)]), [.m 30 0, .m 31 0, .nc 32 31, .fa 33 0 32, .ln 34 33, .m 35 8]), (.s 41 (.buildSlice 74 4 (.agg #[.int .i64 0, .int .i64 0, .string
 ⟨#[]⟩, .slice none 0 0]) 1 [(0, .tmp 40)]), [.m 30 0, .m 31 0, .nc 32 31, .fa 33 0 32, .ln 34 33, .m 35 8]), (.c3 42 136 34 35 41, [.m 30 0]), (.nc 43 30, []), (.fa 44 0 43, []), (.st 1 44 42, [])]]
def t2_ : LF := ⟨4, 45, vz_, []⟩
theorem vE_ : aA_ Tryz.prog Tryz.f103 t2_ := ak_
theorem hO_ {lo : Nat} {H : List Row} {L : Nat} {x : ab_} {F : List Nat} (k : KX lo H L x F) (hl : bP_ x) (j : Int) {n : ByteArray} {s : List ByteArray} {sa : AV} (ht : cD_ n s = true) (hsa : bq_ H sa (.list 0 1 (s.map ax_))) {K : AV → List Row → Prop}
 (hk : ∀ H' F', Fr H H' L F F' → KX lo H' L ⟨d5_ x.Held j n s, x.Asks⟩ F' → K (.tup []) H') : callSem Tryz.prog 103 [.ptr L 1 0 0, .val (.int .i64 j), .val (.string n), sa] H K := by
 refine aS_ mixed Tryz.func103 vE_ (bs_ rfl ?_)
 have hlen := hl.len
 have hd := sL_ k hl j ht hsa
 obtain ⟨a, b, lh, mh, th, la, ma, ta, B, hF⟩ := k
 have box := B.box
 have hr := B.kl.held.row
 have hmh := B.kl.mh_eq
 have hmt := B.kl.held.le
 have hLlt := (List.getElem?_eq_some_iff.1 box).1
 have hLl : L ≠ lh := fun e => B.out1 (by rw [e]; exact mem_cons_self)
 have ac := B.kl.ha.cell
 have bc := B.kl.hb.cell
 simp only [AV.cell, Value.oneCell'] at ac bc
 have hle := ht_ x.Held j n s
 simp (disch := (first | omega | (simp only [ls_, la_, lc_, ln_]; first | done | omega))) only [go_sem, reduceEqDiff, ↓reduceIte, t2_, vz_]
 refine aa_.call hd ?_
 cases q : bD_ x.Held j n s
 ·simp (disch := (first | omega | (simp only [ls_, la_, lc_, ln_]; first | done | omega))) only [go_sem, reduceEqDiff, reduceCtorEq, ↓reduceIte, box]
  refine jz_ (cZ_ s (cg_ ht).2.2) (aO_.cons hsa aO_.nil) (fun av H1 m1 F1 q1 => ?_)
  obtain ⟨l', rfl⟩ := q1
  have r0 := m1.at box
  have l1 := m1.len
  simp (disch := (first | omega | (simp only [ls_, la_, lc_, ln_]; first | done | omega))) only [ag_, go_sem, reduceEqDiff, Nat.reduceAdd, reduceLeDiff, reduceCtorEq, ↓reduceIte, r0, dh_, Option.map_some]
  have k1 := B.kl.more m1
  have s1 := k1.held.more (aK_.app H1 [⟨.ty 74, 4, [[.val (.int .i64 j), .val (.int .i64 1), .val (.string n), .own l' s.length]]⟩])
  refine jX_ k1.ha ?_
  refine gq_ (a := H.length) (b := H1.length) (cs := [.val (.int .i64 j), .val (.int .i64 1), .val (.string n), .own l' s.length]) (ds := ac_.cells ⟨j, 1, n, s⟩) s1 (by omega) (by omega) (aG_ rfl) ((gM_ F1 l1).keep fun y q1 q2 => ag_ q2) (kV_ [⟨j, 1, n, s⟩] _ (by simp)) (fun y hy => (B.kl.held.lows y hy).2) (by have := B.lt; omega) l1 (Nat.le_refl _) (fun av H2 l2 ts2 g1 g2 g3 g4 g5 g6 => ?_)
  simp only [la_, lc_, ln_] at g1
  have p0 : H2[L]? = _ := (g2 L (by simp; omega) hLl).trans ((ag_ (by omega)).trans r0)
  have hLF : L ∉ aF_ l2 ts2 := fun z => (g6 L z).elim B.out1 fun w => by omega
  refine (fun fin => ?_) (hk (H2.set L ⟨32, 2, [[av, b]]⟩) (aF_ l2 ts2 ++ aF_ la ta) ⟨by simp; omega, fun y q1 q2 q3 => ?_, fun y hy => ?_⟩ ⟨av, b, l2, mh + 1, ts2, la, ma, ta, ⟨aD_ (by omega), ?_, hLF, B.out2, B.lt⟩, rfl⟩)
  ·rcases g4 with rfl | ⟨rfl, _⟩
   ·simp (disch := (first | omega | (simp only [ls_, la_, lc_, ln_]; first | done | omega))) only [go_sem, reduceEqDiff, Nat.reduceAdd, reduceLeDiff, reduceCtorEq, ↓reduceIte, p0]
    exact ⟨[], rfl, fin⟩
   ·simp (disch := (first | omega | (simp only [ls_, la_, lc_, ln_]; first | done | omega))) only [go_sem, reduceEqDiff, Nat.reduceAdd, reduceLeDiff, reduceCtorEq, ↓reduceIte, p0]
    exact ⟨[], rfl, fin⟩
  ·rw [hF] at q3
   rw [ad_ (Ne.symm q2), g2 y (by simp; omega) (fun e => q3 (by rw [e]; exact mem_append_left _ mem_cons_self)), ag_ (by omega)]
   exact m1.kept y q1
  ·rw [hF]
   rcases mem_append.1 hy with z | z
   ·exact (g6 y z).imp (fun w => mem_append_left _ w) id
   ·exact .inl (mem_append_right _ z)
  ·have hds : (ts2.take (mh + 1)).map Tr.d = (d5_ x.Held j n s).map ac_.cells := by
    rw [g5, B.kl.hd, d5_, if_neg (by rw [q]; simp), map_append, map_cons, map_take, map_drop]
   refine B.kl.setHeld g4 (g3.keep (fun y hy => ad_ fun e => hLF (by rw [e]; exact hy)) (by simp)) hds (fun y hy => g6 y hy) (fun y hy => ?_) (by simp; omega)
   have hyl := (B.kl.asks.lows y hy).2
   rw [ad_ (fun e => B.out2 (by rw [e]; exact hy)), g2 y (by simp; omega) (fun e => B.kl.apart lh mem_cons_self (by rw [← e]; exact hy)), ag_ (by omega)]
   exact m1.kept y hyl
 ·obtain ⟨hp, hf⟩ := gV_ hl.sorted q
  obtain ⟨hpm, hpt, hpd⟩ := h9_ B.kl hp
  obtain ⟨qq, hq⟩ := B.kl.held.tree
  have ho := hq _ (getElem_mem hpt)
  rw [hpd] at ho
  obtain ⟨c4, hc4, hcell, _⟩ := hB_ ho
  obtain ⟨th', e1, e2, e3, B'⟩ := B.bumped hp hpt 1 hc4 hpd
  have hcnt := hl.held _ (getElem_mem hp)
  simp only [dn_, bh_, Bool.and_eq_true, decide_eq_true_eq] at hcnt
  rcases B.kl.ha with rfl | ⟨rfl, rfl⟩
  all_goals
   simp (disch := (first | omega | (simp only [ls_, la_, lc_, ln_]; first | done | omega))) only [go_sem, reduceEqDiff, Nat.reduceAdd, reduceLeDiff, reduceCtorEq, ↓reduceIte, box, hr, hpt, hpm, hc4, aU_, Int.zero_add, Nat.zero_add]
   refine ⟨[], rfl, ?_⟩
   have hB : bD_ x.Held j n s = true → ⟨d5_ x.Held j n s, x.Asks⟩ = (⟨x.Held.modify (bg_ x.Held j n s) (f3_ 1), x.Asks⟩ : ab_) := fun z => by rw [d5_, if_pos z]
   rw [← hB q, e2] at B'
   refine hk _ _ ⟨by simp, fun y q1 q2 q3 => ad_ fun e => q3 ?_, fun y hy => .inl hy⟩ ⟨_, _, _, _, _, _, _, _, B', ?_⟩
   ·rw [hF, ← e]; exact mem_append_left _ mem_cons_self
   ·rw [hF, e3]
theorem jU_ {α β : Type} (f : α → β) (l : List α) (i : Nat) : (l.eraseIdx i).map f = (l.map f).eraseIdx i := by
 rw [eraseIdx_eq_take_drop_succ, eraseIdx_eq_take_drop_succ, map_append, map_take, map_drop]
def pq_ : List AV → ByteArray
 | [.val (.string s)] => s
 | _ => ⟨#[]⟩
theorem qM_ (s : List ByteArray) : (s.map ax_).map pq_ = s := by
 rw [map_map]
 conv => rhs; rw [← map_id s]
 exact map_congr_left fun a _ => rfl
def fl_ : List AV → ae_
 | [.val (.int _ j), .val (.int _ u), .val (.string n), .list _ _ es] => ⟨j, u, n, es.map pq_⟩
 | _ => ⟨0, 0, ⟨#[]⟩, []⟩
theorem fB_ (g : ae_) : fl_ (ae_.cells g) = g := by
 rw [dG_]
 show (⟨g.Job, g.Until, g.Name, (g.Subs.map ax_).map pq_⟩ : ae_) = g
 rw [qM_]
theorem kn_ {α β : Type} (f : α → β) (p : β → Bool) : ∀ (l : List α) (k : Nat), aN_ (fun a => p (f a)) l k = aN_ p (l.map f) k
 | [], k => rfl
 | a :: l, k => by
  rw [map_cons]
  unfold aN_
  rw [kn_ f p l (k + 1)]
theorem ss_ {lo : Nat} {H : List Row} {x : ab_} {a b : AV} {lh mh : Nat} {th : List Tr} {la ma : Nat} {ta : List Tr} (k : KL lo H x a b lh mh th la ma ta) : (ta.take ma).map (fun t => fl_ t.d) = x.Asks := by
 have : (ta.take ma).map (fun t => fl_ t.d) = ((ta.take ma).map Tr.d).map fl_ := by rw [map_map]; rfl
 rw [this, k.ad, map_map]
 conv => rhs; rw [← map_id x.Asks]
 exact map_congr_left fun g _ => fB_ g
theorem fM_ {lo E l m : Nat} {H : List Row} {ts : List Tr} (s : bb_ lo H E 4 l m ts) (p : Tr → Bool) (G : Nat) (caps : List AV) (hm : m ≤ 1048576) (hc : b3_ Tryz.prog G = true)
 (hp : ∀ H' : List Row, aK_ H H' → ∀ t ∈ ts.take m, nk_ Tryz.prog G (.agg t.c :: caps) H' (.val (.bool (p t)))) : nk_ Tryz.prog 98 [.sub l ts.length 0 m, .fn G [] caps] H (.val (.int .i64 (aN_ p (ts.take m) 0))) := by
 intro K hk
 refine aS_ mixed Tryz.func98 qb_ (bs_ rfl ?_)
 have hr := s.row
 have hle := s.le
 simp (disch := omega) only [qo_, c98, hr, Nat.sub_zero, go_sem, reduceCtorEq, Int.reduceNeg, ↓reduceIte]
 refine aE_ (fun n t h => ∃ k : Nat, t 0 = .sub l ts.length 0 m ∧ t 1 = .fn G [] caps ∧ t 7 = .val (.int .i64 m) ∧ t 8 = .val (.int .i64 k) ∧ aK_ H h ∧ n = m - k ∧ k ≤ m ∧ aN_ p (ts.take m) 0 = aN_ p ((ts.take m).drop k) k) m ⟨0, rfl, rfl, rfl, rfl, aK_.refl _, rfl, Nat.zero_le _, rfl⟩ ?_
 rintro J hJ n t h ⟨k, t0, t1, t7, t8, hM, rfl, hk', hS⟩
 have hr := hM.at hr
 by_cases hlt : k < m
 ·have hlt2 : k < ts.length := by omega
  have hlt3 : k < (ts.take m).length := by rw [length_take]; omega
  rw [db_ p _ k hlt3, getElem_take] at hS
  have hw := (s.wide ts[k] (getElem_mem hlt2)).1
  have htk : ts[k].c.take 4 = ts[k].c := take_of_length_le (by omega)
  simp (disch := omega) only [t0, t1, t7, t8, hr, hlt, hw, htk, hc, Int.zero_add, go_sem, Nat.reduceEqDiff, reduceCtorEq, Int.reduceNeg, ↓reduceIte]
  refine hp _ hM _ (o3_ hlt hlt2) _ (fun H2 m2 => ?_)
  cases q : p ts[k]
  ·simp (disch := omega) only [t8, aU_, go_sem, Nat.reduceEqDiff, Int.reduceNeg, ↓reduceIte]
   exact ⟨m - (k + 1), by omega, hJ _ _ _ ⟨k + 1, by simp [upd, t0], by simp [upd, t1], by simp [upd, t7], by simp [upd], hM.trans m2, rfl, by omega, by rw [hS, q]; rfl⟩⟩
  ·simp (disch := omega) only [go_sem, Nat.reduceEqDiff, Int.reduceNeg, ↓reduceIte]
   rw [hS, q] at hk
   exact hk _ (hM.trans m2)
 ·simp (disch := omega) only [t7, t8, hlt, go_sem, Int.reduceNeg, ↓reduceIte]
  rw [hS, b6_ _ _ _ (by rw [length_take]; omega)] at hk
  exact hk _ hM
def c99 : LC :=
 .q [.o [.bx 2 64 0, .f 3], .o [.ln 4 1, .fa 5 0 2, .ln 6 5, .fa 7 2 2, .ln 8 7, .fa 9 3 2, .ln 10 9, .s 11 (.call 100 [.tmp 4, .tmp 6, .tmp 8, .tmp 10]), .m 3 11], .ret]
def wu_ : LF := ⟨2, 12, c99, [.tmp 3]⟩
theorem x5_ : aA_ Tryz.prog Tryz.f99 wu_ := ak_
theorem ie_ {lo : Nat} {H : List Row} {L : Nat} {x : ab_} {F : List Nat} {P : Nat} {E : Tag} (k : KX lo H L x F) (hP : H[P]? = some ⟨E, 1, [[.ptr L 1 0 0]]⟩) (g : ae_) {c4 : AV} (hc : c4.cell = true) {q : Nat} {f : List Nat} (h4 : Own H q c4 (.list 0 1 (g.Subs.map ax_)) f) (hx : ab_.sz x ≤ 1048576) (hs : g.Subs.length ≤ 1048576) :
 nk_ Tryz.prog 99 [.agg [.val (.int .i64 g.Job), .val (.int .i64 g.Until), .val (.string g.Name), c4], .ptr P 1 0 0] H (.val (.bool (dJ_ x g))) := by
 intro K hk
 refine aS_ mixed Tryz.func99 x5_ (bs_ rfl ?_)
 have l1 := (List.getElem?_eq_some_iff.1 hP).1
 have hc' := hc
 simp only [AV.cell, Value.oneCell'] at hc'
 simp (disch := (first | omega | (simp only [ls_, la_, lc_, ln_]; first | done | omega))) only [ag_, aG_, go_sem, Nat.reduceEqDiff, Nat.reduceAdd, ↓reduceIte, wu_, c99, hP, hc']
 have m : ∀ r, aK_ H (H ++ [r]) := fun r => aK_.app H [r]
 refine aa_.call (aa_.anyR (rs := [.iptr (ab_.cells x), .val (.int .i64 g.Job), .val (.string g.Name), .list 0 1 (g.Subs.map ax_)]) rfl (fun h => j2_ x g.Job g.Name g.Subs hx hs h) (aO_.cons (k.more (m _)).arg (aO_.cons (bq_.same rfl) (aO_.cons (bq_.same rfl) (aO_.cons (a7_.any (.inr ⟨_, _, h4.keep fun y hy => ag_ (h4.lt y hy)⟩)) aO_.nil))))) ?_
 simp (disch := (first | omega | (simp only [ls_, la_, lc_, ln_]; first | done | omega))) only [go_sem, ↓reduceIte]
 exact hk _ (m _)
theorem ka_ {y : ab_} (h : aN_ (dJ_ y) y.Asks 0 = -1) : ∀ f, cP_ f y = (y, [])
 | 0 => rfl
 | f + 1 => by
  unfold cP_
  rw [h]
  split <;> rfl
theorem hu_ {y : ab_} {i : Nat} (h : aN_ (dJ_ y) y.Asks 0 = ((0 + i : Nat) : Int)) (hi : i < y.Asks.length) (f : Nat) : cP_ (f + 1) y = ((cP_ f (bH_ y i y.Asks[i])).1, y.Asks[i].Job :: (cP_ f (bH_ y i y.Asks[i])).2) := by
 have e1 : (aN_ (dJ_ y) y.Asks 0).toNat = i := by rw [h]; omega
 have e2 : ¬ aN_ (dJ_ y) y.Asks 0 < 0 := by rw [h]; omega
 conv => lhs; unfold cP_
 rw [e1, getElem?_eq_getElem hi]
 simp only [if_neg e2]
theorem bP_.cut {x : ab_} (h : bP_ x) (k : Nat) : bP_ { Held := x.Held, Asks := x.Asks.eraseIdx k } := ⟨h.sorted, h.held, h.len, fun b hb => h.asks b (mem_of_mem_eraseIdx hb), Nat.le_trans (eraseIdx_sublist _ _).length_le h.alen⟩
theorem Fr.poke {H H4 H5 : List Row} {L : Nat} {F F4 : List Nat} (f : Fr H H4 L F F4) (hk : ∀ y, y < H.length → H5[y]? = H4[y]?) (hl : H4.length ≤ H5.length) : Fr H H5 L F F4 :=
 ⟨by have := f.len; omega, fun y q1 q2 q3 => (hk y q1).trans (f.kept y q1 q2 q3), f.sub⟩
def c60 : LC :=
 .q [.o [.bx 1 78 0, .nl 2], .o [.s 6 (.buildSlice 2 1 (.int .i64 0) 0 []), .m 3 6], .block 0 (.loop (.block 1 (.q [.o [.ln 7 1, .nc 8 7, .fa 9 1 8, .ln 10 9, .s 11 (.mkFunc 99 [] [.tmp 1]), .c2 12 98 10 11, .m 4 12], .q
 [.o [.m 13 4, .bk 14 .lss false 13 0], .k 14 (.q [.o [.m 15 3, .m 2 15], .ret]) .skip], .o [.ln 16 1, .nc 17 16, .fa 18 1 17, .ln 19 18, .m 20 4, .ia 21 4 19 20, .ld 22 4 21, .s 5 (.alloc 64 (.agg #[.int .i64 0, .int
 .i64 0, .string ⟨#[]⟩, .slice none 0 0])), .st 4 5 22], .gops [.ln 23 1, .ln 24 1, .nc 25 24, .fa 26 1 25, .ln 27 26, .m 28 4, .m 29 4, .bk 30 .add false 29 1] [(.c3 31 101 27 28 30, [.ln 23 1]), (.nc 32 23, []), (.fa 33
 1 32, []), (.st 1 33 31, [])], .q [.o [.ln 34 1, .fa 35 0 5, .ln 36 35, .fa 37 2 5, .ln 38 37, .fa 39 3 5, .ln 40 39, .s 41 (.call 102 [.tmp 34, .tmp 36, .tmp 38, .tmp 40])], .k 41 (.o [.ln 42 1, .fa 43 0 5, .ln 44 43,
 .fa 45 2 5, .ln 46 45, .fa 47 3 5, .ln 48 47, .s 49 (.call 103 [.tmp 42, .tmp 44, .tmp 46, .tmp 48])]) .skip], .o [.m 50 3, .fa 51 0 5, .ln 52 51, .s 53 (.buildSlice 2 1 (.int .i64 0) 1 [(0, .tmp 52)]), .ap 54 2 1 8 50
 53, .m 3 54]])))]
def w9_ : LF := ⟨1, 55, c60, [.tmp 2]⟩
theorem xR_ : aA_ Tryz.prog Tryz.f60 w9_ := ak_
theorem iL_ {lo : Nat} {H : List Row} {L : Nat} {x : ab_} {F : List Nat} (k : KX lo H L x F) (hl : bP_ x) {K : AV → List Row → Prop}
 (hk : ∀ H' F' J, Fr H H' L F F' → KX lo H' L (cd_ x).1 F' → H.length ≤ J → J ∉ F' → H'[J]? = some ⟨.ty 2, 1, av_ (cd_ x).2⟩ → K (.own J (cd_ x).2.length) H') : callSem Tryz.prog 60 [.ptr L 1 0 0] H K := by
 refine aS_ mixed Tryz.func60 xR_ (bs_ rfl ?_)
 obtain ⟨ko1, ko2, ko3, ko4⟩ := k.out
 simp (disch := (first | omega | (simp only [ls_, la_, lc_, ln_]; first | done | omega))) only [go_sem, ↓reduceIte, w9_, c60]
 refine aE_ (fun n t h => ∃ (y : ab_) (out : List Int) (F' : List Nat), t 1 = .ptr H.length 1 0 0 ∧ t 3 = .own (H.length + 1) out.length ∧ Fr H h L F F' ∧ KX lo h L y F' ∧ bP_ y ∧ H.length ∉ F' ∧ H.length + 1 ∉ F' ∧ h[H.length]? = some ⟨.ty 78, 1, [[.ptr L 1 0 0]]⟩ ∧ h[H.length + 1]? = some ⟨.ty 2, 1, av_ out⟩ ∧ H.length + 1 < h.length ∧
  n = y.Asks.length ∧ out.length + y.Asks.length ≤ 4 ∧ cd_ x = ((cP_ y.Asks.length y).1, out ++ (cP_ y.Asks.length y).2)) x.Asks.length ?_ ?_
 ·exact ⟨x, [], F, rfl, rfl, Fr.more (aK_.app _ _) L F, k.more (aK_.app _ _), hl, fun z => by have := ko4 _ z; omega, fun z => by have := ko4 _ z; omega, aG_ rfl, bw_ rfl, by simp, rfl, by have := hl.alen; simp; omega, rfl⟩
 rintro J hJ n t h ⟨y, out, F', t1, t3, hFr, hK, hI, n0, n1, o0, o1, hlen, rfl, hout, hS⟩
 have hfl := hFr.len
 obtain ⟨a, b, lh, mh, th, la, ma, ta, B, hF⟩ := hK
 have K0 : KX lo h L y F' := ⟨a, b, lh, mh, th, la, ma, ta, B, hF⟩
 have box := B.box
 have hma := B.kl.ma_eq
 have hmt := B.kl.asks.le
 have hr := B.kl.asks.row
 have hLla : L ≠ la := fun e => B.out2 (by rw [e]; exact mem_cons_self)
 have n0a : H.length ≠ la := fun e => n0 (by rw [hF, e]; exact mem_append_right _ mem_cons_self)
 have n1a : H.length + 1 ≠ la := fun e => n1 (by rw [hF, e]; exact mem_append_right _ mem_cons_self)
 have hal := hI.alen
 simp (disch := (first | omega | (simp only [ls_, la_, lc_, ln_]; first | done | omega))) only [go_sem, reduceEqDiff, ↓reduceIte, t1, o0, box]
 refine jX_ B.kl.hb ?_
 refine fM_ B.kl.asks (fun t => dJ_ y (fl_ t.d)) 99 [.ptr H.length 1 0 0] (by omega) (by kernel_rfl) (fun H' m' t' ht' => ?_) _ (fun H1 m1 => ?_)
 ·obtain ⟨kk, htree⟩ := B.kl.asks.tree
  have ht2 := htree t' (mem_of_mem_take ht')
  have hd3 : t'.d ∈ y.Asks.map ae_.cells := by rw [← B.kl.ad]; exact mem_map.2 ⟨t', ht', rfl⟩
  obtain ⟨g, hg, e⟩ := mem_map.1 hd3
  rw [← e] at ht2
  obtain ⟨c4, e4, hc4, ho4⟩ := g4_ ht2
  have hgt := hI.asks g hg
  rw [Bool.and_eq_true] at hgt
  rw [← e, fB_, e4]
  exact ie_ (K0.more m') ((m'.kept _ (by omega)).trans o0) g hc4 (ho4.keep fun z hz => m'.kept z (ho4.lt z hz)) hI.big (cg_ hgt.2).2.2
 have hidx : aN_ (fun t : Tr => dJ_ y (fl_ t.d)) (ta.take ma) 0 = aN_ (dJ_ y) y.Asks 0 := by
  rw [kn_ (fun t : Tr => fl_ t.d) (dJ_ y), ss_ B.kl]
 rw [hidx]
 have l1 := m1.len
 rcases dZ_ (dJ_ y) y.Asks 0 with ⟨h1, h2⟩ | ⟨i, hi, h1, h2, h3⟩
 ·rw [h1]
  rw [ka_ h1, append_nil] at hS
  have e1 : (cd_ x).1 = y := by rw [hS]
  have e2 : (cd_ x).2 = out := by rw [hS]
  rw [e1, e2] at hk
  simp (disch := (first | omega | (simp only [ls_, la_, lc_, ln_]; first | done | omega))) only [go_sem, reduceEqDiff, Int.reduceNeg, ↓reduceIte, t3]
  exact hk _ _ _ (hFr.trans (Fr.more m1 L F')) (K0.more m1) (by omega) n1 ((m1.kept _ (by omega)).trans o1)
 rw [h1]
 obtain ⟨him, hit, hid⟩ := jT_ B.kl hi
 obtain ⟨kk, htree⟩ := B.kl.asks.tree
 have ht2 := htree ta[i] (getElem_mem hit)
 rw [hid] at ht2
 obtain ⟨c4, e4, hc4, ho4⟩ := g4_ ht2
 have hgt := hI.asks _ (getElem_mem hi)
 rw [Bool.and_eq_true] at hgt
 have box1 := (m1.kept _ (List.getElem?_eq_some_iff.1 box).1).trans box
 have hr1 := (m1.kept _ B.kl.asks.lt).trans hr
 have o01 := (m1.kept _ (by omega)).trans o0
 have o11 := (m1.kept _ (by omega)).trans o1
 have hLlt := (List.getElem?_eq_some_iff.1 box1).1
 have hlat := (List.getElem?_eq_some_iff.1 hr1).1
 have hc4' := hc4
 simp only [AV.cell, Value.oneCell'] at hc4'
 have hneg : ((i : Int) < 0) = False := eq_false (by omega)
 have hbb := B.kl.hb
 have B1 := B.kl.more m1
 have goal : ∀ bb : AV, b = bb → True := fun _ _ => trivial
 rcases B.kl.hb with hb1 | ⟨hb1, e9⟩
 all_goals
  rw [hb1] at box1
  simp (disch := (first | omega | (simp only [ls_, la_, lc_, ln_]; first | done | omega))) only [ag_, aG_, go_sem, reduceEqDiff, Nat.reduceAdd, ↓reduceIte, t1, o01, box1, hr1, hneg, hit, him, e4, hc4', Nat.zero_add, Int.zero_add, aU_]
  rw [← hb1]
  refine jX_ B1.hb (gA_ (B1.asks.more (aK_.app H1 _)) him (by omega) (fun H2 ts2 g1 g2 g3 g4 g5 g6 => ?_))
  simp only [la_, lc_, ln_] at g1
  have p0 : H2[H.length]? = _ := (g2 _ n0a).trans ((ag_ (by omega)).trans o01)
  have p1 : H2[H.length + 1]? = _ := (g2 _ n1a).trans ((ag_ (by omega)).trans o11)
  have pL : H2[L]? = _ := (g2 _ hLla).trans ((ag_ (by omega)).trans box1)
  have pA : H2[H1.length]? = _ := (g2 _ (by omega)).trans (aG_ rfl)
  simp (disch := (first | omega | (simp only [ls_, la_, lc_, ln_]; first | done | omega))) only [ad_, go_sem, reduceEqDiff, Nat.reduceAdd, ↓reduceIte, t1, p0, pL, pA]
  obtain ⟨H3, hH3⟩ : ∃ H3, H3 = H2.set L ⟨.ty 32, 2, [[a, .sub la ts2.length 0 (ma - 1)]]⟩ := ⟨_, rfl⟩
  rw [← hH3]
  have l3 : H3.length = H1.length + 1 := by rw [hH3, ls_]; exact g1
  have k3 : ∀ z, z ≠ L → H3[z]? = H2[z]? := fun z hz => by rw [hH3]; exact ad_ (Ne.symm hz)
  have hLF : L ∉ aF_ la ts2 := fun z => B.out2 (g5 L z)
  have kh : ∀ z, z < h.length → z ≠ L → z ≠ la → H3[z]? = h[z]? := fun z q1 q2 q3 => by
   rw [k3 z q2, g2 z q3, ag_ (by omega)]; exact m1.kept z q1
  have K3 : KX lo H3 L ⟨y.Held, y.Asks.eraseIdx i⟩ (aF_ lh th ++ aF_ la ts2) := by
   refine ⟨a, .sub la ts2.length 0 (ma - 1), lh, mh, th, la, ma - 1, ts2, ⟨by rw [hH3]; exact aD_ (by omega), ?_, B.out1, hLF, B.lt⟩, rfl⟩
   refine B.kl.setAsks (.inl rfl) (g3.keep (fun z hz => k3 z fun e => hLF (by rw [← e]; exact hz)) (by omega)) (by rw [g6, jU_, B.kl.ad, ← jU_]) (fun z hz => .inl (g5 z hz)) (fun z hz => kh z (B.kl.held.lows z hz).2 (fun e => B.out1 (by rw [← e]; exact hz)) (fun e => B.kl.apart z hz (by rw [e]; exact mem_cons_self))) (by omega)
  have f3 : Fr h H3 L F' (aF_ lh th ++ aF_ la ts2) := by
   refine ⟨by omega, fun z q1 q2 q3 => kh z q1 q2 fun e => q3 (by rw [hF, e]; exact mem_append_right _ mem_cons_self), fun z hz => .inl ?_⟩
   rw [hF]
   exact (mem_append.1 hz).elim (fun w => mem_append_left _ w) fun w => mem_append_right _ (g5 z w)
  have sF : ∀ z ∈ aF_ lh th ++ aF_ la ts2, z ∈ F' := fun z hz => by
   rw [hF]
   exact (mem_append.1 hz).elim (fun w => mem_append_left _ w) fun w => mem_append_right _ (g5 z w)
  have hI3 : bP_ ⟨y.Held, y.Asks.eraseIdx i⟩ := hI.cut i
  have hsa : bq_ H3 c4 (.list 0 1 (y.Asks[i].Subs.map ax_)) := a7_.any (.inr ⟨_, _, ho4.keep fun z hz => kh z (ho4.lt z hz) (fun e => B.out2 (by rw [← e]; exact e1_ (getElem_mem hit) hz)) (fun e => B.kl.asks.apart (getElem_mem hit) (by rw [← e]; exact hz))⟩)
  have x0 : H3[H.length]? = _ := (k3 _ (by omega)).trans p0
  have x1 : H3[H.length + 1]? = _ := (k3 _ (by omega)).trans p1
  have xA : H3[H1.length]? = _ := (k3 _ (by omega)).trans pA
  have hless := kd_ (getElem?_eq_getElem hi)
  have hlenA : (bH_ y i y.Asks[i]).Asks.length + 1 = y.Asks.length := hless
  refine aa_.call (aa_.anyR (rs := [.iptr (ab_.cells ⟨y.Held, y.Asks.eraseIdx i⟩), .val (.int .i64 y.Asks[i].Job), .val (.string y.Asks[i].Name), .list 0 1 (y.Asks[i].Subs.map ax_)]) rfl (fun h => jA_ ⟨y.Held, y.Asks.eraseIdx i⟩ hI3 y.Asks[i].Job y.Asks[i].Name y.Asks[i].Subs hgt.2 h) (aO_.cons K3.arg (aO_.cons (bq_.same rfl) (aO_.cons (bq_.same rfl) (aO_.cons hsa aO_.nil))))) ?_
  cases qr : dv_ y.Held y.Asks[i].Job y.Asks[i].Name y.Asks[i].Subs
  ·have hgx : bH_ y i y.Asks[i] = ⟨y.Held, y.Asks.eraseIdx i⟩ := by rw [bH_, if_neg (by rw [qr]; simp)]
   have K4 : KX lo H3 L (bH_ y i y.Asks[i]) (aF_ lh th ++ aF_ la ts2) := by rw [hgx]; exact K3
   have f4 := hFr.trans f3
   have n04 : H.length ∉ aF_ lh th ++ aF_ la ts2 := fun z => n0 (sF _ z)
   have n14 : H.length + 1 ∉ aF_ lh th ++ aF_ la ts2 := fun z => n1 (sF _ z)
   have w0 := x0
   have w1 := x1
   have wA := xA
   simp (disch := (first | omega | (simp only [ls_, la_, lc_, ln_]; first | done | omega))) only [ag_, aG_, go_sem, reduceEqDiff, reduceLeDiff, ↓reduceIte, t3, w1, wA, bz_]
   repeat (refine And.intro (by first | omega | (exact strs_cellv _) | assumption | (simp; done)) ?_)
   refine ⟨(bH_ y i y.Asks[i]).Asks.length, by omega, hJ _ _ _ ⟨bH_ y i y.Asks[i], out ++ [y.Asks[i].Job], aF_ lh th ++ aF_ la ts2, by simp [upd, t1], by simp [upd], Fr.poke f4 (fun z q => by rw [ad_ (by omega), ag_ (by omega)]) (by simp), K4.keep (fun z q => ?_) (by simp), fk_ hI (getElem?_eq_getElem hi), n04, n14, ?_, ?_, by simp; omega, rfl, by simp; omega, ?_⟩⟩
   ·have hz : z < H3.length ∧ z ≠ H.length + 1 := q.elim (fun e => by subst e; omega) fun e => ⟨(K4.out.2.2.2 z e).2, fun e2 => n14 (e2 ▸ e)⟩
    rw [ad_ (by omega), ag_ hz.1]
   ·rw [ad_ (by omega), ag_ (by omega)]; exact w0
   ·rw [aD_ (by simp; omega)]
   ·rw [hS, ← hless, hu_ (by rw [h1]) hi]
    simp
  ·have hgx : bH_ y i y.Asks[i] = ⟨d5_ y.Held y.Asks[i].Job y.Asks[i].Name y.Asks[i].Subs, y.Asks.eraseIdx i⟩ := by rw [bH_, if_pos qr]
   simp (disch := (first | omega | (simp only [ls_, la_, lc_, ln_]; first | done | omega))) only [go_sem, reduceEqDiff, ↓reduceIte, t1, x0, xA]
   refine hO_ K3 hI3 y.Asks[i].Job hgt.2 hsa (fun H4 F4 f34 K4 => ?_)
   rw [← hgx] at K4
   have f4 := (hFr.trans f3).trans f34
   have l4 := f34.len
   have n04 : H.length ∉ F4 := fun z => (f34.sub _ z).elim (fun w => n0 (sF _ w)) fun w => by omega
   have n14 : H.length + 1 ∉ F4 := fun z => (f34.sub _ z).elim (fun w => n1 (sF _ w)) fun w => by omega
   have w0 := (f34.kept H.length (by omega) (by omega) fun z => n0 (sF _ z)).trans x0
   have w1 := (f34.kept (H.length + 1) (by omega) (by omega) fun z => n1 (sF _ z)).trans x1
   have wA := (f34.kept H1.length (by omega) (by omega) fun z => by have := K3.out.2.2.2 _ z; have := (K0.out.2.2.2 _ (sF _ z)).2; omega).trans xA
   simp (disch := (first | omega | (simp only [ls_, la_, lc_, ln_]; first | done | omega))) only [ag_, aG_, go_sem, reduceEqDiff, reduceLeDiff, ↓reduceIte, t3, w1, wA, bz_]
   repeat (refine And.intro (by first | omega | (exact strs_cellv _) | assumption | (simp; done)) ?_)
   refine ⟨(bH_ y i y.Asks[i]).Asks.length, by omega, hJ _ _ _ ⟨bH_ y i y.Asks[i], out ++ [y.Asks[i].Job], F4, by simp [upd, t1], by simp [upd], Fr.poke f4 (fun z q => by rw [ad_ (by omega), ag_ (by omega)]) (by simp), K4.keep (fun z q => ?_) (by simp), fk_ hI (getElem?_eq_getElem hi), n04, n14, ?_, ?_, by simp; omega, rfl, by simp; omega, ?_⟩⟩
   ·have hz : z < H4.length ∧ z ≠ H.length + 1 := q.elim (fun e => by subst e; omega) fun e => ⟨(K4.out.2.2.2 z e).2, fun e2 => n14 (e2 ▸ e)⟩
    rw [ad_ (by omega), ag_ hz.1]
   ·rw [ad_ (by omega), ag_ (by omega)]; exact w0
   ·rw [aD_ (by simp; omega)]
   ·rw [hS, ← hless, hu_ (by rw [h1]) hi]
    simp
def fS_ : ab_ := ⟨[], []⟩
theorem hW_ {lo hi J : Nat} {H : List Row} {E : Tag} {out : List Int} (hr : H[J]? = some ⟨E, 1, av_ out⟩) (h1 : lo ≤ J) (h2 : J < hi) : aP_ lo hi H (.own J out.length) (.list 0 1 (av_ out)) :=
 (aP_.mkown (lo := J + 1) (hi := J + 1) (lo' := J) (bo_.ofVals _ _ _ _ (by
   intro e he c hc
   obtain ⟨z, _, q⟩ := List.mem_map.1 he; subst q
   simp only [List.mem_singleton] at hc
   exact ⟨_, hc⟩)) hr (by simp [av_]) (Nat.le_refl _) (Nat.lt_succ_self _) (Nat.le_refl _)).widen h1 h2
theorem k0_ {α : Type} (cells : α → List AV) (dec : List AV → α) (hdec : ∀ g, dec (cells g) = g) (q : α → Bool) : ∀ (l : List Tr) (hs : List α), l.map Tr.d = hs.map cells → (l.filter (fun t => q (dec t.d))).map Tr.d = (hs.filter q).map cells
 | [], hs, h => by
  cases hs with
  | nil => rfl
  | cons g hs => simp at h
 | t :: l, hs, h => by
  cases hs with
  | nil => simp at h
  | cons g hs =>
   simp only [map_cons, List.cons.injEq] at h
   have ih := k0_ cells dec hdec q l hs h.2
   have e : dec t.d = g := by rw [h.1, hdec]
   simp only [filter_cons, e]
   split
   ·simp only [map_cons, h.1, ih]
   ·exact ih
theorem bP_.filter {x : ab_} (h : bP_ x) (p : ac_ → Bool) (q : ae_ → Bool) : bP_ ⟨x.Held.filter p, x.Asks.filter q⟩ :=
 ⟨h.sorted.sublist filter_sublist, fun a ha => h.held a (mem_filter.1 ha).1, Nat.le_trans filter_sublist.length_le h.len, fun a ha => h.asks a (mem_filter.1 ha).1, Nat.le_trans filter_sublist.length_le h.alen⟩
theorem ue_ {lo : Nat} {H : List Row} {L : Nat} {x : ab_} {a b : AV} {lh mh : Nat} {th : List Tr} {la ma : Nat} {ta : List Tr} (B : KB lo H L x a b lh mh th la ma ta) {H2 : List Row} {m2 : Nat} {ts2 : List Tr} {ks : List ae_} (g1 : H.length ≤ H2.length) (g2 : ∀ z, z < H.length → z ≠ la → H2[z]? = H[z]?) (g3 : bb_ lo H2 64 4 la m2 ts2) (g5 : ∀ z, z ∈ aF_ la ts2 → z ∈ aF_ la ta) (g6 : (ts2.take m2).map Tr.d = ks.map ae_.cells) :
 let H3 := H2.set L ⟨.ty 32, 2, [[a, .sub la ts2.length 0 m2]]⟩
 KX lo H3 L ⟨x.Held, ks⟩ (aF_ lh th ++ aF_ la ts2) ∧ Fr H H3 L (aF_ lh th ++ aF_ la ta) (aF_ lh th ++ aF_ la ts2) := by
 intro H3
 have hLlt := (List.getElem?_eq_some_iff.1 B.box).1
 have hLF : L ∉ aF_ la ts2 := fun z => B.out2 (g5 L z)
 have k3 : ∀ z, z ≠ L → H3[z]? = H2[z]? := fun z hz => ad_ (Ne.symm hz)
 have l3 : H3.length = H2.length := by simp [H3]
 refine ⟨⟨a, .sub la ts2.length 0 m2, lh, mh, th, la, m2, ts2, ⟨aD_ (by omega), ?_, B.out1, hLF, B.lt⟩, rfl⟩, ⟨by omega, fun z q1 q2 q3 => ?_, fun z hz => .inl ?_⟩⟩
 ·refine B.kl.setAsks (.inl rfl) (g3.keep (fun z hz => k3 z fun e => hLF (by rw [← e]; exact hz)) (by omega)) g6 (fun z hz => .inl (g5 z hz)) (fun z hz => ?_) (by omega)
  rw [k3 z (fun e => B.out1 (by rw [← e]; exact hz)), g2 z (B.kl.held.lows z hz).2 (fun e => B.kl.apart z hz (by rw [e]; exact mem_cons_self))]
 ·rw [k3 z q2, g2 z q1 (fun e => q3 (by rw [e]; exact mem_append_right _ mem_cons_self))]
 ·exact (mem_append.1 hz).elim (fun w => mem_append_left _ w) fun w => mem_append_right _ (g5 z w)
def KV (lo : Nat) (H : List Row) (x : ab_) (a b : AV) (F : List Nat) : Prop := ∃ lh mh th la ma ta, KL lo H x a b lh mh th la ma ta ∧ F = aF_ lh th ++ aF_ la ta
theorem KV.arg {lo : Nat} {H : List Row} {x : ab_} {a b : AV} {F : List Nat} (k : KV lo H x a b F) : bq_ H (.agg [a, b]) (.agg (ab_.cells x)) := by
 obtain ⟨lh, mh, th, la, ma, ta, k, _⟩ := k
 exact k.arg
theorem KV.low {lo : Nat} {H : List Row} {x : ab_} {a b : AV} {F : List Nat} (k : KV lo H x a b F) : ∀ y ∈ F, lo ≤ y ∧ y < H.length := by
 obtain ⟨lh, mh, th, la, ma, ta, k, rfl⟩ := k
 intro y q
 rcases mem_append.1 q with q | q
 ·exact k.held.lows y q
 ·exact k.asks.lows y q
theorem KV.keep {lo : Nat} {H H' : List Row} {x : ab_} {a b : AV} {F : List Nat} (k : KV lo H x a b F) (hk : ∀ y ∈ F, H'[y]? = H[y]?) (hl : H.length ≤ H'.length) : KV lo H' x a b F := by
 obtain ⟨lh, mh, th, la, ma, ta, k, rfl⟩ := k
 exact ⟨lh, mh, th, la, ma, ta, k.keep (fun y q => hk y (mem_append_left _ q)) (fun y q => hk y (mem_append_right _ q)) hl, rfl⟩
theorem KV.more {lo : Nat} {H H' : List Row} {x : ab_} {a b : AV} {F : List Nat} (k : KV lo H x a b F) (m : aK_ H H') : KV lo H' x a b F := k.keep (fun y hy => m.kept y (k.low y hy).2) m.len
theorem KV.cells {lo : Nat} {H : List Row} {x : ab_} {a b : AV} {F : List Nat} (k : KV lo H x a b F) : a.cell = true ∧ b.cell = true := by
 obtain ⟨lh, mh, th, la, ma, ta, k, rfl⟩ := k
 exact ⟨k.ha.cell, k.hb.cell⟩
def c91 : LC :=
 .q [.o [.bx 4 32 0, .f 8], .o [.ld 10 2 4, .m 11 1, .m 12 2, .m 13 3, .s 14 (.call 54 [.tmp 10, .tmp 11, .tmp 12, .tmp 13]), .m 9 14], .q [.o [.m 15 9, .bk 16 .geq false 15 0], .k 16 (.q [.o [.fa 17 0 4, .ln 18 17, .m 19
 9, .ia 20 4 18 19, .fa 21 1 20, .ln 22 21, .bk 23 .lss false 22 9, .m 8 23], .ret]) .skip], .o [.fa 24 0 4, .ln 25 24, .ll 26 25, .bk 27 .lss false 26 16, .m 8 27], .ret]
def u1_ : LF := ⟨4, 28, c91, [.tmp 8]⟩
theorem yi_ : aA_ Tryz.prog Tryz.f91 u1_ := ak_
theorem lw_ (x : ab_) (hl : bP_ x) (j : Int) (n : ByteArray) (s : List ByteArray) (h : List Row) : aa_ Tryz.prog 91 [.agg (ab_.cells x), .val (.int .i64 j), .val (.string n), .list 0 1 (s.map ax_)] h (.val (.bool (dv_ x.Held j n s))) := by
 refine ap_ mixed Tryz.func91 yi_ rfl rfl ?_ h
 have hlen := hl.len
 simp (disch := omega) only [u1_, c91, h5_, go_sem, Nat.reduceEqDiff, Nat.reduceAdd, ↓reduceIte]
 refine aa_.call (i3_ x j n s hl.big _) ?_
 rcases hf_ (cw_ j n s) x.Held 0 with ⟨h1, h2⟩ | ⟨i, hi, h1, h2⟩
 ·have h1' : iJ_ x j n s = -1 := h1
  have hr : dv_ x.Held j n s = decide (x.Held.length < 16) := by unfold dv_; rw [h2]
  rw [hr]
  simp (disch := omega) only [h1', go_sem, Nat.reduceEqDiff, Int.reduceLE, Int.reduceNeg, ↓reduceIte]
  exact ah_ (by rw [decide_eq_decide]; omega)
 ·have h1' : iJ_ x j n s = (i : Int) := by rw [← Nat.zero_add i]; exact h1
  have hneg : (0 ≤ (i : Int)) = True := eq_true (by omega)
  have hr : dv_ x.Held j n s = decide (x.Held[i].Count < 9) := by unfold dv_; rw [h2]
  rw [hr]
  simp (disch := omega) only [h1', hneg, bY_, go_sem, Nat.reduceEqDiff, Nat.reduceAdd, Nat.reduceLeDiff, ↓reduceIte]
  exact ah_ rfl
def c92 : LC :=
 .q [.o [.bx 2 32 0, .s 4 (.alloc 32 z0z)], .o [.s 6 (.buildSlice 64 4 (.agg #[.int .i64 0, .int .i64 0, .string ⟨#[]⟩, .slice none 0 0]) 0 []), .fa 7 1 2, .ln 8 7, .m 9 1, .s 10 (.sliceSl 4 (.tmp 8) none (some (.tmp
 9))), .ap 11 64 4 56 6 10, .m 5 11], .o [.m 12 5, .fa 13 1 2, .ln 14 13, .m 15 1, .bk 16 .add false 15 1, .s 17 (.sliceSl 4 (.tmp 14) (some (.tmp 16)) none), .ap 18 64 4 56 12 17, .fa 19 1 2, .st 1 19 18], .o [.ld 20 2
 2, .st 2 4 20], .ret]
def vY_ : LF := ⟨2, 21, c92, [.cell 4 (some 2)]⟩
theorem x4_ : aA_ Tryz.prog Tryz.f92 vY_ := ak_
theorem jf_ {lo : Nat} {H : List Row} {x : ab_} {a b : AV} {F : List Nat} (k : KV lo H x a b F) (hl : bP_ x) {i : Nat} (hi : i < x.Asks.length) {K : AV → List Row → Prop}
 (hk : ∀ H' l n F', aK_ H H' → KV lo H' ⟨x.Held, x.Asks.eraseIdx i⟩ a (.own l n) F' → (∀ y ∈ F', y ∈ F ∨ H.length ≤ y) → K (.agg [a, .own l n]) H') : callSem Tryz.prog 92 [.agg [a, b], .val (.int .i64 i)] H K := by
 refine aS_ mixed Tryz.func92 x4_ (bs_ rfl ?_)
 obtain ⟨lh, mh, th, la, ma, ta, k, hF⟩ := k
 have hma := k.ma_eq
 have hmt := k.asks.le
 have hal := hl.alen
 have hr := k.asks.row
 have hlat := k.asks.lt
 have ca := k.ha.cell
 have cb := k.hb.cell
 simp only [AV.cell, Value.oneCell'] at ca cb
 have hti : ((i : Int) + 1).toNat = i + 1 := by omega
 have hw : ∀ e ∈ (ta.map Tr.c), e.all AV.cell = true := fun e he => by
  obtain ⟨t, ht, rfl⟩ := mem_map.1 he
  exact (k.asks.wide t ht).2
 have hi1 : i ≤ ma := by omega
 have hi2 : i + 1 ≤ ma := by omega
 have hi3 : i ≤ ta.length := by omega
 have hi4 : i + 1 ≤ ta.length := by omega
 have hlow := (show KV lo H x a b F from ⟨lh, mh, th, la, ma, ta, k, hF⟩).low
 have hem : ta.take i ++ (ta.take ma).drop (i + 1) = (ta.take ma).eraseIdx i := by
  rw [eraseIdx_eq_take_drop_succ, take_take, Nat.min_eq_left (by omega)]
 have hlen : (ta.take i ++ (ta.take ma).drop (i + 1)).length = i + (ma - (i + 1)) := by
  simp only [la_, length_take, length_drop]; omega
 have hdat : (ta.take i ++ (ta.take ma).drop (i + 1)).map Tr.d = (x.Asks.eraseIdx i).map ae_.cells := by rw [hem, jU_, k.ad, ← jU_]
 have hsub : (ta.take i ++ (ta.take ma).drop (i + 1)).Sublist ta := by rw [hem]; exact (eraseIdx_sublist _ _).trans (take_sublist _ _)
 have fin : ∀ (H' : List Row), aK_ H H' → H'[H.length + 2]? = some ⟨.ty 64, 4, (ta.take i ++ (ta.take ma).drop (i + 1)).map Tr.c⟩ → K (.agg [a, .own (H.length + 2) (i + (ma - (i + 1)))]) H' := fun H' m q => by
  have hl' := (List.getElem?_eq_some_iff.1 q).1
  refine hk H' _ _ (aF_ lh th ++ aF_ (H.length + 2) (ta.take i ++ (ta.take ma).drop (i + 1))) m ⟨lh, mh, th, H.length + 2, (ta.take i ++ (ta.take ma).drop (i + 1)).length, _, ?_, rfl⟩ (fun y hy => ?_)
  ·refine k.setAsks (.inr ⟨by rw [hlen], rfl⟩) (k.asks.renew (new := []) q (Nat.le_refl _) (List.Perm.refl _) hsub (fun t ht => absurd ht not_mem_nil) ⟨0, fun t ht => absurd ht not_mem_nil⟩ nodup_nil (fun y hy => absurd hy not_mem_nil) (fun y hy => m.kept y (k.asks.lows y (mem_cons_of_mem _ hy)).2) (.inr (by omega)) m.len) (by rw [take_length]; exact hdat) (fun y hy => ?_) (fun y hy => m.kept y (k.held.lows y hy).2) m.len
   rcases mem_cons.1 hy with e | e
   ·exact .inr (by omega)
   ·exact .inl (mem_cons_of_mem _ ((eM_ (hsub.map Tr.f)).subset e))
  ·rw [hF]
   rcases mem_append.1 hy with e | e
   ·exact .inl (mem_append_left _ e)
   ·rcases mem_cons.1 e with e | e
    ·exact .inr (by omega)
    ·exact .inl (mem_append_right _ (mem_cons_of_mem _ ((eM_ (hsub.map Tr.f)).subset e)))
 rcases k.hb with rfl | ⟨rfl, e9⟩
 all_goals
  simp (disch := (first | omega | (simp only [ls_, la_, lc_, ln_]; first | done | omega))) only [ag_, aG_, bw_, cA_, go_sem, Nat.reduceEqDiff, Nat.reduceAdd, ↓reduceIte, vY_, c92, hr, hti, hi2, hi3, hi4, ca, aU_, c2_, Nat.zero_add, Nat.sub_zero, length_take, length_drop, length_map, la_, Nat.min_eq_left, nil_append]
  (try rw [← e9])
  refine ⟨by omega, by omega, fun e he => hw e (mem_of_mem_take he), by omega, by omega, fun e he => hw e (mem_of_mem_take (mem_of_mem_drop he)), ?_⟩
  refine fin _ (aK_.app _ _) ?_
  rw [cA_ rfl]
  simp only [map_append, map_take, map_drop]
end Go.Proofs.YtodgohgdnmifaaaGreatDoor
