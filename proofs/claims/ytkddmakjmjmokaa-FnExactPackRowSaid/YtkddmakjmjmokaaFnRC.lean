/-
 Contracts of functions. Conditions: as each theorem says.
-/
import Derived.Test.YtkddmakjmjmokaaFnRA
import Derived.Test.YtkddmakjmjmokaaPlDist
import Derived.Test.YtkddmakjmjmokaaAwC
import Derived.Test.YtkddmakjmjmokaaDistA
namespace Go.Proofs.Ytkddmakjmjmokaa
open Nat (reduceEqDiff reduceLeDiff)
open List
open Go.AW
set_option linter.unusedVariables false
set_option linter.unusedSimpArgs false
set_option maxRecDepth 4000
theorem hp_ {α : Type} {h : List α} {l : Nat} {r r' : α} (hl : h[l]? = some r) : (h.set l r')[l]? = some r' := by
 rw [getElem?_set_self (List.getElem?_eq_some_iff.1 hl).1]
def mx_ (h : List Row) (a : AV) (S : List (List UInt8)) (l : Nat) (zs : List (List UInt8)) : Prop := h[l]? = some ⟨.ty 9, 1, ap_ zs⟩ ∧ zs.take S.length = S ∧ (a = .sub l zs.length 0 S.length ∨ (a = .own l S.length ∧ zs = S))
def c39 : LC :=
 .q [.o [.nl 2], .q [.o [.m 6 0, .ll 7 6, .bk 8 .lss false 7 2], .k 8 (.q [.o [.m 9 0, .m 2 9], .ret]) .skip], .q [.o [.ki 3 1], .block 0 (.loop (.q [.q [.o [.m 10 3, .m 11 0, .ll 12 11, .bb 13 .lss false 10 12], .k 13
 .skip (.exit 0)], .block 1 (.q [.dops [.m 16 0, .m 17 3, .ia 18 1 16 17, .ln 19 18, .m 20 0, .m 21 3, .bk 22 .sub false 21 1, .ia 23 1 20 22, .ln 24 23, .bb 25 .eql false 19 24], .k 25 (.q [.o [.m 26 0, .m 27 3, .s 28
 (.sliceSl 1 (.tmp 26) (some (.tmp 27)) none), .m 4 28], .q [.o [.ki 5 1], .block 2 (.loop (.q [.q [.o [.m 29 5, .m 30 4, .ll 31 30, .bb 32 .lss false 29 31], .k 32 .skip (.exit 2)], .block 3 (.q [.dops [.m 35 4, .m 36 5,
 .ia 37 1 35 36, .ln 38 37, .m 39 4, .m 40 5, .bk 41 .sub false 40 1, .ia 42 1 39 41, .ln 43 42, .bb 44 .neq false 38 43], .k 44 (.q [.o [.m 45 0, .m 46 3, .m 47 4, .m 48 5, .ia 49 1 47 48, .ln 50 49, .ia 51 1 45 46, .st
 1 51 50], .o [.m 52 3, .bk 53 .add false 52 1, .m 3 53]]) .skip]), .o [.m 33 5, .bk 34 .add false 33 1, .m 5 34]]))], .o [.m 54 0, .m 55 3, .s 56 (.sliceSl 1 (.tmp 54) (some (.tmp 55)) none), .z (.clear 9 1 (.string
 ⟨#[]⟩) (.tmp 56))], .o [.m 57 0, .m 58 3, .s 59 (.sliceSl 1 (.tmp 57) none (some (.tmp 58))), .m 2 59], .ret]) .skip]), .o [.m 14 3, .bk 15 .add false 14 1, .m 3 15]]))], .o [.m 60 0, .m 2 60], .ret]
def jJ_ : LF := ⟨1, 61, c39, [.tmp 2]⟩
theorem mp_ : aF_ Try.prog Try.f39 jJ_ := ax_
theorem dH_ {zs : List (List UInt8)} (hz : zs.length ≤ 4000000) {l : Nat} {H : List Row} (hl : H[l]? = some ⟨.ty 9, 1, ap_ zs⟩) {K : AV → List Row → Prop}
 (hK : ∀ a ws, mx_ (H.set l ⟨.ty 9, 1, ap_ ws⟩) a (aw_ zs) l ws → K a (H.set l ⟨.ty 9, 1, ap_ ws⟩)) : callSem Try.prog 39 [.own l zs.length] H K := by
 refine cZ_ mixed Try.func39 mp_ (eT_ rfl ?_)
 have hself : H.set l ⟨.ty 9, 1, ap_ zs⟩ = H := by have := c8_ hl; simpa using this
 have hget : ∀ r : Row, (H.set l r)[l]? = some r := fun r => hp_ hl
 have hown : ∀ zs', zs' = aw_ zs → zs' = zs → K (.own l zs.length) H := by
  intro zs' e1 e2
  have := hK (.own l zs.length) zs ⟨hself.symm ▸ hl, by rw [← e1, e2, take_length], .inr ⟨by rw [← e1, e2], by rw [← e1, e2]⟩⟩
  rwa [hself] at this
 by_cases h2 : (zs.length : Int) < 2
 ·simp (disch := omega) only [jJ_, c39, hl, h2, aH_, go_sem, reduceCtorEq, ↓reduceIte]
  refine hown (aw_ zs) rfl ?_
  match zs, h2 with
  | [], _ => rfl
  | [x], _ => rfl
  | x :: y :: r, h2 => simp at h2; omega
 simp (disch := omega) only [jJ_, c39, hl, h2, aH_, go_sem, reduceCtorEq, ↓reduceIte]
 refine bb_ (fun m t h => ∃ k : Nat, t 0 = .own l zs.length ∧ t 3 = .val (.int .i64 k) ∧ h = H ∧ m = zs.length - k ∧ 1 ≤ k ∧ k ≤ zs.length ∧ aw_ zs = zs.take (k - 1) ++ aw_ (zs.drop (k - 1))) (zs.length - 1) ⟨1, rfl, rfl, rfl, rfl, Nat.le_refl _, by omega, by simp⟩ ?_
 rintro J hJ m t h ⟨k, t0, t3, rfl, rfl, hk1, hk, hS⟩
 by_cases hlt : k < zs.length
 ·have hg := cX_ zs k hlt
  have hg1 := cX_ zs (k - 1) (by omega)
  have hkp : ((k : Int) - 1) = ((k - 1 : Nat) : Int) := by omega
  have hlt1 : k - 1 < zs.length := by omega
  rw [eY_ zs k hk1 hlt] at hS
  by_cases he : zs[k] = zs[k - 1]
  ·rw [if_pos he.symm] at hS
   have he' : (zs[k] = zs[k - 1]) = True := eq_true he
   simp (disch := omega) only [t0, t3, hl, hlt, hlt1, hg, hg1, hkp, he', aH_, go_sem, reduceEqDiff, reduceCtorEq, ↓reduceIte]
   have hes : zs.take k = zs.take (k - 1) ++ [zs[k - 1]] := by rw [take_append_getElem hlt1]; congr 1; omega
   have hS2 : aw_ zs = zs.take k ++ (aw_ (zs.drop k)).drop 1 := by
    rw [hS, hes]
    obtain ⟨r', e⟩ := d7_ zs[k] (zs.drop (k + 1))
    rw [← drop_eq_getElem_cons hlt] at e
    rw [e, he, append_assoc]; rfl
   refine bb_ (fun m t h' => ∃ (c k2 : Nat) (ws : List (List UInt8)), t 0 = .own l zs.length ∧ t 3 = .val (.int .i64 c) ∧ t 4 = .sub l zs.length k zs.length ∧ t 5 = .val (.int .i64 k2) ∧ h' = h.set l ⟨.ty 9, 1, ap_ ws⟩ ∧ m = zs.length - (k + k2) ∧ 1 ≤ k2 ∧ k + k2 ≤ zs.length ∧ c < k + k2 ∧ ws.length = zs.length ∧ (∀ i, k + k2 - 1 ≤ i → ws[i]? = zs[i]?) ∧ aw_ zs = ws.take c ++ (aw_ (zs.drop (k + k2 - 1))).drop 1) (zs.length - (k + 1))
    ⟨k, 1, zs, by simp [upd, t0], by simp [upd, t3], by simp [upd], by simp [upd], hself.symm, rfl, Nat.le_refl _, by omega, by omega, rfl, fun _ _ => rfl, by rw [show k + 1 - 1 = k by omega]; exact hS2⟩ ?_
   clear hS hS2 hg hg1 t0 t3
   rintro J2 hJ2 m t h' ⟨c, k2, ws, t0, t3, t4, t5, rfl, rfl, hk2, hkk, hc, hwl, hws, hS⟩
   by_cases hlt2 : k + k2 < zs.length
   ·have hcond : ((k : Int) + (k2 : Int) < (zs.length : Int)) = True := eq_true (by omega)
    have hcond1 : ((k : Int) + ((k2 - 1 : Nat) : Int) < (zs.length : Int)) = True := eq_true (by omega)
    have hl2 : ((k2 : Int) < ((zs.length - k : Nat) : Int)) = True := eq_true (by omega)
    have hp2 : ((k2 : Int) - 1) = ((k2 - 1 : Nat) : Int) := by omega
    have g1 : (ap_ ws)[k + k2]? = some [.val (.string (txt zs[k + k2]))] := by
     have : ws[k + k2]? = some zs[k + k2] := by rw [hws _ (by omega)]; exact getElem?_eq_getElem hlt2
     simp [ap_, this]
    have hlt3 : k + (k2 - 1) < zs.length := by omega
    have g2 : (ap_ ws)[k + (k2 - 1)]? = some [.val (.string (txt zs[k + (k2 - 1)]))] := by
     have : ws[k + (k2 - 1)]? = some zs[k + (k2 - 1)] := by rw [hws _ (by omega)]; exact getElem?_eq_getElem hlt3
     simp [ap_, this]
    have hcw : c < ws.length := by omega
    have g3 := cX_ ws c hcw
    have hcz : ((c : Int) < (zs.length : Int)) = True := eq_true (by omega)
    have hidx : k + k2 - 1 = k + (k2 - 1) := by omega
    rw [hidx] at hS
    have hat := eY_ zs (k + k2) (by omega) hlt2
    simp only [hidx] at hat
    rw [hat] at hS
    by_cases hne : zs[k + k2] = zs[k + (k2 - 1)]
    ·have hne' : (zs[k + k2] = zs[k + (k2 - 1)]) = True := eq_true hne
     rw [if_pos hne.symm] at hS
     simp (disch := omega) only [t4, t5, hget, hwl, hcond, hcond1, hl2, hp2, g1, g2, hne', hk, aH_, go_sem, reduceEqDiff, ↓reduceIte]
     exact ⟨zs.length - (k + (k2 + 1)), by omega, hJ2 _ _ _ ⟨c, k2 + 1, ws, by simp [upd, t0], by simp [upd, t3], by simp [upd, t4], by simp [upd], rfl, rfl, by omega, by omega, by omega, hwl, fun i hi => hws i (by omega), by rw [show k + (k2 + 1) - 1 = k + k2 by omega]; exact hS⟩⟩
    ·have hne' : (zs[k + k2] = zs[k + (k2 - 1)]) = False := eq_false hne
     rw [if_neg (fun q => hne q.symm)] at hS
     simp (disch := omega) only [t0, t3, t4, t5, hget, hwl, hcond, hcond1, hl2, hp2, g1, g2, g3, hne', hcz, hk, set_set, id_, aH_, go_sem, reduceEqDiff, reduceCtorEq, ↓reduceIte]
     refine ⟨zs.length - (k + (k2 + 1)), by omega, hJ2 _ _ _ ⟨c + 1, k2 + 1, ws.set c zs[k + k2], by simp [upd, t0], by simp [upd], by simp [upd, t4], by simp [upd], rfl, rfl, by omega, by omega, by omega, by simp [hwl], fun i hi => ?_, ?_⟩⟩
     ·rw [getElem?_set_ne (by omega)]; exact hws i (by omega)
     ·rw [show k + (k2 + 1) - 1 = k + k2 by omega, hS]
      obtain ⟨r', e⟩ := d7_ zs[k + k2] (zs.drop (k + k2 + 1))
      rw [← drop_eq_getElem_cons hlt2] at e
      rw [e]
      have : (ws.set c zs[k + k2]).take (c + 1) = ws.take c ++ [zs[k + k2]] := by
       rw [← take_append_getElem (by simpa using hcw)]
       simp [take_set_of_le]
      rw [this]; simp
   ·have hend : k + k2 - 1 = zs.length - 1 := by omega
    have hl2 : ((k2 : Int) < ((zs.length - k : Nat) : Int)) = False := eq_false (by omega)
    have hfin : aw_ zs = ws.take c := by rw [hS, hend, ez_ zs (by omega)]; simp
    simp (disch := omega) only [t0, t3, t4, t5, hget, hwl, hl2, hk, set_set, aH_, go_sem, reduceEqDiff, reduceCtorEq, ↓reduceIte]
    refine ⟨by omega, ?_⟩
    have hrow : ∀ A : List (List AV), A = (ap_ ws).take c ++ (List.replicate (zs.length - c) [AV.val (Value.string (txt []))] ++ (ap_ ws).drop zs.length) → A = ap_ (ws.take c ++ List.replicate (zs.length - c) []) := by
     intro A e
     rw [e, drop_eq_nil_of_le (by rw [aH_]; omega), append_nil, hD_, ← h1_]
     congr 1
     simp [ap_]
    rw [if_pos ⟨by simp [aH_, hwl]; omega, by omega⟩]
    have hr := hrow _ rfl
    have hlen2 : (ws.take c ++ List.replicate (zs.length - c) ([] : List UInt8)).length = zs.length := by simp; omega
    have hcut : (ws.take c ++ List.replicate (zs.length - c) ([] : List UInt8)).take (aw_ zs).length = aw_ zs := by
     rw [hfin, length_take, Nat.min_eq_left (by omega), take_append_of_le_length (by simp; omega), take_take]; simp
    have hcl : (aw_ zs).length = c := by rw [hfin, length_take]; omega
    have := hK (.sub l zs.length 0 c) (ws.take c ++ List.replicate (zs.length - c) ([] : List UInt8)) ⟨hget _, hcut, .inl (by rw [hcl, hlen2])⟩
    rw [hr]
    exact this
  ·rw [if_neg (fun q => he q.symm)] at hS
   have he' : (zs[k] = zs[k - 1]) = False := eq_false he
   simp (disch := omega) only [t0, t3, hl, hlt, hlt1, hg, hg1, hkp, he', aH_, go_sem, reduceEqDiff, reduceCtorEq, ↓reduceIte]
   refine ⟨zs.length - (k + 1), by omega, hJ _ _ _ ⟨k + 1, by simp [upd, t0], by simp [upd], rfl, rfl, by omega, by omega, ?_⟩⟩
   rw [hS, show k + 1 - 1 = k by omega]
   have e : zs.take k = zs.take (k - 1) ++ [zs[k - 1]] := by rw [take_append_getElem hlt1]; congr 1; omega
   rw [e, append_assoc]; rfl
 ·simp (disch := omega) only [t0, t3, hl, hlt, aH_, go_sem, reduceEqDiff, reduceCtorEq, ↓reduceIte]
  refine hown (aw_ zs) rfl ?_
  have : k - 1 = zs.length - 1 := by omega
  rw [hS, this, ez_ zs (by omega)]
  rw [take_append_getElem, show zs.length - 1 + 1 = zs.length by omega, take_length]
def cJ_ (xs : List ByteArray) : List (List UInt8) := xs.map fun s => s.data.toList
theorem il_ (xs : List ByteArray) : ap_ (cJ_ xs) = xs.map aA_ := by
 unfold ap_ cJ_
 rw [map_map]
 refine map_congr_left fun s _ => ?_
 show [AV.val (.string (txt s.data.toList))] = [AV.val (.string s)]
 rw [← eg_]
theorem h0_ (xs : List ByteArray) : (cJ_ xs).Nodup ↔ xs.Nodup := by
 unfold cJ_
 rw [List.Nodup, pairwise_map]
 constructor
 ·intro h; exact h.imp fun q e => q (by rw [e])
 ·intro h; exact h.imp fun {a b} q e => q (by rw [eg_ a, eg_ b, e])
def bz_ (xs : List ByteArray) : Bool := decide xs.Nodup
def c38 : LC :=
 .q [.o [.bx 1 22 0, .s 2 (.mov (.const (.nilFunc)))], .o [.s 3 (.mkFunc 48 [] [.tmp 1]), .m 2 3], .ret]
def k8_ : LF := ⟨1, 4, c38, [.tmp 2]⟩
theorem l9_ : aF_ Try.prog Try.f38 k8_ := ax_
def c37 : LC :=
 .q [.o [.nl 2], .o [.m 4 0, .c1 5 46 4, .m 3 5], .o [.m 6 3, .c1 7 47 6], .o [.m 8 3, .m 2 8], .ret]
def lw_ : LF := ⟨1, 9, c37, [.tmp 2]⟩
theorem me_ : aF_ Try.prog Try.f37 lw_ := ax_
def c24 : LC :=
 .q [.o [.f 2], .o [.m 4 0, .c1 5 38 4, .c1 6 37 5, .m 3 6], .o [.m 7 3, .c1 8 39 7, .ll 9 8, .m 10 0, .ll 11 10, .bb 12 .eql false 9 11, .m 2 12], .ret]
def lK_ : LF := ⟨1, 13, c24, [.tmp 2]⟩
theorem l5_ : aF_ Try.prog Try.f24 lK_ := ax_
theorem dK_ (xs : List ByteArray) (H : List Row) (K : AV → List Row → Prop) (hk : K (.fn 48 [] [.ptr H.length 1 0 0]) (H ++ [⟨.ty 22, 1, [[.list 0 1 (xs.map aA_)]]⟩])) : callSem Try.prog 38 [.list 0 1 (xs.map aA_)] H K := by
 refine cZ_ mixed Try.func38 l9_ (eT_ rfl ?_)
 simp (disch := (first | omega | (simp only [ls_, la_, lc_, ln_]; first | done | omega))) only [go_sem, reduceEqDiff, ↓reduceIte, k8_, c38]
 exact hk
theorem dC_ {xs : List ByteArray} (hx : xs.length ≤ 1048576) {l : Nat} {EB : TypeId} {H : List Row} (hl : H[l]? = some ⟨.ty EB, 1, [[.list 0 1 (xs.map aA_)]]⟩) (K : AV → List Row → Prop) (hk : K (.own H.length xs.length) (H ++ [⟨.ty 9, 1, ap_ (bn_ (cJ_ xs))⟩])) : callSem Try.prog 37 [.fn 48 [] [.ptr l 1 0 0]] H K := by
 refine cZ_ mixed Try.func37 me_ (eT_ rfl ?_)
 have hrl : (cJ_ xs).length = xs.length := length_map ..
 simp (disch := (first | omega | (simp only [ls_, la_, lc_, ln_]; first | done | omega))) only [go_sem, reduceCtorEq, ↓reduceIte, lw_, c37]
 refine hj_ (E := 9) (EB := EB) (zs := cJ_ xs) (fun Bs sv zs w h1 h2 h3 h4 => Try.collect Bs sv zs h1 w h2 h3 h4) (by rw [il_]; exact hl) (by omega) ?_
 simp (disch := (first | omega | (simp only [ls_, la_, lc_, ln_]; first | done | omega))) only [go_sem, ↓reduceIte]
 refine i3_ (E := 9) (zs := cJ_ xs) (fun blk off cap zs w h1 h2 h3 => AnyM.slices_Sort_string Try.sortS blk off cap zs w h1 h2 h3) (fun p cap w => AnyM.slices_Sort_string_none Try.sortS p cap w) (jh_ rfl) (by omega) ?_
 simp (disch := (first | omega | (simp only [ls_, la_, lc_, ln_]; first | done | omega))) only [go_sem, reduceEqDiff, ↓reduceIte]
 rw [hrl]
 have e : (H ++ [(⟨.ty 9, 1, ap_ (cJ_ xs)⟩ : Row)]).set H.length ⟨.ty 9, 1, ap_ (bn_ (cJ_ xs))⟩ = H ++ [⟨.ty 9, 1, ap_ (bn_ (cJ_ xs))⟩] := by
  rw [set_append_right _ _ (Nat.le_refl _)]; simp
 first | exact hk | (rw [e]; exact hk)
theorem fb_ (xs : List ByteArray) (hx : xs.length ≤ 1048576) (h : List Row) : aa_ Try.prog 24 [.list 0 1 (xs.map aA_)] h (.val (.bool (bz_ xs))) := by
 refine as_ mixed Try.func24 l5_ rfl rfl ?_ h
 have hrl : (cJ_ xs).length = xs.length := length_map ..
 have hsl : (bn_ (cJ_ xs)).length = xs.length := by rw [dh_, hrl]
 simp (disch := omega) only [lK_, c24, go_sem, reduceCtorEq, ↓reduceIte]
 refine dK_ xs _ _ ?_
 simp (disch := omega) only [go_sem, ↓reduceIte]
 refine dC_ (l := 0) (EB := 22) hx rfl _ ?_
 simp (disch := omega) only [go_sem, ↓reduceIte]
 rw [← hsl]
 refine dH_ (l := 1) (by omega) rfl (fun a ws hI => ?_)
 have hd := iW_ (cJ_ xs)
 have hfin : bz_ xs = decide ((aw_ (bn_ (cJ_ xs))).length = xs.length) := by
  rw [← hrl, hd, bz_, decide_eq_decide, h0_]
 obtain ⟨i1, i2, rfl | ⟨rfl, rfl⟩⟩ := hI
 ·simp (disch := omega) only [aH_, Nat.sub_zero, go_sem, reduceEqDiff, reduceCtorEq, ↓reduceIte]
  refine ah_ ?_
  rw [hfin, decide_eq_decide]
  omega
 ·simp (disch := omega) only [aH_, go_sem, reduceEqDiff, reduceCtorEq, ↓reduceIte]
  refine ah_ ?_
  rw [hfin, decide_eq_decide]
  omega
theorem fz_ (xs : List ByteArray) (v : ByteArray) : 0 ≤ aZ_ xs v ↔ v ∈ xs := by
 unfold aZ_
 rcases dn_ (fun x => decide (v = x)) xs 0 with ⟨h1, h2⟩ | ⟨i, hi, h1, h2, _⟩
 ·rw [h1]
  constructor
  ·intro h; omega
  ·intro h; have := h2 v h; simp at this
 ·rw [h1]
  constructor
  ·intro _
   have e : v = xs[i] := by simpa using h2
   rw [e]; exact getElem_mem hi
  ·intro _; omega
theorem iN_ (xs : List ByteArray) (v : ByteArray) : aZ_ xs v < (xs.length : Int) ∨ aZ_ xs v = -1 := by
 unfold aZ_
 rcases dn_ (fun x => decide (v = x)) xs 0 with ⟨h1, _⟩ | ⟨i, hi, h1, _⟩
 ·exact .inr h1
 ·rw [h1]; exact .inl (by omega)
def cR_ (cols : List ByteArray) : Int → List ByteArray → Bool
 | _, [] => true
 | a, n :: r => decide (a < aZ_ cols n) && cR_ cols (aZ_ cols n) r
theorem gg_ (cols : List ByteArray) : ∀ (l : List ByteArray) (a : Int), 0 ≤ a → a < (cols.length : Int) → cR_ cols a l = true → a + (l.length : Int) < (cols.length : Int)
 | [], a, _, h, _ => by simpa using h
 | n :: r, a, h0, h, hl => by
  simp only [cR_, Bool.and_eq_true, decide_eq_true_eq] at hl
  have h1 : aZ_ cols n < (cols.length : Int) := by
   rcases iN_ cols n with q | q
   ·exact q
   ·omega
  have := gg_ cols r _ (by omega) h1 hl.2
  simp only [lc_]; omega
theorem gY_ (cols l : List ByteArray) (a : Int) (k : Nat) (h : k < l.length) : cR_ cols a (l.drop k) = (decide (a < aZ_ cols l[k]) && cR_ cols (aZ_ cols l[k]) (l.drop (k + 1))) := by
 rw [drop_eq_getElem_cons h]; rfl
def aM_ (b : af_) : Bool := aN_ b.Name && aN_ b.Global && b4_ b.Columns.length 1 5 && bz_ b.Columns && b.Columns.all aN_ && cR_ b.Columns 0 b.Indexes
def c23 : LC :=
 .q [.o [.ki 2 0], .o [.m 3 0, .ll 4 3, .m 2 4], .ret]
def kV_ : LF := ⟨1, 5, c23, [.tmp 2]⟩
theorem mh_ : aF_ Try.prog Try.f23 kV_ := ax_
theorem ev_ (xs : List ByteArray)  (h : List Row) : aa_ Try.prog 23 [.list 0 1 (xs.map aA_)] h (.val (.int .i64 xs.length)) := by
 refine as_ mixed Try.func23 mh_ rfl rfl ?_ h
 simp (disch := omega) only [kV_, c23, go_sem, reduceCtorEq, ↓reduceIte]
 repeat' (first
  | exact al_ _ _
  | simp (disch := omega) only [go_sem, reduceEqDiff, Nat.reduceAdd, reduceLeDiff, reduceCtorEq, Int.reduceLT, Int.reduceLE, Int.reduceNeg, Int.reduceSub, Int.reduceAdd, Int.reduceToNat, ↓reduceIte]
  | ((first | (apply a1_; assumption) | (apply a3_; assumption) | (apply bj_; assumption) | (apply bi_; assumption)); intro hb; try simp only [hb])
  | ((first | apply aC_ | apply aJ_) <;> intro hb <;> (try simp only [hb]) <;> (first | have hp := bK_ hb | have hp := bE_ hb | have hp := bG_ hb | have hp := bJ_ hb | skip)))
def c26 : LC :=
 .q [.o [.f 2], .o [.m 3 0, .c1 4 21 3, .nt 5 4, .m 2 5], .ret]
def kX_ : LF := ⟨1, 6, c26, [.tmp 2]⟩
theorem l0_ : aF_ Try.prog Try.f26 kX_ := ax_
theorem eG_ (s : ByteArray) (hs : s.size ≤ 1048576) (h : List Row) : aa_ Try.prog 26 [.val (.string s)] h (.val (.bool (!aN_ s))) := by
 refine as_ mixed Try.func26 l0_ rfl rfl ?_ h
 simp (disch := omega) only [kX_, c26, go_sem, reduceCtorEq, ↓reduceIte]
 repeat' (first
  | exact al_ _ _
  | simp (disch := omega) only [go_sem, ↓reduceIte]
  | (refine aa_.call (cl_ _ hs _) ?_)
  | (refine aa_.q (cl_ _ hs _) ?_)
  | ((first | (apply a1_; assumption) | (apply a3_; assumption) | (apply bj_; assumption) | (apply bi_; assumption)); intro hb; try simp only [hb])
  | ((first | apply aC_ | apply aJ_) <;> intro hb <;> (try simp only [hb]) <;> (first | have hp := bK_ hb | have hp := bE_ hb | have hp := bG_ hb | have hp := bJ_ hb | skip)))
theorem hr_ (p : ByteArray → Bool) (xs : List ByteArray) : (xs.any fun s => !p s) = !xs.all p := by
 rw [← hM_, Bool.not_not]
def c9 : LC :=
 .q [.o [.bx 1 27 0, .f 2], .q [.o [.fa 7 0 1, .ln 8 7, .c1 9 21 8, .nt 10 9, .m 11 10, .gf 12 11 false 1 1, .gn 13 11 false 12, .gc 14 11 false 21 13, .gu 15 11 false 14, .pt 16 11 15, .m 17 16, .gf 18 17 false 2 1, .gn
 19 17 false 18, .gc 20 17 false 23 19, .g 21 17 false (.call 22 [.tmp 20, .const (.int .i64 1), .const (.int .i64 5)]), .gu 22 17 false 21, .pt 23 17 22, .m 24 23, .gf 25 24 false 2 1, .gn 26 24 false 25, .gc 27 24 false
 24 26, .gu 28 24 false 27, .pt 29 24 28], .k 29 (.q [.o [.f 2], .ret]) .skip], .q [.o [.fa 30 2 1, .ln 31 30, .s 32 (.call 25 [.tmp 31, .func 26])], .k 32 (.q [.o [.f 2], .ret]) .skip], .o [.ki 3 0], .q [.o [.fa 33 3 1,
 .ln 34 33, .ll 35 34, .ki 36 0], .block 0 (.loop (.q [.o [.bb 37 .lss false 36 35], .k 37 .skip (.exit 0), .block 1 (.q [.o [.ia 38 1 34 36, .ln 39 38, .m 5 39], .o [.fa 40 2 1, .ln 41 40, .m 42 5, .c2 43 27 41 42, .m 6
 43], .q [.o [.m 44 6, .m 45 3, .bb 46 .leq false 44 45], .k 46 (.q [.o [.f 2], .ret]) .skip], .o [.m 47 6, .m 3 47]]), .o [.bk 48 .add false 36 1, .m 36 48]]))], .o [.t 2], .ret]
def lf9 : LF := ⟨1, 49, c9, [.tmp 2]⟩
theorem mv_ : aF_ Try.prog Try.f9 lf9 := ax_
theorem fr_ (x : af_) (hx : af_.sz x ≤ 1048576) (h : List Row) : aa_ Try.prog 9 [.agg (af_.cells x)] h (.val (.bool (aM_ x))) := by
 refine as_ mixed Try.func9 mv_ rfl rfl ?_ h
 have hc := bB_ (af_.sz_Columns hx)
 have hi := bB_ (af_.sz_Indexes hx)
 have hN := af_.sz_Name hx
 have hG := af_.sz_Global hx
 have hmem : ∀ s ∈ x.Columns, s.size ≤ 1048576 := fun s hs => eS_ (af_.sz_Columns hx) hs
 simp (disch := omega) only [lf9, c9, af_.cells, go_sem, reduceEqDiff, Nat.reduceAdd, ↓reduceIte]
 refine aa_.call (cl_ _ hN _) ?_
 cases q1 : aN_ x.Name
 ·simp (disch := omega) only [go_sem, reduceEqDiff, ↓reduceIte]
  exact ah_ (by simp [aM_, q1])
 simp (disch := omega) only [go_sem, reduceEqDiff, ↓reduceIte]
 refine aa_.call (cl_ _ hG _) ?_
 cases q2 : aN_ x.Global
 ·simp (disch := omega) only [go_sem, reduceEqDiff, ↓reduceIte]
  exact ah_ (by simp [aM_, q2])
 simp (disch := omega) only [go_sem, reduceEqDiff, ↓reduceIte]
 refine aa_.call (ev_ _ _) ?_
 simp (disch := omega) only [go_sem, reduceEqDiff, ↓reduceIte]
 refine aa_.call (fY_ _ _ _ _) ?_
 cases q3 : b4_ x.Columns.length 1 5
 ·simp (disch := omega) only [go_sem, reduceEqDiff, ↓reduceIte]
  exact ah_ (by simp [aM_, q3])
 simp (disch := omega) only [go_sem, reduceEqDiff, ↓reduceIte]
 refine aa_.call (fb_ _ hc _) ?_
 cases q4 : bz_ x.Columns
 ·simp (disch := omega) only [go_sem, reduceEqDiff, ↓reduceIte]
  exact ah_ (by simp [aM_, q4])
 simp (disch := omega) only [go_sem, reduceEqDiff, ↓reduceIte]
 refine aa_.call (bL_ x.Columns (fun s => !aN_ s) 26 hc (by kernel_rfl) (fun s hs h => eG_ s (hmem s hs) h) _) ?_
 rw [hr_]
 cases q5 : x.Columns.all aN_
 ·simp (disch := omega) only [go_sem, ↓reduceIte]
  exact ah_ (by simp [aM_, q5])
 have hS0 : aM_ x = cR_ x.Columns 0 x.Indexes := by simp [aM_, q1, q2, q3, q4, q5]
 simp (disch := omega) only [go_sem, reduceEqDiff, ↓reduceIte]
 refine bb_ (fun m t h => ∃ (k : Nat) (a : Int), t 1 = .ptr 0 1 0 0 ∧ t 3 = .val (.int .i64 a) ∧ t 34 = .list 0 1 (x.Indexes.map aA_) ∧ t 35 = .val (.int .i64 x.Indexes.length) ∧ t 36 = .val (.int .i64 k) ∧ h[0]? = some ⟨.ty 27, 4, [af_.cells x]⟩ ∧ m = x.Indexes.length - k ∧ k ≤ x.Indexes.length ∧ aM_ x = cR_ x.Columns a (x.Indexes.drop k)) x.Indexes.length ⟨0, 0, rfl, rfl, rfl, rfl, rfl, rfl, rfl, Nat.zero_le _, hS0⟩ ?_
 rintro J hJ m t h ⟨k, a, t1, t3, t34, t35, t36, o0, rfl, hk, hS⟩
 have o0' := o0
 rw [af_.cells] at o0
 by_cases hlt : k < x.Indexes.length
 ·rw [gY_ _ _ _ _ hlt] at hS
  simp (disch := omega) only [t1, t34, t35, t36, o0, hlt, go_sem, reduceEqDiff, ↓reduceIte]
  refine aa_.call (d6_ x.Columns x.Indexes[k] hc _) ?_
  by_cases hle : aZ_ x.Columns x.Indexes[k] ≤ a
  ·simp (disch := omega) only [t3, hle, go_sem, reduceEqDiff, ↓reduceIte]
   refine ah_ ?_
   rw [hS, decide_eq_false (by omega)]; rfl
  ·simp (disch := omega) only [t3, t36, hle, aX_, go_sem, reduceEqDiff, ↓reduceIte]
   refine ⟨x.Indexes.length - (k + 1), by omega, hJ _ _ _ ⟨k + 1, aZ_ x.Columns x.Indexes[k], by simp [upd, t1], by simp [upd], by simp [upd, t34], by simp [upd, t35], by simp [upd], by first | exact o0' | exact dx_ o0', rfl, by omega, ?_⟩⟩
   rw [hS, decide_eq_true (by omega)]; rfl
 ·simp (disch := omega) only [t35, t36, hlt, go_sem, ↓reduceIte]
  refine ah_ ?_
  rw [hS, drop_eq_nil_of_le (by omega)]; rfl
def c19 : LC :=
 .q [.o [.bx 1 27 0, .f 2], .q [.o [.fa 7 0 1, .ln 8 7, .c1 9 33 8, .nt 10 9, .m 11 10, .gf 12 11 false 1 1, .gn 13 11 false 12, .gc 14 11 false 33 13, .gu 15 11 false 14, .pt 16 11 15, .m 17 16, .gf 18 17 false 2 1, .gn
 19 17 false 18, .g 20 17 false (.lenSl (.tmp 19)), .g 21 17 false (.bin .lss false (.tmp 20) (.const (.int .i64 1))), .pt 22 17 21, .m 23 22, .gf 24 23 false 2 1, .gn 25 23 false 24, .g 26 23 false (.lenSl (.tmp 25)), .g
 27 23 false (.bin .gtr false (.tmp 26) (.const (.int .i64 5))), .pt 28 23 27, .m 29 28, .gf 30 29 false 3 1, .gn 31 29 false 30, .g 32 29 false (.lenSl (.tmp 31)), .gf 33 29 false 2 1, .gn 34 29 false 33, .g 35 29 false
 (.lenSl (.tmp 34)), .g 36 29 false (.bin .geq false (.tmp 32) (.tmp 35)), .pt 37 29 36], .k 37 (.q [.o [.f 2], .ret]) .skip], .q [.o [.ki 3 0], .block 0 (.loop (.q [.q [.o [.m 38 3, .fa 39 2 1, .ln 40 39, .ll 41 40, .bb
 42 .lss false 38 41], .k 42 .skip (.exit 0)], .block 1 (.q [.dops [.fa 45 2 1, .ln 46 45, .m 47 3, .ia 48 1 46 47, .ln 49 48, .c1 50 33 49, .nt 51 50, .m 52 51, .gf 53 52 false 2 1, .gn 54 52 false 53, .gm 55 52 false 3,
 .g 56 52 false (.sliceSl 1 (.tmp 54) none (some (.tmp 55))), .gf 57 52 false 2 1, .gn 58 52 false 57, .gm 59 52 false 3, .g 60 52 false (.indexAddr 1 (.tmp 58) (.tmp 59)), .gn 61 52 false 60, .g 62 52 false (.call 34
 [.tmp 56, .tmp 61]), .g 63 52 false (.bin .geq false (.tmp 62) (.const (.int .i64 0))), .pt 64 52 63], .k 64 (.q [.o [.f 2], .ret]) .skip]), .o [.m 43 3, .bk 44 .add false 43 1, .m 3 44]]))], .o [.ki 4 0], .q [.o [.ki 5
 0], .block 2 (.loop (.q [.q [.o [.m 65 5, .fa 66 3 1, .ln 67 66, .ll 68 67, .bb 69 .lss false 65 68], .k 69 .skip (.exit 2)], .block 3 (.q [.dops [.fa 72 2 1, .ln 73 72, .fa 74 3 1, .ln 75 74, .m 76 5, .ia 77 1 75 76,
 .ln 78 77, .c2 79 34 73 78, .m 6 79], .q [.o [.m 80 6, .m 81 4, .bb 82 .leq false 80 81], .k 82 (.q [.o [.f 2], .ret]) .skip], .o [.m 83 6, .m 4 83]]), .o [.m 70 5, .bk 71 .add false 70 1, .m 5 71]]))], .o [.t 2], .ret]
def k9_ : LF := ⟨1, 84, c19, [.tmp 2]⟩
theorem lN_ : aF_ Try.prog Try.f19 k9_ := ax_
theorem gt_ (x : af_) (hx : af_.sz x ≤ 1048576) (h : List Row) : aa_ Try.prog 19 [.agg (af_.cells x)] h (.val (.bool (aM_ x))) := by
 refine as_ mixed Try.func19 lN_ rfl rfl ?_ h
 have hc := bB_ (af_.sz_Columns hx)
 have hi := bB_ (af_.sz_Indexes hx)
 have hN := af_.sz_Name hx
 have hG := af_.sz_Global hx
 have hmem : ∀ s ∈ x.Columns, s.size ≤ 1048576 := fun s hs => eS_ (af_.sz_Columns hx) hs
 simp (disch := omega) only [k9_, c19, af_.cells, go_sem, reduceEqDiff, Nat.reduceAdd, ↓reduceIte]
 refine aa_.call (cn_ _ hN _) ?_
 cases q1 : aN_ x.Name
 ·simp (disch := omega) only [go_sem, reduceEqDiff, ↓reduceIte]
  exact ah_ (by simp [aM_, q1])
 simp (disch := omega) only [go_sem, reduceEqDiff, ↓reduceIte]
 refine aa_.call (cn_ _ hG _) ?_
 cases q2 : aN_ x.Global
 ·simp (disch := omega) only [go_sem, reduceEqDiff, ↓reduceIte]
  exact ah_ (by simp [aM_, q2])
 by_cases q3 : (x.Columns.length : Int) < 1
 ·have hw : b4_ x.Columns.length 1 5 = false := by simp [b4_]; omega
  have q3' : ((x.Columns.length : Int) < 1) = True := eq_true q3
  simp (disch := omega) only [q3', go_sem, reduceEqDiff, ↓reduceIte]
  exact ah_ (by simp [aM_, hw])
 have q3' : ((x.Columns.length : Int) < 1) = False := eq_false q3
 by_cases q4 : 5 < (x.Columns.length : Int)
 ·have hw : b4_ x.Columns.length 1 5 = false := by simp [b4_]; omega
  have q4' : (5 < (x.Columns.length : Int)) = True := eq_true q4
  simp (disch := omega) only [q3', q4', go_sem, reduceEqDiff, ↓reduceIte]
  exact ah_ (by simp [aM_, hw])
 have q4' : (5 < (x.Columns.length : Int)) = False := eq_false q4
 have hw : b4_ x.Columns.length 1 5 = true := by simp [b4_]; omega
 by_cases q5 : x.Columns.length ≤ x.Indexes.length
 ·have q5' : ((x.Columns.length : Int) ≤ (x.Indexes.length : Int)) = True := eq_true (by omega)
  have hno : cR_ x.Columns 0 x.Indexes = false := by
   rw [← Bool.not_eq_true]
   intro hg
   have := gg_ x.Columns x.Indexes 0 (by omega) (by omega) hg
   omega
  simp (disch := omega) only [q3', q4', q5', go_sem, reduceEqDiff, ↓reduceIte]
  exact ah_ (by simp [aM_, hno])
 have q5' : ((x.Columns.length : Int) ≤ (x.Indexes.length : Int)) = False := eq_false (by omega)
 simp (disch := omega) only [q3', q4', q5', go_sem, reduceEqDiff, ↓reduceIte]
 refine bb_ (fun m t h => ∃ (k : Nat), t 1 = .ptr 0 1 0 0 ∧ t 3 = .val (.int .i64 k) ∧ h[0]? = some ⟨.ty 27, 4, [af_.cells x]⟩ ∧ m = x.Columns.length - k ∧ k ≤ x.Columns.length ∧ (x.Columns.take k).all aN_ = true ∧ (x.Columns.take k).Nodup) x.Columns.length ⟨0, rfl, rfl, rfl, rfl, Nat.zero_le _, rfl, nodup_nil⟩ ?_
 rintro J hJ m t h ⟨k, t1, t3, o0, rfl, hk, hA, hD⟩
 have o0' := o0
 rw [af_.cells] at o0
 by_cases hlt : k < x.Columns.length
 ·have hmk : x.Columns[k] ∈ x.Columns := getElem_mem hlt
  have htk : x.Columns.take (k + 1) = x.Columns.take k ++ [x.Columns[k]] := take_succ_eq_append_getElem hlt
  simp (disch := omega) only [t1, t3, o0, hlt, go_sem, reduceEqDiff, ↓reduceIte]
  first | refine aa_.q (cn_ _ (hmem _ hmk) _) ?_ | refine aa_.call (cn_ _ (hmem _ hmk) _) ?_
  cases q6 : aN_ x.Columns[k]
  ·simp (disch := omega) only [go_sem, reduceEqDiff, ↓reduceIte]
   refine ah_ ?_
   have : x.Columns.all aN_ = false := by
    rw [← Bool.not_eq_true, all_eq_true]
    intro hall
    have := hall _ hmk
    rw [q6] at this; cases this
   simp [aM_, this]
  ·simp (disch := omega) only [t1, t3, o0, go_sem, reduceEqDiff, ↓reduceIte]
   have hpl : ∀ H, aa_ Try.prog 34 [.list 0 1 ((x.Columns.map aA_).take k), .val (.string x.Columns[k])] H (.val (.int .i64 (aZ_ (x.Columns.take k) x.Columns[k]))) := by
    intro H
    rw [← map_take]
    exact cI_ _ _ (by rw [length_take]; omega) H
   first | refine aa_.q (hpl _) ?_ | refine aa_.call (hpl _) ?_
   by_cases q7 : 0 ≤ aZ_ (x.Columns.take k) x.Columns[k]
   ·have q7' : (0 ≤ aZ_ (x.Columns.take k) x.Columns[k]) = True := eq_true q7
    simp (disch := omega) only [q7', go_sem, ↓reduceIte]
    refine ah_ ?_
    have hnd : bz_ x.Columns = false := by
     rw [bz_, decide_eq_false_iff_not]
     intro hn
     have hs : (x.Columns.take (k + 1)).Nodup := hn.sublist (take_sublist _ _)
     rw [htk, nodup_append] at hs
     exact hs.2.2 _ ((fz_ _ _).1 q7) _ (by simp) rfl
    simp [aM_, hnd]
   ·have q7' : (0 ≤ aZ_ (x.Columns.take k) x.Columns[k]) = False := eq_false q7
    simp (disch := omega) only [t3, q7', aX_, go_sem, reduceEqDiff, ↓reduceIte]
    refine ⟨x.Columns.length - (k + 1), by omega, hJ _ _ _ ⟨k + 1, by simp [upd, t1], by simp [upd], by first | exact o0' | exact dx_ o0', rfl, by omega, ?_, ?_⟩⟩
    ·rw [htk, all_append, hA]; simp [q6]
    ·rw [htk, nodup_append]
     refine ⟨hD, by simp, fun a ha b hb => ?_⟩
     simp only [mem_singleton] at hb
     subst hb
     rintro rfl
     exact q7 ((fz_ _ _).2 ha)
 have e : k = x.Columns.length := by omega
 subst e
 rw [take_length] at hA hD
 have hdis : bz_ x.Columns = true := by rw [bz_, decide_eq_true_eq]; exact hD
 have hS0 : aM_ x = cR_ x.Columns 0 x.Indexes := by simp [aM_, q1, q2, hw, hdis, hA]
 simp (disch := omega) only [t1, t3, o0, hlt, go_sem, reduceEqDiff, ↓reduceIte]
 refine bb_ (fun m t h => ∃ (k : Nat) (a : Int), t 1 = .ptr 0 1 0 0 ∧ t 4 = .val (.int .i64 a) ∧ t 5 = .val (.int .i64 k) ∧ h[0]? = some ⟨.ty 27, 4, [af_.cells x]⟩ ∧ m = x.Indexes.length - k ∧ k ≤ x.Indexes.length ∧ aM_ x = cR_ x.Columns a (x.Indexes.drop k)) x.Indexes.length ⟨0, 0, by simp [upd, t1], by simp [upd], by simp [upd], o0', rfl, Nat.zero_le _, hS0⟩ ?_
 clear hJ t1 t3 o0 o0' hlt hk
 rintro J hJ m t h ⟨k, a, t1, t4, t5, o0, rfl, hk, hS⟩
 have o0' := o0
 rw [af_.cells] at o0
 by_cases hlt : k < x.Indexes.length
 ·rw [gY_ _ _ _ _ hlt] at hS
  simp (disch := omega) only [t1, t4, t5, o0, hlt, go_sem, reduceEqDiff, ↓reduceIte]
  first | refine aa_.q (cI_ x.Columns x.Indexes[k] hc _) ?_ | refine aa_.call (cI_ x.Columns x.Indexes[k] hc _) ?_
  by_cases hle : aZ_ x.Columns x.Indexes[k] ≤ a
  ·simp (disch := omega) only [hle, go_sem, ↓reduceIte]
   refine ah_ ?_
   rw [hS, decide_eq_false (by omega)]; rfl
  ·simp (disch := omega) only [t5, hle, aX_, go_sem, reduceEqDiff, ↓reduceIte]
   refine ⟨x.Indexes.length - (k + 1), by omega, hJ _ _ _ ⟨k + 1, aZ_ x.Columns x.Indexes[k], by simp [upd, t1], by simp [upd], by simp [upd], by first | exact o0' | exact dx_ o0', rfl, by omega, ?_⟩⟩
   rw [hS, decide_eq_true (by omega)]; rfl
 ·simp (disch := omega) only [t1, t5, o0, hlt, go_sem, reduceEqDiff, ↓reduceIte]
  refine ah_ ?_
  rw [hS, drop_eq_nil_of_le (by omega)]; rfl
end Go.Proofs.Ytkddmakjmjmokaa
