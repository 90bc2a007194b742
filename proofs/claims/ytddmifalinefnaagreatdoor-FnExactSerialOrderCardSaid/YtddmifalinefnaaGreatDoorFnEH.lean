/-
 Contracts of functions. Conditions: as each theorem says.
-/
import Derived.Test.YtddmifalinefnaaGreatDoorFnEG
namespace Go.Proofs.YtddmifalinefnaaGreatDoor
open Tryz (prog)
open Nat (reduceEqDiff reduceLeDiff)
open List
open Go.AW
set_option linter.unusedVariables false
set_option linter.unusedSimpArgs false
set_option maxRecDepth 4000
def c31 : LC :=
 .q [.o [.nl 2], .o [.s 6 (.buildSlice 2 1 (.int .i64 0) 0 []), .m 3 6], .q [.o [.m 7 0, .ll 8 7, .ki 9 0], .block 0 (.loop (.q [.o [.bb 10 .lss false 9 8], .k 10 .skip (.exit 0), .block 1 (.q [.o [.ia 11 6 7 9, .ld 12 6
 11, .s 5 (.alloc 49 (.agg #[.int .i64 0, .int .i64 0, .string ⟨#[]⟩, .slice none 0 0, .string ⟨#[]⟩, .int .i64 0])), .st 6 5 12], .o [.m 13 3, .fa 14 0 5, .ln 15 14, .s 16 (.buildSlice 2 1 (.int .i64 0) 1 [(0, .tmp
 15)]), .ap 17 2 1 8 13 16, .m 3 17]]), .o [.bk 18 .add false 9 1, .m 9 18]]))], .o [.m 19 3, .c1 20 56 19], .o [.m 21 3, .c1 22 57 21, .m 2 22], .ret]
def u2_ : LF := ⟨1, 23, c31, [.tmp 2]⟩
theorem xr_ : av_ prog Tryz.f31 u2_ := am_
theorem kw_ (xs : List ab_) (hs : aI_ ab_.sz xs ≤ 1048576) (h0 : List Row) (K : AV → List Row → Prop) (hK : ∀ H' a l ws, bd_ h0 H' → h0.length ≤ l → hk_ H' a (fP_ xs) l ws → K a H') : callSem prog 31 [.list 0 6 (xs.map ab_.cells)] h0 K := by
 refine bp_ mixed Tryz.func31 xr_ (co_ rfl ?_)
 have hx := bz_ hs
 simp (disch := (first | omega | (simp only [ls_, la_, lc_, ln_]; first | done | omega))) only [go_sem, reduceCtorEq, ↓reduceIte, u2_, c31]
 refine aB_ (fun m t h => ∃ (k : Nat) (out : List Int), t 3 = .own h0.length out.length ∧ t 7 = .list 0 6 (xs.map ab_.cells) ∧ t 8 = .val (.int .i64 xs.length) ∧ t 9 = .val (.int .i64 k) ∧ bd_ h0 h ∧ h[h0.length]? = some ⟨.ty 2, 1, ao_ out⟩ ∧ m = xs.length - k ∧ k ≤ xs.length ∧ out = (xs.map ab_.Job).take k) xs.length ⟨0, [], rfl, rfl, rfl, rfl, bd_.app _ _, bG_ rfl, rfl, Nat.zero_le _, rfl⟩ ?_
 rintro J hJ m t h ⟨k, out, t3, t7, t8, t9, mo, o0, rfl, hk, hS⟩
 have hll := (List.getElem?_eq_some_iff.1 o0).1
 have hol : out.length = k := by rw [hS, length_take, length_map]; omega
 by_cases hlt : k < xs.length
 ·have htk : (xs.map ab_.Job).take (k + 1) = out ++ [xs[k].Job] := by
   rw [take_succ_eq_append_getElem (by simpa using hlt), ← hS]; simp
  simp (disch := (first | omega | (simp only [ls_, la_, lc_, ln_]; first | done | omega))) only [bl_, bG_, gY_, go_sem, reduceEqDiff, Nat.reduceAdd, reduceLeDiff, ↓reduceIte, t3, t7, t8, t9, o0, hlt, fy_, aS_, eJ_, dJ_, aq_]
  repeat (refine And.intro (by first | omega | exact eo_ _ | exact dg_ _ | (simp; done)) ?_)
  refine ⟨xs.length - (k + 1), by omega, hJ _ _ _ ⟨k + 1, out ++ [xs[k].Job], by simp [upd], by simp [upd, t7], by simp [upd, t8], by simp [upd], ?_, ?_, rfl, by omega, htk.symm⟩⟩
  ·exact (mo.add _).set (Nat.le_refl _)
  ·exact cd_ (by simp; omega)
 have e : k = xs.length := by omega
 subst e
 have hout : out = xs.map ab_.Job := by rw [hS, take_of_length_le (by simp)]
 simp (disch := (first | omega | (simp only [ls_, la_, lc_, ln_]; first | done | omega))) only [go_sem, reduceEqDiff, ↓reduceIte, t3, t8, t9, hlt]
 refine hV_ o0 (by omega) ?_
 simp (disch := (first | omega | (simp only [ls_, la_, lc_, ln_]; first | done | omega))) only [go_sem, reduceEqDiff, ↓reduceIte, t3]
 have hsl : (cW_ out).length = out.length := gR_ _
 rw [← hsl]
 refine gL_ (by omega) (cd_ hll) (fun a ws hI => ?_)
 simp (disch := (first | omega | (simp only [ls_, la_, lc_, ln_]; first | done | omega))) only [go_sem, ↓reduceIte, set_set]
 rw [set_set] at hI
 rw [hout] at hI
 exact hK _ a _ ws (mo.set (Nat.le_refl _)) (Nat.le_refl _) hI
def c58 : LC :=
 .q [.o [.ki 4 0], .q [.o [.m 6 0, .ll 7 6, .ki 8 0], .block 0 (.loop (.q [.o [.bb 9 .lss false 8 7], .k 9 .skip (.exit 0), .block 1 (.q [.o [.m 10 8, .m 5 10], .o [.m 11 1, .m 12 0, .m 13 5, .ia 14 2 12 13, .ld 15 2 14,
 .s 16 (.callv (.tmp 11) [.tmp 15])], .k 16 (.q [.o [.m 17 5, .m 4 17], .ret]) .skip]), .o [.bk 18 .add false 8 1, .m 8 18]]))], .o [.s 4 (.mov (.const (.int .i64 (-1))))], .ret]
def uu_ : LF := ⟨2, 19, c58, [.tmp 4]⟩
theorem wO_ : av_ prog Tryz.f58 uu_ := am_
theorem fo_ (xs : List cz_) (p : cz_ → Bool) (g : Nat) (caps : List AV) (hcf : caps.all AV.flat = true) (hx : xs.length ≤ 1048576) (hc : b0_ prog g = true) (hp : ∀ x ∈ xs, ∀ h, aa_ prog g (.agg (cz_.cells x) :: caps) h (.val (.bool (p x)))) (h : List Row) :
 aa_ prog 58 [.list 0 2 (xs.map cz_.cells), .fn g [] caps] h (.val (.int .i64 (bg_ p xs 0))) := by
 refine ap_ mixed Tryz.func58 wO_ rfl (by simp only [all_cons, all_nil, ko_, nV_ _ _ hcf]; rfl) ?_ h
 simp (disch := omega) only [uu_, c58, go_sem, reduceCtorEq, Int.reduceNeg, ↓reduceIte]
 refine aB_ (fun n t h => ∃ k : Nat, t 0 = .list 0 2 (xs.map cz_.cells) ∧ t 1 = .fn g [] caps ∧ t 6 = .list 0 2 (xs.map cz_.cells) ∧ t 7 = .val (.int .i64 xs.length) ∧ t 8 = .val (.int .i64 k) ∧ n = xs.length - k ∧ k ≤ xs.length ∧ (bg_ p xs 0 = bg_ p (xs.drop k) k)) (xs.length) ?_ ?_
 ·exact ⟨0, rfl, rfl, rfl, rfl, rfl, rfl, Nat.zero_le _, rfl⟩
 ·rintro J hJ n t h ⟨k, t0, t1, t6, t7, k8, rfl, hk, hS⟩
  by_cases hlt : k < xs.length
  ·skip
   rw [dw_ p xs k hlt] at hS
   simp (disch := omega) only [t0, t1, t7, k8, hlt, hc, cz_.cells, go_sem, reduceEqDiff, Nat.reduceAdd, reduceCtorEq, Int.reduceNeg, ↓reduceIte]
   repeat' (first
    | exact ae_ _ _
    | exact ⟨xs.length - (k + 1), by omega, hJ _ _ _ ⟨k + 1, by simp [upd, t0], by simp [upd, t1], by simp [upd, t6], by simp [upd, t7], by simp [upd], rfl, by omega, by rw [hS]; simp [*]⟩⟩
    | (refine aC_ ?_; rw [hS]; simp [*]; done)
    | (refine aC_ ?_; rw [hS, b8_ _ _ _ (by omega)])
    | simp (disch := omega) only [k8, go_sem, reduceEqDiff, Int.reduceNeg, ↓reduceIte]
    | (refine aa_.call (hp xs[k] (getElem_mem hlt) _) ?_)
    | (refine aa_.q (hp xs[k] (getElem_mem hlt) _) ?_)
    | ((first | (apply ay_; assumption) | (apply ax_; assumption) | (apply aG_; assumption) | (apply aH_; assumption)); intro hb; try simp only [hb])
    | ((first | apply ai_ | apply ak_) <;> intro hb <;> (try simp only [hb]) <;> (first | have hp := aO_ hb | have hp := aQ_ hb | have hp := aR_ hb | have hp := aP_ hb | skip)))
  ·skip
   simp (disch := omega) only [t7, k8, hlt, go_sem, Int.reduceNeg, ↓reduceIte]
   repeat' (first
    | exact ae_ _ _
    | (refine aC_ ?_; rw [hS]; simp [*]; done)
    | (refine aC_ ?_; rw [hS, b8_ _ _ _ (by omega)])
    | simp (disch := omega) only [t0, t1, t6, t7, k8, go_sem, reduceEqDiff, Nat.reduceAdd, reduceLeDiff, reduceCtorEq, Int.reduceLT, Int.reduceLE, Int.reduceNeg, Int.reduceSub, Int.reduceAdd, Int.reduceToNat, ↓reduceIte]
    | (refine aa_.call (hp xs[k] (getElem_mem hlt) _) ?_)
    | (refine aa_.q (hp xs[k] (getElem_mem hlt) _) ?_)
    | ((first | (apply ay_; assumption) | (apply ax_; assumption) | (apply aG_; assumption) | (apply aH_; assumption)); intro hb; try simp only [hb])
    | ((first | apply ai_ | apply ak_) <;> intro hb <;> (try simp only [hb]) <;> (first | have hp := aO_ hb | have hp := aQ_ hb | have hp := aR_ hb | have hp := aP_ hb | skip)))
def c34 : LC :=
 .q [.o [.f 4], .o [.m 5 0, .m 6 1, .c2 7 58 5 6, .bk 8 .geq false 7 0, .m 4 8], .ret]
def vE_ : LF := ⟨2, 9, c34, [.tmp 4]⟩
theorem xK_ : av_ prog Tryz.f34 vE_ := am_
theorem eO_ (xs : List cz_) (p : cz_ → Bool) (g : Nat) (caps : List AV) (hcf : caps.all AV.flat = true) (hx : xs.length ≤ 1048576) (hc : b0_ prog g = true) (hp : ∀ x ∈ xs, ∀ h, aa_ prog g (.agg (cz_.cells x) :: caps) h (.val (.bool (p x)))) (h : List Row) :
 aa_ prog 34 [.list 0 2 (xs.map cz_.cells), .fn g [] caps] h (.val (.bool (xs.any p))) := by
 refine ap_ mixed Tryz.func34 xK_ rfl (by simp only [all_cons, all_nil, ko_, nV_ _ _ hcf]; rfl) ?_ h
 simp (disch := omega) only [vE_, c34, go_sem, reduceEqDiff, reduceCtorEq, ↓reduceIte]
 refine aa_.call (fo_ xs p g caps hcf hx hc hp _) ?_
 simp (disch := omega) only [go_sem, ↓reduceIte]
 exact ac_ (fG_ p xs)
def c35 : LC :=
 .q [.o [.bx 3 53 0, .f 4], .o [.fa 5 1 3, .ln 6 5, .ln 7 1, .bb 8 .eql false 6 7, .m 9 8, .gn 10 9 true 2, .gf 11 9 true 0 3, .gn 12 9 true 11, .g 13 9 true (.call 36 [.tmp 10, .tmp 12]), .pf 14 9 13, .m 4 14], .ret]
def u8_ : LF := ⟨3, 15, c35, [.tmp 4]⟩
theorem xQ_ : av_ prog Tryz.f35 u8_ := am_
def c33 : LC :=
 .q [.o [.bx 3 2 0, .f 4], .o [.ln 5 1, .s 6 (.mkFunc 35 [] [.tmp 3, .tmp 2]), .c2 7 34 5 6, .nt 8 7, .m 4 8], .ret]
def ui_ : LF := ⟨3, 9, c33, [.tmp 4]⟩
theorem wy_ : av_ prog Tryz.f33 ui_ := am_
theorem ge_ (S : List Int) (j : Int) (e : cz_) (hx : S.length ≤ 1048576) (h : List Row) : aa_ prog 35 [.agg (cz_.cells e), .iptr [.val (.int .i64 j)], .iptr [.list 0 1 (S.map bS_)]] h (.val (.bool (ct_ S j (e.From, e.To)))) := by
 refine ap_ mixed Tryz.func35 xQ_ rfl rfl ?_ h
 simp (disch := omega) only [u8_, c35, cz_.cells, go_sem, reduceEqDiff, Nat.reduceAdd, ↓reduceIte]
 by_cases h1 : e.To = j
 ·have h1' : (e.To = j) = True := eq_true h1
  simp (disch := omega) only [h1', go_sem, reduceEqDiff, ↓reduceIte]
  refine aa_.call (gx_ S e.From hx _) ?_
  simp (disch := omega) only [go_sem, reduceEqDiff, ↓reduceIte]
  refine ac_ ?_
  simp [ct_, h1]
 ·have h1' : (e.To = j) = False := eq_false h1
  simp (disch := omega) only [h1', go_sem, reduceEqDiff, ↓reduceIte]
  refine ac_ ?_
  simp [ct_, h1]
theorem qn_ (S : List Int) (j : Int) (E : List (Int × Int)) : (E.map nu_).any (fun e => ct_ S j (e.From, e.To)) = E.any (ct_ S j) := by
 rw [any_map]; rfl
theorem hD_ {E : List (Int × Int)} (hE : E.length ≤ 1048576) {H : List Row} {Eb Lb lo hi : Nat} {EE EL : Tag} {ae a : AV} {S : List Int} (he : H[Eb]? = some ⟨EE, 1, [[ae]]⟩) (hF : ∀ h', bd_ H h' → az_ lo hi h' ae (.list 0 2 (aD_ E))) (hcell : ae.cell = true) (hs : H[Lb]? = some ⟨EL, 1, [[a]]⟩) (ha : ∀ h', bd_ H h' → AW.resolve h' 2 a = some (.list 0 1 (ao_ S))) (hSl : S.length ≤ 1048576) (z : Int) :
 QI 33 [.val (.int .i64 z), .ptr Eb 1 0 0, .ptr Lb 1 0 0] H (.val (.bool (!E.any (ct_ S z)))) := by
 intro K hk
 refine bp_ mixed Tryz.func33 wy_ (co_ rfl ?_)
 have hc' := hcell
 simp only [AV.cell, Value.oneCell'] at hc'
 have m1 : ∀ r, bd_ H (H ++ [r]) := fun r => bd_.app _ _
 have hEl := (List.getElem?_eq_some_iff.1 he).1
 have he' := fun r => (m1 r).at he
 have hs' := fun r => (m1 r).at hs
 simp (disch := (first | omega | (simp only [ls_, la_, lc_, ln_]; first | done | omega))) only [bl_, go_sem, reduceEqDiff, ↓reduceIte, ui_, c33, he]
 have hcall : aa_ prog 34 [ae, .fn 35 [] [.ptr H.length 1 0 0, .ptr Lb 1 0 0]] (H ++ [⟨.ty 2, 1, [[.val (.int .i64 z)]]⟩]) (.val (.bool (E.any (ct_ S z)))) := by
  have := aa_.anyR (H := H ++ [⟨.ty 2, 1, [[.val (.int .i64 z)]]⟩]) rfl (fun h => eO_ (E.map nu_) (fun e => ct_ S z (e.From, e.To)) 35 [.iptr [.val (.int .i64 z)], .iptr [.list 0 1 (S.map bS_)]] rfl (by rw [length_map]; exact hE) (by kernel_rfl) (fun e _ h => ge_ S z e hSl h) h)
   (.cons (by rw [← mZ_]; exact (hF _ (m1 _)).arg.any) (.cons (.res (n := 4) (u4_ (p := []) rfl (l6_ (tR_ (cs := [.val (.int .i64 z)]) (bG_ rfl) rfl (by show 0 < 1; decide)) (h1_ (sE_ (hs' _) (by have := ha _ (m1 ⟨.ty 2, 1, [[.val (.int .i64 z)]]⟩); exact this)))))) .nil))
  rw [qn_] at this
  exact this
 refine aa_.call hcall ?_
 simp (disch := (first | omega | (simp only [ls_, la_, lc_, ln_]; first | done | omega))) only [go_sem, ↓reduceIte]
 exact hk _ (m1 _)
theorem pe_ {lo hi : Nat} {H : List Row} {a r : AV} (h : az_ lo hi H a r) (hr : r.cell = true) : a.cell = true := by
 obtain ⟨n, fs, ho, _⟩ := h.out
 exact ho.cell_of hr
theorem i4_ {a : AV} (h : a.cell = true) : cellsOf a = some [a] := by
 cases a <;> simp_all [cellsOf, AV.cell]
def c15 : LC :=
 .q [.o [.nl 2, .ki 3 0], .q [.o [.m 8 0, .c1 9 23 8, .nt 10 9], .k 10 (.q [.o [.nl 2, .ki 3 1], .ret]) .skip], .o [.m 11 0, .c1 12 24 11, .m 13 0, .c1 14 31 13, .s 15 (.buildSlice 2 1 (.int .i64 0) 0 []), .s 4 (.alloc 24
 (.slice none 0 0)), .s 5 (.alloc 34 (.slice none 0 0)), .st 1 4 12, .st 1 5 14, .m 6 15], .block 0 (.loop (.q [.q [.o [.ln 16 5, .ll 17 16, .bk 18 .gtr false 17 0], .k 18 .skip (.exit 0)], .block 1 (.q [.o [.ln 19 5, .s
 20 (.mkFunc 33 [] [.tmp 4, .tmp 5]), .c2 21 32 19 20, .m 7 21], .q [.o [.m 22 7, .bk 23 .lss false 22 0], .k 23 (.q [.o [.nl 2, .ki 3 5], .ret]) .skip], .o [.m 24 6, .ln 25 5, .m 26 7, .ia 27 1 25 26, .ln 28 27, .s 29
 (.buildSlice 2 1 (.int .i64 0) 1 [(0, .tmp 28)]), .ap 30 2 1 8 24 29, .m 6 30], .o [.ln 31 5, .m 32 7, .m 33 7, .bk 34 .add false 33 1, .c3 35 37 31 32 34, .st 1 5 35]])])), .o [.m 36 6, .m 2 36, .ki 3 0], .ret]
def vG_ : LF := ⟨1, 37, c15, [.tmp 2, .tmp 3]⟩
theorem xf_ : av_ prog Tryz.f15 vG_ := am_
theorem dh_ (xs : List ab_) (hs : aI_ ab_.sz xs ≤ 1048576) : bh_ prog 15 [.list 0 6 (xs.map ab_.cells)] (eX_ (bq_ xs)) (fun a => ∃ b q, a = .tup [b, .val (.int .i64 q)]) := by
 refine fT_ mixed Tryz.func15 xf_ rfl (fun h0 => ?_)
 simp (disch := (first | omega | (simp only [ls_, la_, lc_, ln_]; first | done | omega))) only [go_sem, reduceCtorEq, ↓reduceIte, vG_, c15]
 refine aa_.call (jU_ xs hs _) ?_
 cases q : bZ_ xs
 ·simp (disch := (first | omega | (simp only [ls_, la_, lc_, ln_]; first | done | omega))) only [go_sem, reduceEqDiff, ↓reduceIte]
  rw [jH_ q]
  exact ⟨⟨bd_.refl _, az_.pair (az_.mknil _ _ _ 1) (by simp) _⟩, _, _, rfl⟩
 have hd := hs_ q
 have hx := bz_ hs
 have hjl := iG_ xs
 have hel := kP_ xs
 simp (disch := (first | omega | (simp only [ls_, la_, lc_, ln_]; first | done | omega))) only [go_sem, reduceCtorEq, ↓reduceIte]
 refine fJ_ (iW_ xs hs hd.2.1) (fun ae H1 m1 F1 _ => ?_)
 rw [n5_ q] at F1
 have hac : ae.cell = true := pe_ F1.tree rfl
 have hac' := i4_ hac
 simp only [cellsOf, AV.cell, Value.oneCell'] at hac'
 simp (disch := (first | omega | (simp only [ls_, la_, lc_, ln_]; first | done | omega))) only [go_sem, reduceCtorEq, ↓reduceIte]
 refine kw_ xs hs _ _ (fun H2 a0 l ws0 m2 hl hI0 => ?_)
 have hll0 := (List.getElem?_eq_some_iff.1 hI0.1).1
 have hac2 : a0.cell = true := by rcases hI0.2.2 with rfl | ⟨rfl, _⟩ <;> rfl
 have hac2' := i4_ hac2
 simp only [cellsOf, AV.cell, Value.oneCell'] at hac2'
 have l1 := m1.len
 have l2 := m2.len
 simp (disch := (first | omega | (simp only [ls_, la_, lc_, ln_]; first | done | omega))) only [gY_, l2_, go_sem, reduceEqDiff, Nat.reduceAdd, ↓reduceIte, hac', hac2']
 refine aB_ (fun m t h => ∃ (S out : List Int) (a : AV) (ws : List Int), t 4 = .ptr (H2.length + 1) 1 0 0 ∧ t 5 = .ptr (H2.length + 2) 1 0 0 ∧ t 6 = .own H2.length out.length ∧ bd_ H1 h ∧ h[H2.length + 1]? = some ⟨.ty 24, 1, [[ae]]⟩ ∧ h[H2.length + 2]? = some ⟨.ty 34, 1, [[a]]⟩ ∧ h[H2.length]? = some ⟨.ty 2, 1, ao_ out⟩ ∧ hk_ h a S l ws ∧ m = S.length ∧ S.length + out.length ≤ 60 ∧ iH_ xs = cD_ (cu_ ab_.Job bo_ xs) S.length S out) (fP_ xs).length ⟨fP_ xs, [], a0, ws0, ?_, ?_, ?_, ?_, ?_, ?_, ?_, ?_, rfl, by simp; omega, rfl⟩ ?_
 ·simp [upd]
 ·simp [upd]
 ·simp [upd]
 ·exact m2.add _
 ·exact gY_ rfl
 ·exact l2_ rfl
 ·exact bG_ rfl
 ·exact hI0.keep (bl_ hll0)
 rintro J hJ m t h ⟨S, out, a, ws, t4, t5, t6, mo, oE, oL, oM, hI, rfl, hlen, hS⟩
 have hlE := (List.getElem?_eq_some_iff.1 oE).1
 have hlL := (List.getElem?_eq_some_iff.1 oL).1
 have hll := (List.getElem?_eq_some_iff.1 hI.1).1
 have hac3 : a.cell = true := by rcases hI.2.2 with rfl | ⟨rfl, _⟩ <;> rfl
 have hac3' := hac3
 simp only [AV.cell, Value.oneCell'] at hac3'
 have hwl : S.length ≤ ws.length := by
  have := congrArg List.length hI.2.1
  rw [length_take] at this; omega
 have hrow := hI.1
 by_cases hp : 0 < S.length
 case neg =>
  have e : S = [] := eq_nil_of_length_eq_zero (by omega)
  have hz : ((0 : Int) < (S.length : Int)) = False := eq_false (by omega)
  subst e
  have fin : Res h0 h (.tup [.own H2.length out.length, .val (.int .i64 0)]) (eX_ (bq_ xs)) := by
   rw [iu_ q hS]
   exact ⟨m1.trans mo, az_.pair (bP_.ofInts oM (by omega)).b (by omega) _⟩
  rcases hI.2.2 with rfl | ⟨rfl, rfl⟩
  ·simp (disch := (first | omega | (simp only [ls_, la_, lc_, ln_]; first | done | omega))) only [go_sem, reduceEqDiff, ↓reduceIte, t5, t6, oL, hrow, aS_, ln_, Nat.sub_zero, Int.lt_irrefl]
   exact ⟨fin, _, _, rfl⟩
  ·simp (disch := (first | omega | (simp only [ls_, la_, lc_, ln_]; first | done | omega))) only [go_sem, reduceEqDiff, ↓reduceIte, t5, t6, oL, hrow, aS_, ln_, Int.lt_irrefl]
   exact ⟨fin, _, _, rfl⟩
 have hz : ((0 : Int) < (S.length : Int)) = True := eq_true (by omega)
 have hfr : ∀ H', bd_ h H' → az_ h0.length H1.length H' ae (.list 0 2 (aD_ (cu_ ab_.Job bo_ xs))) := fun H' m' => F1.tree.keep (fun y _ hy => (mo.trans m').kept y hy)
 have hidx : ∀ K : AV → List Row → Prop, (∀ H', bd_ h H' → K (.val (.int .i64 (eH_ (cu_ ab_.Job bo_ xs) S))) H') → callSem prog 32 [.sub l ws.length 0 S.length, .fn 33 [] [.ptr (H2.length + 1) 1 0 0, .ptr (H2.length + 2) 1 0 0]] h K := by
  have := gs_ hI.1 (fun z => !(cu_ ab_.Job bo_ xs).any (ct_ S z)) 33 [.ptr (H2.length + 1) 1 0 0, .ptr (H2.length + 2) 1 0 0] hwl (by omega) (by kernel_rfl) (fun H' m' z _ => hD_ (by omega) (m'.at oE) (fun h' m3 => hfr h' (m'.trans m3)) hac (m'.at oL) (fun h' m3 => (hI.keep ((m'.trans m3).kept l hll)).res 0) (by omega) z)
  rw [hI.2.1] at this
  exact this
 have hdel : ∀ (k : Nat) (H : List Row), k < S.length → H[l]? = some ⟨.ty 2, 1, ao_ ws⟩ → ∀ K : AV → List Row → Prop, (∀ H' ws', H'.length = H.length → (∀ y, y ≠ l → H'[y]? = H[y]?) → H'[l]? = some ⟨.ty 2, 1, ao_ ws'⟩ → ws'.length = ws.length → ws'.take (S.length - 1) = S.eraseIdx k → K (.sub l ws.length 0 (S.length - 1)) H') → callSem prog 37 [.sub l ws.length 0 S.length, .val (.int .i64 k), .val (.int .i64 ((k : Int) + 1))] H K := by
  intro k H hk hr K hK
  refine hC_ hr hwl hk (by omega) (fun H' ws' g1 g2 g3 g4 g5 => hK H' ws' g1 g2 g3 g4 ?_)
  rw [g5, hI.2.1]
 rcases hI.2.2 with rfl | ⟨rfl, rfl⟩
 ·simp (disch := (first | omega | (simp only [ls_, la_, lc_, ln_]; first | done | omega))) only [go_sem, reduceEqDiff, ↓reduceIte, t4, t5, oL, hrow, hz, aS_, Nat.sub_zero]
  refine hidx _ (fun H3 m3 => ?_)
  have pE := m3.at oE
  have pL := m3.at oL
  have pM := m3.at oM
  have pr := m3.at hrow
  have l3 := m3.len
  rcases hf_ (cu_ ab_.Job bo_ xs) S with hf | ⟨k, hk, hf⟩
  ·rw [hf]
   simp (disch := (first | omega | (simp only [ls_, la_, lc_, ln_]; first | done | omega))) only [go_sem, reduceEqDiff, Int.reduceNeg, ↓reduceIte]
   rw [f2_ q (by rw [hS, kZ_ hp hf])]
   exact ⟨⟨(m1.trans mo).trans m3, az_.pair (az_.mknil _ _ _ 1) (by omega) _⟩, _, _, rfl⟩
  rw [hf]
  have hneg : ((k : Int) < 0) = False := eq_false (by omega)
  obtain ⟨n, hn⟩ : ∃ n, S.length = n + 1 := ⟨S.length - 1, by omega⟩
  have hkw : k < ws.length := by omega
  have hwk : ws[k] = S[k] := by
   have := congrArg (fun z => z[k]?) hI.2.1
   simp only [getElem?_take, hk, if_true] at this
   rw [getElem?_eq_getElem hkw, getElem?_eq_getElem hk] at this
   exact Option.some.inj this
  have hg := cc_ ws k hkw
  rw [hwk] at hg
  simp (disch := (first | omega | (simp only [ls_, la_, lc_, ln_]; first | done | omega))) only [bn_, bl_, bG_, go_sem, reduceEqDiff, reduceLeDiff, ↓reduceIte, t5, t6, pL, pM, pr, hneg, hg, hk, aS_, eJ_, dJ_, Int.zero_add, Nat.zero_add, aq_]
  repeat (refine And.intro (by first | omega | exact eo_ _ | exact dg_ _ | (simp; done)) ?_)
  have n1 : H2.length + 2 < H3.length := by omega
  refine hdel k _ hk (by rw [bn_ (by omega), bl_ (by omega)]; exact pr) _ (fun H' ws' g1 g2 g3 g4 g5 => ?_)
  simp only [ls_, la_, lc_, ln_] at g1
  have qE : H'[H2.length + 1]? = _ := (g2 _ (by omega)).trans ((bn_ (by omega)).trans ((bl_ (by omega)).trans pE))
  have qL : H'[H2.length + 2]? = _ := (g2 _ (by omega)).trans ((bn_ (by omega)).trans ((bl_ (by omega)).trans pL))
  have qM : H'[H2.length]? = _ := (g2 _ (by omega)).trans (cd_ (by simp; omega))
  simp (disch := (first | omega | (simp only [ls_, la_, lc_, ln_]; first | done | omega))) only [go_sem, reduceEqDiff, ↓reduceIte, t5, qL]
  have hel2 : (S.eraseIdx k).length = S.length - 1 := length_eraseIdx_of_lt hk
  refine ⟨(S.eraseIdx k).length, by omega, hJ _ _ _ ⟨S.eraseIdx k, out ++ [S[k]], .sub l ws.length 0 (S.length - 1), ws', by simp [upd, t4], by simp [upd, t5], by simp [upd], ⟨by simp; omega, fun y hy => ?_⟩, ?_, cd_ (by omega), ?_, ⟨?_, by rw [hel2]; exact g5, .inl (by rw [g4, hel2])⟩, rfl, by rw [la_, length_singleton]; omega, by rw [hS, lw_ hn hk hf]⟩⟩
  ·rw [bn_ (by omega), g2 y (by omega), bn_ (by omega), bl_ (by omega), m3.kept y (by omega)]; exact mo.kept y hy
  ·rw [bn_ (by omega)]; exact qE
  ·rw [bn_ (by omega)]; exact qM
  ·rw [bn_ (by omega)]; exact g3
 ·simp (disch := (first | omega | (simp only [ls_, la_, lc_, ln_]; first | done | omega))) only [go_sem, reduceEqDiff, ↓reduceIte, t4, t5, oL, hrow, hz, aS_]
  refine callSem.own_sub (hidx _ (fun H3 m3 => ?_))
  have pE := m3.at oE
  have pL := m3.at oL
  have pM := m3.at oM
  have pr := m3.at hrow
  have l3 := m3.len
  rcases hf_ (cu_ ab_.Job bo_ xs) ws with hf | ⟨k, hk, hf⟩
  ·rw [hf]
   simp (disch := (first | omega | (simp only [ls_, la_, lc_, ln_]; first | done | omega))) only [go_sem, reduceEqDiff, Int.reduceNeg, ↓reduceIte]
   rw [f2_ q (by rw [hS, kZ_ hp hf])]
   exact ⟨⟨(m1.trans mo).trans m3, az_.pair (az_.mknil _ _ _ 1) (by omega) _⟩, _, _, rfl⟩
  rw [hf]
  have hneg : ((k : Int) < 0) = False := eq_false (by omega)
  obtain ⟨n, hn⟩ : ∃ n, ws.length = n + 1 := ⟨ws.length - 1, by omega⟩
  have hkw : k < ws.length := by omega
  have hwk : ws[k] = ws[k] := rfl
  have hg := cc_ ws k hkw
  rw [hwk] at hg
  simp (disch := (first | omega | (simp only [ls_, la_, lc_, ln_]; first | done | omega))) only [bn_, bl_, bG_, go_sem, reduceEqDiff, reduceLeDiff, ↓reduceIte, t5, t6, pL, pM, pr, hneg, hg, hk, aS_, eJ_, dJ_, Nat.zero_add, aq_]
  repeat (refine And.intro (by first | omega | exact eo_ _ | exact dg_ _ | (simp; done)) ?_)
  have n1 : H2.length + 2 < H3.length := by omega
  refine callSem.own_sub (hdel k _ hk (by rw [bn_ (by omega), bl_ (by omega)]; exact pr) _ (fun H' ws' g1 g2 g3 g4 g5 => ?_))
  simp only [ls_, la_, lc_, ln_] at g1
  have qE : H'[H2.length + 1]? = _ := (g2 _ (by omega)).trans ((bn_ (by omega)).trans ((bl_ (by omega)).trans pE))
  have qL : H'[H2.length + 2]? = _ := (g2 _ (by omega)).trans ((bn_ (by omega)).trans ((bl_ (by omega)).trans pL))
  have qM : H'[H2.length]? = _ := (g2 _ (by omega)).trans (cd_ (by simp; omega))
  simp (disch := (first | omega | (simp only [ls_, la_, lc_, ln_]; first | done | omega))) only [go_sem, reduceEqDiff, ↓reduceIte, t5, qL]
  have hel2 : (ws.eraseIdx k).length = ws.length - 1 := length_eraseIdx_of_lt hk
  refine ⟨(ws.eraseIdx k).length, by omega, hJ _ _ _ ⟨ws.eraseIdx k, out ++ [ws[k]], .sub l ws.length 0 (ws.length - 1), ws', by simp [upd, t4], by simp [upd, t5], by simp [upd], ⟨by simp; omega, fun y hy => ?_⟩, ?_, cd_ (by omega), ?_, ⟨?_, by rw [hel2]; exact g5, .inl (by rw [g4, hel2])⟩, rfl, by rw [la_, length_singleton]; omega, by rw [hS, lw_ hn hk hf]⟩⟩
  ·rw [bn_ (by omega), g2 y (by omega), bn_ (by omega), bl_ (by omega), m3.kept y (by omega)]; exact mo.kept y hy
  ·rw [bn_ (by omega)]; exact qE
  ·rw [bn_ (by omega)]; exact qM
  ·rw [bn_ (by omega)]; exact g3
end Go.Proofs.YtddmifalinefnaaGreatDoor
